/- Texts laid together: Fv, LawSFulls. No condition. -/
import Derived.Test.YtookpmdgoednfaaRows
import Derived.ChangeMaps
import Derived.ChangeMaps5
import Derived.Deep.Slices
import Derived.ChangeAt
import Derived.JoinedOf
import Derived.Carry
import Derived.OpenShut
import Derived.ChangeOld
import Derived.WalkKit
import Derived.ProofKit
import Derived.Below
import Derived.Test.YtookpmdgoednfaaYFz14
set_option linter.unusedVariables false
set_option linter.unusedSimpArgs false
set_option maxRecDepth 100000
set_option maxHeartbeats 8000000
namespace Go.Proofs.Ytookpmdgoednfaa.Fv
open Go.RowKit YtookpmdgoednfaaW.PrintWords YtookpmdgoednfaaW.PrintLast YtookpmdgoednfaaW.PrintMore Mx St Ks Sw Su Sv Sx Sq Sh Fu
theorem fulls_calls (x : Int) (hx : (Lit.int .u8 x).wf = true) (v : ByteArray) (w : World) : Calls Try.prog 8 #[.int .u8 x, .string v] w fun e w' => e = .returned (.bool true) ∧ Mem w w' [] := by
  have hx0 : 0 ≤ x ∧ x ≤ 255 := by simp [Lit.wf, IntKind.bits, IntKind.signed, IntKind.min, IntKind.max, IntKind.wrap] at hx; omega
  obtain ⟨h0, h1⟩ := hx0
  obtain ⟨m, hm⟩ : ∃ m : Nat, x.tmod 60 = (m : Int) ∧ m < 60 := ⟨(x.tmod 60).toNat, by rw [Int.tmod_eq_emod_of_nonneg h0]; omega, by rw [Int.tmod_eq_emod_of_nonneg h0]; omega⟩
  have HM := Aside0.mk hm.2
  have p0 : IntKind.i64.wrap x = x := by unfold IntKind.wrap; simp [IntKind.bits, IntKind.signed]; omega
  have p1 : x.tmod 60 = (m : Int) := hm.1
  have p2 : IntKind.i64.wrap (1 + (m : Int)) = ((m + 1 : Nat) : Int) := by rw [show 1 + (m : Int) = ((m + 1 : Nat) : Int) by omega]; exact Tzw _ (by omega)
  have p3 : IntKind.i64.wrap (m : Int) = (m : Int) := Tzw _ (by omega)
  have M0 := Aside0.mk (Mem.nil w)
  have HKK := Aside0.mk (show kk.size ≤ maxLen by decide)
  have HKN := Aside0.mk (show knone.size ≤ maxLen by decide)
  clear hx h0 h1 hm
  go_enter Try.func8, Try.ntmps8
  by_cases hv : v.size > 500
  · have q1 : decide ((500 : Int) < (v.size : Int)) = true := decide_eq_true (by omega)
    have q2 : decide ((v.size : Int) > (500 : Int)) = true := decide_eq_true (by omega)
    go_wp2_with fail
    refine (awake_calls _).mono ?_
    rintro e w1 ⟨rfl, hM⟩
    have M1 := Aside0.mk hM
    clear hM
    go_wp2_with fail
    go_ret
    exact ⟨rfl, M1.out⟩
  · have q1 : decide ((500 : Int) < (v.size : Int)) = false := decide_eq_false (by omega)
    have q2 : decide ((v.size : Int) > (500 : Int)) = false := decide_eq_false (by omega)
    clear hv
    go_wp2_with fail
    refine (New_calls M0.out ((m + 1 : Nat) : Int) (by omega) (by have := HM.out; omega)).mono ?_
    rintro e w1 ⟨g, gm, rfl, hA⟩
    have HA : Aside0 (StA w w1 g gm (full ((m + 1 : Nat) : Int) v 0) []) := Aside0.mk hA
    clear hA
    go_wp2_with fail
    refine (num_calls _ _).mono ?_
    rintro e w2 ⟨rfl, rfl⟩
    clear q1 q2 p0 p1 p2 p3
    go_wp2_with fail
    go_loopg [8] (m + 2) (fun kq v8 w' => ∃ (i : Nat), v8 = .int .i64 i ∧ Aside0 (i ≤ m + 1 ∧ kq = m + 2 - i) ∧ Aside0 (StA w w' g gm (full ((m + 1 : Nat) : Int) v i) []))
    case atStart => exact ⟨0, rfl, ⟨by omega, by omega⟩, HA⟩
    case round =>
      clear HA
      obtain ⟨i, rfl, HK, HA⟩ := hrel
      have hib : i ≤ 60 := by have := HM.out; have := HK.out.1; omega
      by_cases hlt : i < m + 1
      · have d1 : decide ((i : Int) < ((m + 1 : Nat) : Int)) = true := decide_eq_true (by omega)
        have d2 : decide ((i : Int) < (m : Int) + 1) = true := decide_eq_true (by omega)
        have d3 : ((i : Int) < (m : Int) + 1) = True := eq_true (by omega)
        have p4 : IntKind.i64.wrap ((i : Int) + 1) = (i : Int) + 1 := by have := Tzw (i + 1) (by omega); push_cast at this; exact this
        go_wp2_with fail
        refine (Put_calls HA.out (full_inv _ v (by omega) (by have := HM.out; omega) i (by omega)) (by show (some_ v i).length ≤ 300; rw [some_len]; omega) ((i : Int) + 1) (k := kk) HKK.out v).mono ?_
        rintro e w3 ⟨he, hA⟩
        change e = .returned (.int .i64 (put (full ((m + 1 : Nat) : Int) v i) (at1 v i)).2) at he
        change StA w w3 g gm (put (full ((m + 1 : Nat) : Int) v i) (at1 v i)).1 [] at hA
        rw [full_put _ v (by omega) (by have := HM.out; omega)] at he hA
        subst he
        have HA2 := Aside0.mk hA
        clear hA
        go_wp2_with fail
        refine (num_calls _ _).mono ?_
        rintro e w4 ⟨rfl, rfl⟩
        go_wp2_with fail
        go_roundg (m + 1 - i)
        case measure => have := HK.out; omega
        case rel => exact ⟨i + 1, by go_num, ⟨by omega, by have := HK.out; omega⟩, HA2⟩
      · have he : i = m + 1 := by have := HK.out.1; omega
        subst he
        clear hlt HK hib
        have d1 : decide (((m + 1 : Nat) : Int) < ((m + 1 : Nat) : Int)) = false := decide_eq_false (by omega)
        have p4 : IntKind.i64.wrap ((m : Int) + 1 + 1) = (m : Int) + 1 + 1 := by have := Tzw (m + 2) (by have := HM.out; omega); push_cast at this; rw [show (m : Int) + 1 + 1 = (m : Int) + 2 by omega]; exact this
        have p5 : IntKind.i64.wrap ((m : Int) + 1 - 1) = (m : Int) := by rw [show (m : Int) + 1 - 1 = (m : Int) by omega]; exact Tzw _ (by have := HM.out; omega)
        have p7 : wrap64 (m : Int) = (m : Int) := by unfold wrap64; have := HM.out; clear p4 p5; omega
        have p6 : IntKind.i64.wrap ((m : Int) + 1 + 5) = (m : Int) + 1 + 5 := by have := Tzw (m + 6) (by have := HM.out; omega); push_cast at this; rw [show (m : Int) + 1 + 5 = (m : Int) + 6 by omega]; exact this
        have HI := Aside0.mk (full_inv ((m + 1 : Nat) : Int) v (by omega) (by have := HM.out; omega) (m + 1) (Int.le_refl _))
        have HF := Aside0.mk (show (full ((m + 1 : Nat) : Int) v (m + 1)).l.length ≤ 300 by show (some_ v (m + 1)).length ≤ 300; rw [some_len]; have := HM.out; omega)
        have HM1 := Aside0.mk (show m + 1 ≤ 60 from HM.out)
        have HTI := Aside0.mk (turned_inv (v := v) HM1.out)
        have HTL := Aside0.mk (show (turned v m).l.length ≤ 300 by rw [turned_len]; have := HM.out; omega)
        go_wp2_with fail
        refine (Put_calls HA.out HI.out HF.out (((m + 1 : Nat) : Int) + 1) (k := kk) HKK.out kmore).mono ?_
        rintro e w3 ⟨he, hA⟩
        rw [full_more HM1.out] at he hA
        subst he
        have HA1 := Aside0.mk hA
        clear hA
        go_wp2_with fail
        refine (Del_calls HA1.out HI.out HF.out (((m + 1 : Nat) : Int) + 1) (k := kk) HKK.out).mono ?_
        rintro e w4 ⟨he, hA⟩
        rw [full_del HM1.out] at he hA
        subst he
        have HA2 := Aside0.mk hA
        clear hA
        go_wp2_with fail
        refine (Put_calls HA2.out HI.out HF.out ((m + 1 : Nat) : Int) (k := kk) HKK.out kturned).mono ?_
        rintro e w5 ⟨he, hA⟩
        rw [full_turn HM1.out] at he hA
        subst he
        have HA3 := Aside0.mk hA
        clear hA
        go_wp2_with fail
        refine (Get_A HA3.out HTI.out HTL.out ((m + 1 : Nat) : Int) (k := kk) HKK.out).mono ?_
        rintro e w6 ⟨he, hA⟩
        rw [turned_get] at he
        subst he
        have HA4 := Aside0.mk hA
        clear hA
        go_wp2_with fail
        refine (Put_calls HA4.out HTI.out HTL.out (m : Int) (k := kk) HKK.out kx).mono ?_
        rintro e w7 ⟨he, hA⟩
        rw [turned_ahead] at he hA
        subst he
        have HA5 := Aside0.mk hA
        clear hA
        go_wp2_with fail
        refine (num_calls _ _).mono ?_
        rintro e w8 ⟨rfl, rfl⟩
        go_wp2_with fail
        refine (num_calls _ _).mono ?_
        rintro e w8 ⟨rfl, rfl⟩
        go_wp2_with fail
        refine (num_calls _ _).mono ?_
        rintro e w8 ⟨rfl, rfl⟩
        have hx : kturned.toList = [116, 117, 114, 110, 101, 100] := by unfold kturned; rw [Lib.toList_data]
        go_wp2_with fail
        refine (num_calls _ _).mono ?_
        rintro e w8 ⟨rfl, rfl⟩
        go_wp2_with fail
        refine (Size_A HA5.out).mono ?_
        rintro e w8 ⟨he, rfl⟩
        rw [turned_len] at he
        subst he
        go_wp2_with fail
        refine (Last_A HA5.out HTL.out (k := kk) HKK.out).mono ?_
        rintro e w8 ⟨he, rfl⟩
        rw [turned_last] at he
        subst he
        go_wp2_with fail
        refine (Del_calls HA5.out HTI.out HTL.out (((m + 1 : Nat) : Int) + 5) (k := knone) HKN.out).mono ?_
        rintro e w9 ⟨he, hA⟩
        rw [turned_none HM1.out] at he hA
        subst he
        have HA6 := Aside0.mk hA
        clear hA
        go_wp2_with fail
        refine (num_calls _ _).mono ?_
        rintro e w10 ⟨rfl, rfl⟩
        go_wp2_with fail
        go_ret
        exact ⟨rfl, StA.rest HA6.out⟩
end Go.Proofs.Ytookpmdgoednfaa.Fv
namespace Go.Proofs.Ytookpmdgoednfaa.LawSFulls
open Go.ChangeShapes Go.WideShapes Go.ChangeAt Go.RowKit YtookpmdgoednfaaW.PrintWords Fv Mx
theorem own : ownKnob Try.prog.godebug = none := by kernel_rfl
theorem laidOut : laidOutB Try.prog = true := by kernel_rfl
theorem lifted (os : Os) (started : os.Started) (H : Type) (enc : TypeId × Value → H) :
    ReturnsInHanded {} Try.checked os 8 .any (Rows.storeFullsSpec.pre6 enc Try.prog Try.f8 Rows.storeFullsRow.domain false) (Rows.storeFullsSpec.post enc Try.prog Try.f8 false true false false) := by
  refine returnsInHanded_of_change (C := Try.checked) own started (by kernel_rfl) Try.func8
    (ChangeSpec.witness6 (enc := enc) (C := Try.checked) false ⟨#[], #[.int .u8 0, .string ⟨#[]⟩], []⟩ 8 (by kernel_rfl) (by kernel_rfl) (by kernel_rfl) (by kernel_rfl)) ?_
  intro W base args ds gs before hval0 hW hcnd _
  have hval : ∀ (j : Nat) t v, Try.f8.params[j]? = some t → args[j]? = some v → Value.okWide Try.prog W .any base t v := hval0
  have hW' := hW
  obtain ⟨p, q, hA0, hV, rfl, hfz, hnd⟩ := hW
  have hA : DataW.TrodAll enc Try.prog W 0 (fun _ => true) true Try.f8.params.toList args.toList ds p := hA0
  rw [Try.params8] at hA hval
  obtain ⟨v0, v1, d0, d1, p0, p1, rfl, rfl, rfl, h0, h1⟩ := trodAll_two hA
  obtain ⟨rfl, rfl⟩ := trodVars_none hV
  obtain ⟨x0, rfl, rfl, rfl, w0⟩ := open_int Try.underlying5 (hval 0 5 v0 rfl rfl) h0
  obtain ⟨x1, rfl, rfl, rfl, w1⟩ := Go.ChangeMaps.open_string Try.underlying9 (hval 1 9 v1 rfl rfl) h1
  clear hA0 hval0
  refine (Fv.fulls_calls x0 w0 x1 W).mono fun e W' ⟨he, hM⟩ => ?_
  subst he
  have bel := hM.below
  exact ⟨_, rfl, _, _, _, [], _, [], hW', trodAll_mk1 (shut_bool Try.underlying4 _), (trodAll_cons_mk (shut_int Try.underlying5 w0) (trodAll_cons_mk (Go.ChangeMaps.shut_string Try.underlying9 w1) trodAll_mk0)), rfl, bel.frame _, fun h => by cases h⟩
theorem over : Rows.storeFullsRow.holds Try.pinned (OpenSpec.ofChange Rows.storeFullsSpec) :=
  OpenClaim.holds_of_wide 8 Try.f8 rfl rfl rfl rfl rfl rfl rfl ⟨rfl, rfl, rfl, rfl, rfl⟩ rfl rfl rfl rfl rfl (by kernel_rfl) Try.func8 (by kernel_rfl)
    (of_decide_eq_true (by kernel_rfl)) (by unfold Func.isWrapper; first | (rw [if_pos (by decide +kernel)]; kernel_rfl) | (rw [if_neg (by decide +kernel)]; exact ⟨rfl, rfl⟩))
    (fun os started H enc _ => lifted os started H enc)
theorem proved : Rows.StoreFullsSaid := over
#print axioms proved
end Go.Proofs.Ytookpmdgoednfaa.LawSFulls
namespace Go.Proofs.Ytookpmdgoednfaa
theorem storeFulls_holds : Rows.StoreFullsSaid := LawSFulls.proved
end Go.Proofs.Ytookpmdgoednfaa
