/- Texts laid together: Lt8, LawSTrims. No condition. -/
import Derived.Test.YtookpmdgoednfaaRows
import Derived.ChangeMaps
import Derived.ChangeMaps5
import Derived.Deep.Slices
import Derived.ChangeAt
import Derived.JoinedOf
import Derived.Carry
import Derived.OpenShut
import Derived.ChangeOld
import Derived.WalkKit
import Derived.ProofKit
import Derived.Below
import Derived.Test.YtookpmdgoednfaaYTz16
set_option linter.unusedVariables false
set_option linter.unusedSimpArgs false
set_option maxRecDepth 100000
set_option maxHeartbeats 8000000
namespace Go.Proofs.Ytookpmdgoednfaa.Lt8
open Go.RowKit YtookpmdgoednfaaW.PrintWords YtookpmdgoednfaaW.PrintLast YtookpmdgoednfaaW.PrintMore Mx PPagePuts St Ks Sw Su Sv Sx Sq Sh Sk Pt8
open Pa hiding SP
theorem trims_calls (A : Option Addr) (c : Nat) (l : List SA8) (time later : Int) (w : World) (hC : Kd.C kA8 w A l.length l) :
    Calls Try.prog 9 #[.slice A l.length c, .int .i64 time, .int .i64 later] w fun e w' => e = .returned (.bool true) ∧ Mem w w' [] := by
  have HC := Aside0.mk hC
  have M0 := Aside0.mk (Mem.nil w)
  clear hC
  go_enter Try.func9, Try.ntmps9
  go_wp2_with fail
  refine (heavy_calls A c l w HC.out).mono ?_
  rintro e w1 ⟨b, rfl, rfl, hb⟩
  have HB := Aside0.mk hb
  clear hb
  have AW := Aside0.mk (fun (w1 : World) => (awake_calls w1 : Calls Try.prog 34 #[] w1 fun e w' => e = .returned (.bool true) ∧ Mem w1 w' []))
  cases b with
  | true =>
    go_wp2_with fail
    refine (AW.out _).mono ?_
    rintro e w2 ⟨rfl, hM⟩
    have M2 := Aside0.mk hM
    clear hM
    go_wp2_with fail
    go_ret
    exact ⟨rfl, M2.out⟩
  | false =>
  by_cases hlt : later < time
  · have d1 : decide (later < time) = true := decide_eq_true hlt
    clear hlt
    go_wp2_with fail
    refine (AW.out _).mono ?_
    rintro e w2 ⟨rfl, hM⟩
    have M2 := Aside0.mk hM
    clear hM
    go_wp2_with fail
    go_ret
    exact ⟨rfl, M2.out⟩
  · have d1 : decide (later < time) = false := decide_eq_false hlt
    have HLT0 := Aside0.mk (show time ≤ later by omega)
    have HLL := Aside0.mk (HB.out rfl)
    clear hlt HB
    go_wp2_with fail
    refine (New_calls M0.out 60 (by decide) (by decide)).mono ?_
    rintro e w2 ⟨g, gm, rfl, hA⟩
    have HA := Aside0.mk hA
    clear hA
    go_wp2_with fail
    refine (num_calls _ _).mono ?_
    rintro e w3 ⟨rfl, rfl⟩
    clear d1
    go_wp2_with fail
    go_loopg [9] (l.length + 1) (fun kq v9 w' => ∃ (i : Nat) (s : St), v9 = .int .i64 i ∧ Aside0 (i ≤ l.length ∧ kq = l.length + 1 - i) ∧ Aside0 (Kept8 60 s) ∧ Aside0 (StA w1 w' g gm s []))
    case atStart => exact ⟨0, new 60, rfl, ⟨by omega, by omega⟩, ⟨Kept8.new (by decide)⟩, HA⟩
    case round =>
      clear HA
      obtain ⟨i, s, rfl, HK, HG, HA⟩ := hrel
      have hib : i ≤ 100 := by have := HK.out.1; have := HLL.out.1; omega
      by_cases hlt : i < l.length
      · have q1 : decide ((i : Int) < (l.length : Int)) = true := decide_eq_true (by omega)
        have q2 : ((i : Int) < (l.length : Int)) = True := eq_true (by omega)
        have HLT := Aside0.mk hlt
        obtain ⟨ad, had, c0, c1, _, c3, c4⟩ := atkA8 (Kd.C_below HC.out (StA.rest HA.out).below) (i : Int) (by omega) (by omega)
        subst had
        rw [rdA_at hlt] at c0 c1 c3 c4
        rw [Int.toNat_natCast] at c0 c1 c3 c4
        have HY := Aside0.mk (HLL.out.2 _ (List.getElem_mem hlt))
        generalize l[i] = y at c0 c1 c3 c4 HY
        have HYK := Aside0.mk (show y.f3.size ≤ maxLen from Nat.le_trans HY.out.1 (by decide))
        clear hlt
        by_cases h2 : y.f0 = 2
        · have q3 : (y.f0 == 2) = true := beq_iff_eq.2 h2
          clear h2
          go_upto_region 10 with (fail)
          refine start_ (n := 12) (S := fun w' => (w'.cell? ⟨(ad.add (i * 5)).block, (ad.add (i * 5)).off + 1, none⟩ = some (.int .i64 y.f1)) ∧ (w'.cell? ⟨(ad.add (i * 5)).block, (ad.add (i * 5)).off + 3, none⟩ = some (.string y.f3)) ∧ (w'.cell? ⟨(ad.add (i * 5)).block, (ad.add (i * 5)).off + 4, none⟩ = some (.string y.f4))) (ds := [11]) #[false, false, false, false, false, false, false, false, false, false, false, false] (by kernel_rfl) rfl rfl ⟨c1, c3, c4⟩ (fun hHeld => ?_)
          refine pure_ (i := 0) (N := some 41) (v := ?_) (a' := ?_) #[true, false, false, false, false, false, false, false, false, false, false, false] rfl rfl (by kernel_rfl) (fun _ _ _ h => h) (Or.inl ⟨by rfl, ?_⟩) ?_ ?_
          rotate_left
          · intro w'
            go_simp
            with_reducible rfl
          rotate_left
          · simp only [Act.put, List.setIfInBounds_toArray, List.set_cons_zero, List.set_cons_succ, i64_w, i32_w]
            rfl
          refine pure_ (i := 1) (N := some 42) (v := ?_) (a' := ?_) #[true, true, false, false, false, false, false, false, false, false, false, false] rfl rfl (by kernel_rfl) (fun _ _ _ h => h) (Or.inl ⟨by rfl, ?_⟩) ?_ ?_
          rotate_left
          · intro w'
            go_simp
            with_reducible rfl
          rotate_left
          · simp only [Act.put, List.setIfInBounds_toArray, List.set_cons_zero, List.set_cons_succ, i64_w, i32_w]
            rfl
          refine pure_ (i := 2) (N := some 43) (v := ?_) (a' := ?_) #[true, true, true, false, false, false, false, false, false, false, false, false] rfl rfl (by kernel_rfl) (fun _ _ _ h => h) (Or.inl ⟨by rfl, ?_⟩) ?_ ?_
          rotate_left
          · intro w'
            go_simp
            with_reducible rfl
          rotate_left
          · simp only [Act.put, List.setIfInBounds_toArray, List.set_cons_zero, List.set_cons_succ, i64_w, i32_w]
            rfl
          refine pure_ (i := 3) (N := some 44) (v := ?_) (a' := ?_) #[true, true, true, true, false, false, false, false, false, false, false, false] rfl rfl (by kernel_rfl) (fun _ _ _ h => h) (Or.inl ⟨by rfl, ?_⟩) ?_ ?_
          rotate_left
          · intro w'
            go_simp
            with_reducible rfl
          rotate_left
          · simp only [Act.put, List.setIfInBounds_toArray, List.set_cons_zero, List.set_cons_succ, i64_w, i32_w]
            rfl
          refine pure_ (i := 4) (N := some 45) (v := ?_) (a' := ?_) #[true, true, true, true, true, false, false, false, false, false, false, false] rfl rfl (by kernel_rfl) (fun _ _ _ h => h) (Or.inl ⟨by rfl, ?_⟩) ?_ ?_
          rotate_left
          · intro w'
            go_simp
            with_reducible rfl
          rotate_left
          · simp only [Act.put, List.setIfInBounds_toArray, List.set_cons_zero, List.set_cons_succ, i64_w, i32_w]
            rfl
          refine pure_ (i := 6) (N := some 47) (v := ?_) (a' := ?_) #[true, true, true, true, true, false, true, false, false, false, false, false] rfl rfl (by kernel_rfl) (fun _ _ _ h => h) (Or.inl ⟨by rfl, ?_⟩) ?_ ?_
          rotate_left
          · intro w'
            go_simp
            with_reducible rfl
          rotate_left
          · simp only [Act.put, List.setIfInBounds_toArray, List.set_cons_zero, List.set_cons_succ, i64_w, i32_w]
            rfl
          refine pure_ (i := 7) (N := some 48) (v := ?_) (a' := ?_) #[true, true, true, true, true, false, true, true, false, false, false, false] rfl rfl (by kernel_rfl) (fun _ _ _ h => h) (Or.inl ⟨by rfl, ?_⟩) ?_ ?_
          rotate_left
          · intro w'
            go_simp
            with_reducible rfl
          rotate_left
          · simp only [Act.put, List.setIfInBounds_toArray, List.set_cons_zero, List.set_cons_succ, i64_w, i32_w]
            rfl
          refine pure_ (i := 8) (N := some 49) (v := ?_) (a' := ?_) #[true, true, true, true, true, false, true, true, true, false, false, false] rfl rfl (by kernel_rfl) (fun _ _ _ h => h) (Or.inl ⟨by rfl, ?_⟩) ?_ ?_
          rotate_left
          · intro w'
            go_simp
            with_reducible rfl
          rotate_left
          · simp only [Act.put, List.setIfInBounds_toArray, List.set_cons_zero, List.set_cons_succ, i64_w, i32_w]
            rfl
          refine pure_ (i := 9) (N := some 50) (v := ?_) (a' := ?_) #[true, true, true, true, true, false, true, true, true, true, false, false] rfl rfl (by kernel_rfl) (fun _ _ _ h => h) (Or.inl ⟨by rfl, ?_⟩) ?_ ?_
          rotate_left
          · intro w'
            go_simp
            with_reducible rfl
          rotate_left
          · simp only [Act.put, List.setIfInBounds_toArray, List.set_cons_zero, List.set_cons_succ, i64_w, i32_w]
            rfl
          refine take_ (i := 5) (N := some 46) (v := ?_) (a' := ?_) #[true, true, true, true, true, true, true, true, true, true, false, false] rfl rfl (by kernel_rfl) (fun _ _ _ h => h) (Or.inl ⟨by rfl, ?_⟩) hHeld ?_ ?_
          rotate_left
          · rintro w' ⟨s0, s1, s2⟩
            go_simp
            with_reducible rfl
          rotate_left
          · simp only [Act.put, List.setIfInBounds_toArray, List.set_cons_zero, List.set_cons_succ, i64_w, i32_w]
            rfl
          refine take_ (i := 10) (N := some 51) (v := ?_) (a' := ?_) #[true, true, true, true, true, true, true, true, true, true, true, false] rfl rfl (by kernel_rfl) (fun _ _ _ h => h) (Or.inl ⟨by rfl, ?_⟩) hHeld ?_ ?_
          rotate_left
          · rintro w' ⟨s0, s1, s2⟩
            go_simp
            with_reducible rfl
          rotate_left
          · simp only [Act.put, List.setIfInBounds_toArray, List.set_cons_zero, List.set_cons_succ, i64_w, i32_w]
            rfl
          refine last_ (i := 11) (N := some 52) #[true, true, true, true, true, true, true, true, true, true, true, true] rfl rfl (by kernel_rfl) (by decide) (fun K hK => ?_)
          refine goes_ Try.func38 (by kernel_rfl) rfl #[.pointer (some ⟨g, 0, none⟩), .int .i64 y.f1, .string y.f3] (by rfl) rfl rfl (by simp only [List.map_toArray, List.map_cons, List.map_nil]; rfl) ?_
          with_reducible refine (Del_calls (StA.drew HA.out) HG.out.inv (HG.out.few (by decide)) y.f1 (k := y.f3) HYK.out).mono ?_
          rintro e w3 ⟨rfl, hA⟩
          refine ⟨_, rfl, ?_⟩
          have HA2 := Aside0.mk hA
          clear hA
          refine hK.out _ _ ?_
          clear hK K
          refine norm_ (a' := ?_) ?_ ?_
          rotate_left
          · show Act.put _ (some 52) _ = _
            simp only [Act.put, List.setIfInBounds_toArray, List.set_cons_zero, List.set_cons_succ, i64_w, i32_w]
            rfl
          refine done_ (by kernel_rfl) ?_
          go_wp2_with fail
          go_roundg (l.length - i)
          case measure => have := HK.out; have := HLT.out; omega
          case rel => exact ⟨i + 1, _, by go_num, ⟨by have := HLT.out; omega, by have := HK.out; have := HLT.out; omega⟩, ⟨HG.out.put ⟨y.f3, y.f1, e0, true⟩ (fun h => rfl)⟩, HA2⟩
        · have q3 : (y.f0 == 2) = false := beq_eq_false_iff_ne.2 h2
          clear h2
          go_upto_region 11 with (fail)
          refine start_ (n := 17) (S := fun w' => (w'.cell? ⟨(ad.add (i * 5)).block, (ad.add (i * 5)).off + 1, none⟩ = some (.int .i64 y.f1)) ∧ (w'.cell? ⟨(ad.add (i * 5)).block, (ad.add (i * 5)).off + 3, none⟩ = some (.string y.f3)) ∧ (w'.cell? ⟨(ad.add (i * 5)).block, (ad.add (i * 5)).off + 4, none⟩ = some (.string y.f4))) (ds := [16]) #[false, false, false, false, false, false, false, false, false, false, false, false, false, false, false, false, false] (by kernel_rfl) rfl rfl ⟨c1, c3, c4⟩ (fun hHeld => ?_)
          refine pure_ (i := 0) (N := some 53) (v := ?_) (a' := ?_) #[true, false, false, false, false, false, false, false, false, false, false, false, false, false, false, false, false] rfl rfl (by kernel_rfl) (fun _ _ _ h => h) (Or.inl ⟨by rfl, ?_⟩) ?_ ?_
          rotate_left
          · intro w'
            go_simp
            with_reducible rfl
          rotate_left
          · simp only [Act.put, List.setIfInBounds_toArray, List.set_cons_zero, List.set_cons_succ, i64_w, i32_w]
            rfl
          refine pure_ (i := 1) (N := some 54) (v := ?_) (a' := ?_) #[true, true, false, false, false, false, false, false, false, false, false, false, false, false, false, false, false] rfl rfl (by kernel_rfl) (fun _ _ _ h => h) (Or.inl ⟨by rfl, ?_⟩) ?_ ?_
          rotate_left
          · intro w'
            go_simp
            with_reducible rfl
          rotate_left
          · simp only [Act.put, List.setIfInBounds_toArray, List.set_cons_zero, List.set_cons_succ, i64_w, i32_w]
            rfl
          refine pure_ (i := 2) (N := some 55) (v := ?_) (a' := ?_) #[true, true, true, false, false, false, false, false, false, false, false, false, false, false, false, false, false] rfl rfl (by kernel_rfl) (fun _ _ _ h => h) (Or.inl ⟨by rfl, ?_⟩) ?_ ?_
          rotate_left
          · intro w'
            go_simp
            with_reducible rfl
          rotate_left
          · simp only [Act.put, List.setIfInBounds_toArray, List.set_cons_zero, List.set_cons_succ, i64_w, i32_w]
            rfl
          refine pure_ (i := 3) (N := some 56) (v := ?_) (a' := ?_) #[true, true, true, true, false, false, false, false, false, false, false, false, false, false, false, false, false] rfl rfl (by kernel_rfl) (fun _ _ _ h => h) (Or.inl ⟨by rfl, ?_⟩) ?_ ?_
          rotate_left
          · intro w'
            go_simp
            with_reducible rfl
          rotate_left
          · simp only [Act.put, List.setIfInBounds_toArray, List.set_cons_zero, List.set_cons_succ, i64_w, i32_w]
            rfl
          refine pure_ (i := 4) (N := some 57) (v := ?_) (a' := ?_) #[true, true, true, true, true, false, false, false, false, false, false, false, false, false, false, false, false] rfl rfl (by kernel_rfl) (fun _ _ _ h => h) (Or.inl ⟨by rfl, ?_⟩) ?_ ?_
          rotate_left
          · intro w'
            go_simp
            with_reducible rfl
          rotate_left
          · simp only [Act.put, List.setIfInBounds_toArray, List.set_cons_zero, List.set_cons_succ, i64_w, i32_w]
            rfl
          refine pure_ (i := 6) (N := some 59) (v := ?_) (a' := ?_) #[true, true, true, true, true, false, true, false, false, false, false, false, false, false, false, false, false] rfl rfl (by kernel_rfl) (fun _ _ _ h => h) (Or.inl ⟨by rfl, ?_⟩) ?_ ?_
          rotate_left
          · intro w'
            go_simp
            with_reducible rfl
          rotate_left
          · simp only [Act.put, List.setIfInBounds_toArray, List.set_cons_zero, List.set_cons_succ, i64_w, i32_w]
            rfl
          refine pure_ (i := 7) (N := some 60) (v := ?_) (a' := ?_) #[true, true, true, true, true, false, true, true, false, false, false, false, false, false, false, false, false] rfl rfl (by kernel_rfl) (fun _ _ _ h => h) (Or.inl ⟨by rfl, ?_⟩) ?_ ?_
          rotate_left
          · intro w'
            go_simp
            with_reducible rfl
          rotate_left
          · simp only [Act.put, List.setIfInBounds_toArray, List.set_cons_zero, List.set_cons_succ, i64_w, i32_w]
            rfl
          refine pure_ (i := 8) (N := some 61) (v := ?_) (a' := ?_) #[true, true, true, true, true, false, true, true, true, false, false, false, false, false, false, false, false] rfl rfl (by kernel_rfl) (fun _ _ _ h => h) (Or.inl ⟨by rfl, ?_⟩) ?_ ?_
          rotate_left
          · intro w'
            go_simp
            with_reducible rfl
          rotate_left
          · simp only [Act.put, List.setIfInBounds_toArray, List.set_cons_zero, List.set_cons_succ, i64_w, i32_w]
            rfl
          refine pure_ (i := 9) (N := some 62) (v := ?_) (a' := ?_) #[true, true, true, true, true, false, true, true, true, true, false, false, false, false, false, false, false] rfl rfl (by kernel_rfl) (fun _ _ _ h => h) (Or.inl ⟨by rfl, ?_⟩) ?_ ?_
          rotate_left
          · intro w'
            go_simp
            with_reducible rfl
          rotate_left
          · simp only [Act.put, List.setIfInBounds_toArray, List.set_cons_zero, List.set_cons_succ, i64_w, i32_w]
            rfl
          refine pure_ (i := 11) (N := some 64) (v := ?_) (a' := ?_) #[true, true, true, true, true, false, true, true, true, true, false, true, false, false, false, false, false] rfl rfl (by kernel_rfl) (fun _ _ _ h => h) (Or.inl ⟨by rfl, ?_⟩) ?_ ?_
          rotate_left
          · intro w'
            go_simp
            with_reducible rfl
          rotate_left
          · simp only [Act.put, List.setIfInBounds_toArray, List.set_cons_zero, List.set_cons_succ, i64_w, i32_w]
            rfl
          refine pure_ (i := 12) (N := some 65) (v := ?_) (a' := ?_) #[true, true, true, true, true, false, true, true, true, true, false, true, true, false, false, false, false] rfl rfl (by kernel_rfl) (fun _ _ _ h => h) (Or.inl ⟨by rfl, ?_⟩) ?_ ?_
          rotate_left
          · intro w'
            go_simp
            with_reducible rfl
          rotate_left
          · simp only [Act.put, List.setIfInBounds_toArray, List.set_cons_zero, List.set_cons_succ, i64_w, i32_w]
            rfl
          refine pure_ (i := 13) (N := some 66) (v := ?_) (a' := ?_) #[true, true, true, true, true, false, true, true, true, true, false, true, true, true, false, false, false] rfl rfl (by kernel_rfl) (fun _ _ _ h => h) (Or.inl ⟨by rfl, ?_⟩) ?_ ?_
          rotate_left
          · intro w'
            go_simp
            with_reducible rfl
          rotate_left
          · simp only [Act.put, List.setIfInBounds_toArray, List.set_cons_zero, List.set_cons_succ, i64_w, i32_w]
            rfl
          refine pure_ (i := 14) (N := some 67) (v := ?_) (a' := ?_) #[true, true, true, true, true, false, true, true, true, true, false, true, true, true, true, false, false] rfl rfl (by kernel_rfl) (fun _ _ _ h => h) (Or.inl ⟨by rfl, ?_⟩) ?_ ?_
          rotate_left
          · intro w'
            go_simp
            with_reducible rfl
          rotate_left
          · simp only [Act.put, List.setIfInBounds_toArray, List.set_cons_zero, List.set_cons_succ, i64_w, i32_w]
            rfl
          refine take_ (i := 5) (N := some 58) (v := ?_) (a' := ?_) #[true, true, true, true, true, true, true, true, true, true, false, true, true, true, true, false, false] rfl rfl (by kernel_rfl) (fun _ _ _ h => h) (Or.inl ⟨by rfl, ?_⟩) hHeld ?_ ?_
          rotate_left
          · rintro w' ⟨s0, s1, s2⟩
            go_simp
            with_reducible rfl
          rotate_left
          · simp only [Act.put, List.setIfInBounds_toArray, List.set_cons_zero, List.set_cons_succ, i64_w, i32_w]
            rfl
          refine take_ (i := 10) (N := some 63) (v := ?_) (a' := ?_) #[true, true, true, true, true, true, true, true, true, true, true, true, true, true, true, false, false] rfl rfl (by kernel_rfl) (fun _ _ _ h => h) (Or.inl ⟨by rfl, ?_⟩) hHeld ?_ ?_
          rotate_left
          · rintro w' ⟨s0, s1, s2⟩
            go_simp
            with_reducible rfl
          rotate_left
          · simp only [Act.put, List.setIfInBounds_toArray, List.set_cons_zero, List.set_cons_succ, i64_w, i32_w]
            rfl
          refine take_ (i := 15) (N := some 68) (v := ?_) (a' := ?_) #[true, true, true, true, true, true, true, true, true, true, true, true, true, true, true, true, false] rfl rfl (by kernel_rfl) (fun _ _ _ h => h) (Or.inl ⟨by rfl, ?_⟩) hHeld ?_ ?_
          rotate_left
          · rintro w' ⟨s0, s1, s2⟩
            go_simp
            with_reducible rfl
          rotate_left
          · simp only [Act.put, List.setIfInBounds_toArray, List.set_cons_zero, List.set_cons_succ, i64_w, i32_w]
            rfl
          refine last_ (i := 16) (N := some 69) #[true, true, true, true, true, true, true, true, true, true, true, true, true, true, true, true, true] rfl rfl (by kernel_rfl) (by decide) (fun K hK => ?_)
          refine goes_ Try.func37 (by kernel_rfl) rfl #[.pointer (some ⟨g, 0, none⟩), .int .i64 y.f1, .string y.f3, .string y.f4] (by rfl) rfl rfl (by simp only [List.map_toArray, List.map_cons, List.map_nil]; rfl) ?_
          with_reducible refine (Put_calls (StA.drew HA.out) HG.out.inv (HG.out.few (by decide)) y.f1 (k := y.f3) HYK.out y.f4).mono ?_
          rintro e w3 ⟨rfl, hA⟩
          refine ⟨_, rfl, ?_⟩
          have HA2 := Aside0.mk hA
          clear hA
          refine hK.out _ _ ?_
          clear hK K
          refine norm_ (a' := ?_) ?_ ?_
          rotate_left
          · show Act.put _ (some 69) _ = _
            simp only [Act.put, List.setIfInBounds_toArray, List.set_cons_zero, List.set_cons_succ, i64_w, i32_w]
            rfl
          refine done_ (by kernel_rfl) ?_
          go_wp2_with fail
          go_roundg (l.length - i)
          case measure => have := HK.out; have := HLT.out; omega
          case rel => exact ⟨i + 1, _, by go_num, ⟨by have := HLT.out; omega, by have := HK.out; have := HLT.out; omega⟩, ⟨HG.out.put ⟨y.f3, y.f1, y.f4, false⟩ (fun h => by cases h)⟩, HA2⟩
      · have q1 : decide ((i : Int) < (l.length : Int)) = false := decide_eq_false (by omega)
        have q2 : ((i : Int) < (l.length : Int)) = False := eq_false (by omega)
        have q3 : (i < l.length) = False := eq_false hlt
        clear hlt
        have HN := Aside0.mk (HG.out.few (by decide))
        go_wp2_with fail
        refine (Size_A HA.out).mono ?_
        rintro e w4 ⟨rfl, rfl⟩
        go_wp2_with fail
        refine (Scan_A HA.out HG.out.inv HN.out time ⟨#[]⟩ ⟨#[]⟩ 100).mono ?_
        rintro e w4 ⟨A1, c1, rfl, hA⟩
        have HA1 := Aside0.mk hA
        clear hA
        go_wp2_with fail
        refine (Scan_A HA1.out HG.out.inv HN.out later ⟨#[]⟩ ⟨#[]⟩ 100).mono ?_
        rintro e w5 ⟨A2, c2, rfl, hA⟩
        have HA2 := Aside0.mk hA
        clear hA
        go_wp2_with fail
        refine (Trim_calls HA2.out HG.out.inv HN.out time).mono ?_
        rintro e w6 ⟨he, hA⟩
        have HIT := Aside0.mk (inv_trim HG.out.inv time)
        have hle : (trim s time).1.l.length ≤ s.l.length := (trimL_sub time s.l).length_le
        have HNT := Aside0.mk (show (trim s time).1.l.length ≤ 300 by have := HN.out; omega)
        have hz : (trim s time).2 = ((s.l.length - (trim s time).1.l.length : Nat) : Int) := by
          show (s.l.length : Int) - ((trim s time).1.l.length : Int) = _
          omega
        have hz2 : (trim (trim s time).1 time).2 = 0 := by
          show (((trimL time s.l).length : Int)) - ((trimL time (trimL time s.l)).length : Int) = 0
          rw [trimL_again]
          omega
        have HZ2 := Aside0.mk hz2
        have HS1 := Aside0.mk (scan_trim HG.out.inv (Int.le_refl time) ⟨#[]⟩ ⟨#[]⟩ 100)
        have HS2 := Aside0.mk (scan_trim HG.out.inv HLT0.out ⟨#[]⟩ ⟨#[]⟩ 100)
        have HF1 := Aside0.mk (scan_few (s := s) time ⟨#[]⟩ ⟨#[]⟩)
        have HF2 := Aside0.mk (scan_few (s := s) later ⟨#[]⟩ ⟨#[]⟩)
        rw [hz] at he
        subst he
        obtain ⟨s2, hs2⟩ : ∃ s2, (trim s time).1 = s2 := ⟨_, rfl⟩
        obtain ⟨a1, ha1⟩ : ∃ a1, St.scan s time ⟨#[]⟩ ⟨#[]⟩ 100 = a1 := ⟨_, rfl⟩
        obtain ⟨a2, ha2⟩ : ∃ a2, St.scan s later ⟨#[]⟩ ⟨#[]⟩ 100 = a2 := ⟨_, rfl⟩
        obtain ⟨d, hd⟩ : ∃ d, s.l.length - (trim s time).1.l.length = d := ⟨_, rfl⟩
        have HD := Aside0.mk (show s.l.length = s2.l.length + d by rw [← hs2]; omega)
        rw [hd]
        rw [ha1] at HS1 HF1
        rw [ha2] at HS2 HF2
        rw [hs2] at hA HIT HNT HZ2 HS1 HS2
        rw [ha1, ha2] at hA
        rw [ha1, ha2]
        have HA3 := Aside0.mk hA
        clear hA hz hz2 hle hs2 ha1 ha2 hd HA1 HA2 HA
        have hw : IntKind.i64.wrap ((s.l.length : Int) - (d : Int)) = (s2.l.length : Int) := by
          rw [show (s.l.length : Int) - (d : Int) = (s2.l.length : Int) by have := HD.out; omega]
          exact Tzw _ (by have := HNT.out; omega)
        go_wp2_with fail
        refine (Scan_A HA3.out HIT.out HNT.out time ⟨#[]⟩ ⟨#[]⟩ 100).mono ?_
        rintro e w7 ⟨A3, c3, he, hA⟩
        rw [HS1.out] at he hA
        subst he
        have HA4 := Aside0.mk hA
        clear hA
        go_wp2_with fail
        refine (pairs_same a1 HF1.out (StA.row_of HA4.out 2 rfl) (StA.row_of HA4.out 0 rfl)).mono ?_
        rintro e w8 ⟨rfl, hb⟩
        have HA5 := Aside0.mk (StA.grow HA4.out hb)
        clear hb
        go_wp2_with fail
        refine (Scan_A HA5.out HIT.out HNT.out later ⟨#[]⟩ ⟨#[]⟩ 100).mono ?_
        rintro e w9 ⟨A4, c4, he, hA⟩
        rw [HS2.out] at he hA
        subst he
        have HA6 := Aside0.mk hA
        clear hA
        go_wp2_with fail
        refine (pairs_same a2 HF2.out (StA.row_of HA6.out 2 rfl) (StA.row_of HA6.out 0 rfl)).mono ?_
        rintro e w10 ⟨rfl, hb⟩
        have HA7 := Aside0.mk (StA.grow HA6.out hb)
        clear hb
        go_wp2_with fail
        refine (Size_A HA7.out).mono ?_
        rintro e w11 ⟨rfl, rfl⟩
        go_wp2_with fail
        refine (Trim_calls HA7.out HIT.out HNT.out time).mono ?_
        rintro e w12 ⟨he, hA⟩
        rw [HZ2.out] at he
        subst he
        have HA8 := Aside0.mk (StA.rest hA)
        clear hA
        go_wp2_with fail
        refine (AW.out _).mono ?_
        rintro e w13 ⟨rfl, hM⟩
        have M9 := Aside0.mk (HA8.out.trans hM)
        clear hM
        go_wp2_with fail
        go_ret
        exact ⟨rfl, Mem.sel (ps := [_, _, _, _]) (F := []) [] 4 M9.out rfl rfl⟩
end Go.Proofs.Ytookpmdgoednfaa.Lt8
namespace Go.Proofs.Ytookpmdgoednfaa.LawSTrims
open Go.ChangeShapes Go.WideShapes Go.ChangeAt Go.RowKit YtookpmdgoednfaaW.PrintWords On Lt8 Mx
theorem own : ownKnob Try.prog.godebug = none := by kernel_rfl
theorem laidOut : laidOutB Try.prog = true := by kernel_rfl
theorem lifted (os : Os) (started : os.Started) (H : Type) (enc : TypeId × Value → H) :
    ReturnsInHanded {} Try.checked os 9 .any (Rows.storeTrimsSpec.pre6 enc Try.prog Try.f9 Rows.storeTrimsRow.domain false) (Rows.storeTrimsSpec.post enc Try.prog Try.f9 false true false false) := by
  refine returnsInHanded_of_change (C := Try.checked) own started (by kernel_rfl) Try.func9
    (ChangeSpec.witness6 (enc := enc) (C := Try.checked) false ⟨#[], #[.slice none 0 0, .int .i64 0, .int .i64 0], []⟩ 8 (by kernel_rfl) (by kernel_rfl) (by kernel_rfl) (by kernel_rfl)) ?_
  intro W base args ds gs before hval0 hW hcnd _
  have hval : ∀ (j : Nat) t v, Try.f9.params[j]? = some t → args[j]? = some v → Value.okWide Try.prog W .any base t v := hval0
  have hW' := hW
  obtain ⟨p, q, hA0, hV, rfl, hfz, hnd⟩ := hW
  have hA : DataW.TrodAll enc Try.prog W 0 (fun _ => true) true Try.f9.params.toList args.toList ds p := hA0
  rw [Try.params9] at hA hval
  obtain ⟨v0, v1, v2, d0, d1, d2, p0, p1, p2, rfl, rfl, rfl, h0, h1, h2⟩ := trodAll_three hA
  obtain ⟨rfl, rfl⟩ := trodVars_none hV
  have k0 := h0
  have lt0 : ∀ x ∈ p0, x.block < W.heap.size := by obtain ⟨m, hm⟩ := k0; exact DataW.trod_lt m _ _ _ hm
  obtain ⟨A0, c0, l0, rfl, hc0, hl0⟩ := On.open_acts (hval 0 54 v0 rfl rfl) h0
  obtain ⟨x1, rfl, rfl, rfl, w1⟩ := open_int Try.underlying3 (hval 1 3 v1 rfl rfl) h1
  obtain ⟨x2, rfl, rfl, rfl, w2⟩ := open_int Try.underlying3 (hval 2 3 v2 rfl rfl) h2
  clear hA0 hval0
  refine (Lt8.trims_calls A0 c0 l0 x1 x2 W hl0).mono fun e W' ⟨he, hM⟩ => ?_
  subst he
  have bel := hM.below
  exact ⟨_, rfl, _, _, _, [], _, [], hW', trodAll_mk1 (shut_bool Try.underlying4 _), (trodAll_cons_mk (Below.trod laidOut (by kernel_rfl) (of_decide_eq_true (by kernel_rfl)) k0 bel lt0) (trodAll_cons_mk (shut_int Try.underlying3 w1) (trodAll_cons_mk (shut_int Try.underlying3 w2) trodAll_mk0))), rfl, bel.frame _, fun h => by cases h⟩
theorem over : Rows.storeTrimsRow.holds Try.pinned (OpenSpec.ofChange Rows.storeTrimsSpec) :=
  OpenClaim.holds_of_wide 9 Try.f9 rfl rfl rfl rfl rfl rfl rfl ⟨rfl, rfl, rfl, rfl, rfl⟩ rfl rfl rfl rfl rfl (by kernel_rfl) Try.func9 (by kernel_rfl)
    (of_decide_eq_true (by kernel_rfl)) (by unfold Func.isWrapper; first | (rw [if_pos (by decide +kernel)]; kernel_rfl) | (rw [if_neg (by decide +kernel)]; exact ⟨rfl, rfl⟩))
    (fun os started H enc _ => lifted os started H enc)
theorem proved : Rows.StoreTrimsSaid := over
#print axioms proved
end Go.Proofs.Ytookpmdgoednfaa.LawSTrims
namespace Go.Proofs.Ytookpmdgoednfaa
theorem storeTrims_holds : Rows.StoreTrimsSaid := LawSTrims.proved
end Go.Proofs.Ytookpmdgoednfaa
