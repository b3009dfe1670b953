/- Texts laid together: Wc, Wf, WFootNe, WAt, WEqStruct, WRepsOne, WInv, WInvWords, WGuard, PReplicaProposesx0, PReplicaProposesx1. No condition. -/
import Derived.Laws.StructEq
import Derived.Test.YtggbjokhniigkaaProg
import Derived.Below
import Derived.Deep.Draws
import Derived.Deep.AppendLies
import Derived.Maps.AppendAt
import Derived.OwnWalk
import Derived.Laws.BytesArg
import Derived.Laws.MakeOwn
import Derived.Laws.OwnMore
import Derived.Deep.OwnRows
import Derived.Tactics
import Derived.Lib.ConvBytes
import Derived.Laws.Slices
import Derived.WalkKit
import Derived.KernelRfl
import Derived.RowKit3
import Derived.Deep.LoopGhost
import Derived.Deep.QuietTactic
import Derived.BigQuiet
import Derived.WideLaws
import Derived.Deep.DeepCutAuto
import Derived.Deep.CutBlock
import Derived.Deep.RegionHeld3
import Derived.Laws.Rows
import Derived.Lib.AppendStr
import Derived.ArgAppend
import Derived.Laws.IdiomCopy
import Derived.OrdersHeld
import Derived.Laws.BitsLemmas
import Derived.RowKit
import Derived.Test.YtggbjokhniigkaaYGz5
set_option linter.unusedVariables false
set_option linter.unusedSimpArgs false
set_option maxRecDepth 100000
set_option maxHeartbeats 8000000
namespace Go.Proofs.Ytggbjokhniigkaa.Wc
open Ty Go.RowKit YtggbjokhniigkaaW.PrintWords YtggbjokhniigkaaW.PrintLast YtggbjokhniigkaaW.PrintMore Mx Kx Wa Wb
theorem idsFrom_drop {l : List Int} {n : Int} {k : Nat} (h : k < l.length) (last : Int) : idsFrom n last (l.drop k) = (decide (last < rd l k) && decide (rd l k < n) && idsFrom n (rd l k) (l.drop (k + 1))) := by
  rw [List.drop_eq_getElem_cons h]
  have : rd l k = l[k] := by unfold rd; simp [List.getD, h]
  rw [this]
  rfl
theorem ids_calls (A : Option Addr) (c : Nat) (l : List Int) (n : Int) (w : World) (hl : Kd.C (Kd.int .i64) w A l.length l) (hn : l.length ≤ 1000000000) :
    Calls Try.prog 69 #[.slice A l.length c, .int .i64 n] w fun e w' => e = .returned (.bool (ids l n)) ∧ w = w' := by
  have HL := Aside0.mk hl
  clear hl
  unfold ids
  go_enter Try.func69, Try.ntmps69
  go_wp2
  go_loopg [9] (l.length + 1) (fun kq v9 w' => ∃ (k : Nat) (last : Int), v9 = .int .i64 k ∧ Aside0 (k ≤ l.length ∧ kq = l.length + 1 - k ∧ -1 ≤ last ∧ (k = 0 → last = -1) ∧ (∀ j, k = j + 1 → last = rd l j) ∧ idsFrom n last (l.drop k) = idsFrom n (-1) l) ∧ w' = w)
  case atStart => exact ⟨0, -1, rfl, ⟨Nat.zero_le _, rfl, by omega, fun _ => rfl, fun j hj => by omega, rfl⟩, rfl⟩
  case round =>
    obtain ⟨k, last, rfl, HK, rfl⟩ := hrel
    by_cases hlt : k < l.length
    · obtain ⟨ad, e, hx0⟩ := Kd.at_int HL.out (k : Int) (by omega) (by omega)
      cases e
      have HR := Aside0.mk (idsFrom_drop (n := n) hlt last)
      simp only [Int.toNat_natCast] at hx0
      by_cases hk0 : k = 0
      · subst hk0
        have hlast : last = -1 := HK.out.2.2.2.1 rfl
        subst hlast
        rw [add_zero_] at hx0
        generalize hent : rd l ((0 : Nat) : Int) = x at *
        have HX := Aside0.mk hent
        clear hent
        by_cases c1 : x < 0
        · go_wp2
          go_ret
          refine ⟨?_, rfl⟩
          rw [← HK.out.2.2.2.2.2, HR.out, decide_eq_false (show ¬ (-1 : Int) < x by omega)]
          simp
        · by_cases c2 : x < n
          · go_wp2
            go_roundg (l.length - 0)
            case measure => have := HK.out; omega
            case rel =>
              refine ⟨1, x, by go_num, ⟨by omega, by have := HK.out; omega, by omega, fun h => by omega, fun j hj => ?_, ?_⟩, rfl⟩
              · obtain rfl : j = 0 := by omega
                exact HX.out.symm
              · rw [← HK.out.2.2.2.2.2, HR.out, decide_eq_true (show (-1 : Int) < x by omega), decide_eq_true c2]
                simp
          · go_wp2
            go_ret
            refine ⟨?_, rfl⟩
            rw [← HK.out.2.2.2.2.2, HR.out, decide_eq_false (show ¬ x < n by omega)]
            simp
      · obtain ⟨j, rfl⟩ : ∃ j, k = j + 1 := ⟨k - 1, by omega⟩
        have hlast : last = rd l j := HK.out.2.2.2.2.1 j rfl
        obtain ⟨ad', e, hx1⟩ := Kd.at_int HL.out (j : Int) (by omega) (by omega)
        cases e
        simp only [Int.toNat_natCast] at hx1
        rw [← hlast] at hx1
        rw [add_succ_] at hx0
        generalize hent : rd l ((j + 1 : Nat) : Int) = x at *
        have HX := Aside0.mk hent
        clear hent hlast
        by_cases c1 : x < 0
        · go_wp2
          go_ret
          refine ⟨?_, rfl⟩
          rw [← HK.out.2.2.2.2.2, HR.out, decide_eq_false (show ¬ last < x by have := HK.out; omega)]
          simp
        · by_cases c2 : x < n
          · by_cases c3 : last < x
            · go_wp2
              go_roundg (l.length - (j + 1))
              case measure => have := HK.out; omega
              case rel =>
                refine ⟨j + 1 + 1, x, by go_num, ⟨by omega, by have := HK.out; omega, by omega, fun h => by omega, fun i hi => ?_, ?_⟩, rfl⟩
                · obtain rfl : i = j + 1 := by omega
                  exact HX.out.symm
                · rw [← HK.out.2.2.2.2.2, HR.out, decide_eq_true c3, decide_eq_true c2]
                  simp
            · go_wp2
              go_ret
              refine ⟨?_, rfl⟩
              rw [← HK.out.2.2.2.2.2, HR.out, decide_eq_false (show ¬ last < x by omega)]
              simp
          · go_wp2
            go_ret
            refine ⟨?_, rfl⟩
            rw [← HK.out.2.2.2.2.2, HR.out, decide_eq_false (show ¬ x < n by omega)]
            simp
    · have hk : k = l.length := by have := HK.out.1; omega
      subst hk
      go_wp2
      go_ret
      refine ⟨?_, rfl⟩
      rw [← HK.out.2.2.2.2.2, List.drop_length]
      simp [idsFrom]
/-! ### May -/
theorem rep_split (b : Bool) : b = true ∨ b = false := by cases b <;> simp
theorem May_calls (r : Rep) (A5 A7 A8 A9 A10 : Option Addr) (c5 c7 c8 c9 c10 : Nat) (w : World) (h5 : Kd.C kE w A5 r.f5.length r.f5) (h7 : Kd.C (Kd.int .i64) w A7 r.f7.length r.f7) (h8 : Kd.C (Kd.int .i64) w A8 r.f8.length r.f8) (h9 : Kd.C (Kd.int .i64) w A9 r.f9.length r.f9) (h10 : Kd.C kE w A10 r.f10.length r.f10) (hn : r.f5.length ≤ 1000000000 ∧ r.f7.length ≤ 1000000000 ∧ r.f8.length ≤ 1000000000 ∧ r.f9.length ≤ 1000000000 ∧ r.f10.length ≤ 1000000000) :
    Calls Try.prog 31 #[.agg (Kx.rA r A5 A7 A8 A9 A10 c5 c7 c8 c9 c10)] w fun e w' => e = .returned (.bool (may r)) ∧ Mem w w' [] := by
  have H5 := Aside0.mk h5
  have H7 := Aside0.mk h7
  have H8 := Aside0.mk h8
  have H9 := Aside0.mk h9
  have H10 := Aside0.mk h10
  obtain ⟨n5, n7, n8, n9, n10⟩ := hn
  have M0 := Aside0.mk (Mem.nil w)
  clear h5 h7 h8 h9 h10
  go_enter Try.func31, Try.ntmps31
  have M1 := Aside0.mk (M0.out.alloc (Kx.rA r A5 A7 A8 A9 A10 c5 c7 c8 c9 c10) 45)
  obtain ⟨b4, e4⟩ : ∃ b, (r.f4 == 0) = b := ⟨_, rfl⟩
  obtain ⟨b3, e3⟩ : ∃ b, (r.f3 != r.f2) = b := ⟨_, rfl⟩
  have E4 := Aside0.mk e4
  have E3 := Aside0.mk e3
  go_wp2_with (first | (go_at_call 68; refine (log_calls _ _ _ _ (Kd.C_below H5.out M1.out.below) (by assumption)).mono ?_; rintro e w1 ⟨rfl, hM⟩; have M2 := Aside0.mk (M1.out.trans hM); clear hM; have cB := blk_cell (M2.out.blk_at 0 rfl)) | (go_at_call 64; refine (size_calls _ _).mono ?_; rintro e w' ⟨rfl, rfl⟩) | (go_at_call 67; refine (below_calls _ _).mono ?_; rintro e w' ⟨rfl, rfl⟩))
  any_goals (go_ret; refine ⟨by rw [may_false r (fun h => by obtain ⟨p1, p2, p3, p4, p5, p6, p7, p8, p9, p10, p11, p12, p13, p14, p15⟩ := h; have q4 := E4.out; have q3 := E3.out; clear M0 M1 H5 H7 H8 H9 H10; (try simp at q4); (try simp at q3); first | contradiction | omega | (have z : (r.f4 < 0 ∨ 2 < r.f4) ∨ b3 = true := (by assumption); have z4 : b4 = true := (by assumption); rw [← q4] at z4; rw [← q3] at z; simp only [beq_iff_eq, bne_iff_ne, ne_eq] at z z4; omega) | (have z : (r.f6 < 0 ∨ (r.f5.length:Int) < r.f6) ∨ ((r.f7.length : Int) != r.f1) = true := (by assumption); simp only [bne_iff_ne, ne_eq] at z; omega))]; rfl, ?_⟩; first | exact Mem.sel (ps := [_]) (F := []) [] 1 M2.out rfl rfl | exact Mem.sel (ps := [_]) (F := []) [] 1 M1.out rfl rfl)
  all_goals
    go_loop [89] (fun v => ∃ k : Nat, v = .int .i64 k ∧ Aside0 (k ≤ r.f7.length ∧ ∀ n ∈ r.f7.take k, 0 ≤ n ∧ n ≤ (r.f5.length : Int))) (fun v => r.f7.length - (intOf v).toNat)
    case atStart => exact ⟨0, rfl, ⟨Nat.zero_le _, by simp⟩⟩
    case round =>
      obtain ⟨k, rfl, HK⟩ := hrel
      by_cases hlt : k < r.f7.length
      · obtain ⟨ad, e, hx0⟩ := Kd.at_int H7.out (k : Int) (by omega) (by omega)
        cases e
        replace hx0 := (M2.out.below.cell (World.block_lt_of_cell? w _ hx0)).trans hx0
        simp only [Int.toNat_natCast] at hx0
        have HX := Aside0.mk (show rd r.f7 k = r.f7[k] by unfold rd; simp [List.getD, hlt])
        generalize hent : rd r.f7 (k : Int) = x at *
        clear hent
        have HM := Aside0.mk (List.getElem_mem hlt)
        by_cases c1 : x < 0
        · go_wp2
          go_ret
          refine ⟨by rw [may_false r (fun h => by obtain ⟨p1, p2, p3, p4, p5, p6, p7, p8, p9, p10, p11, p12, p13, p14, p15⟩ := h; have := p14 _ HM.out; have := HX.out; omega)]; rfl, Mem.sel (ps := [_]) (F := []) [] 1 M2.out rfl rfl⟩
        · by_cases c2 : (r.f5.length : Int) < x
          · go_wp2
            go_ret
            refine ⟨by rw [may_false r (fun h => by obtain ⟨p1, p2, p3, p4, p5, p6, p7, p8, p9, p10, p11, p12, p13, p14, p15⟩ := h; have := p14 _ HM.out; have := HX.out; omega)]; rfl, Mem.sel (ps := [_]) (F := []) [] 1 M2.out rfl rfl⟩
          · go_wp2
            go_round
            case rel =>
              refine ⟨k + 1, by go_num, ⟨by omega, fun n hn => ?_⟩⟩
              rw [List.take_succ_eq_append_getElem hlt] at hn
              rcases List.mem_append.1 hn with hn | hn
              · exact HK.out.2 n hn
              · have := List.mem_singleton.1 hn
                have := HX.out
                omega
            case measure => simp [intOf]; omega
      · have HA := Aside0.mk (show ∀ n ∈ r.f7, 0 ≤ n ∧ n ≤ (r.f5.length : Int) by
          have h := HK.out
          have : k = r.f7.length := by omega
          subst this
          rw [List.take_length] at h
          exact h.2)
        go_wp2_with (first | (go_at_call 69; with_reducible refine (ids_calls A8 c8 r.f8 r.f1 _ (Kd.C_below H8.out M2.out.below) n8).mono ?_; rintro e w' ⟨rfl, rfl⟩) | (go_at_call 69; with_reducible refine (ids_calls A9 c9 r.f9 r.f1 _ (Kd.C_below H9.out M2.out.below) n9).mono ?_; rintro e w' ⟨rfl, rfl⟩) | (go_at_call 68; refine (log_calls A10 c10 r.f10 _ (Kd.C_below H10.out M2.out.below) n10).mono ?_; rintro e w2 ⟨rfl, hM⟩; have M3 := Aside0.mk (M2.out.trans hM); clear hM))
        all_goals
          go_ret
          refine ⟨?_, by first | exact Mem.sel (ps := [_]) (F := []) [] 1 M3.out rfl rfl | exact Mem.sel (ps := [_]) (F := []) [] 1 M2.out rfl rfl⟩
          first
          | (rw [may_false r (fun h => by obtain ⟨p1, p2, p3, p4, p5, p6, p7, p8, p9, p10, p11, p12, p13, p14, p15, p16, p17, p18, p19, p20, p21⟩ := h; unfold maxTime at p19; first | contradiction | omega)]; first | rfl | (simp; done))
          | (have zl : (0 ≤ r.f6 ∧ r.f6 ≤ (r.f5.length : Int)) ∧ ((r.f7.length : Int) != r.f1) = false := (by assumption)
             have zl2 : (r.f7.length : Int) = r.f1 := by simpa using zl.2
             have z4 : r.f4 = 0 → r.f3 = r.f2 := fun q => (by
               first
               | exact absurd (show b4 = true by rw [← E4.out, q]; rfl) (by assumption)
               | (have z3 : (0 ≤ r.f4 ∧ r.f4 ≤ 2) ∧ b3 = false := (by assumption)
                  have z5 := E3.out.trans z3.2
                  simpa using z5))
             by_cases z : r.f12 ≤ (r.f10.length : Int)
             · rw [(may_iff r).2 ⟨by assumption, by omega, by omega, by assumption, by assumption, by omega, by omega, by omega, z4, by assumption, by omega, by omega, zl2, HA.out, by assumption, by assumption, by assumption, by omega, by unfold maxTime; omega, by omega, z⟩]
               simp [z]
             · rw [may_false r (fun h => by obtain ⟨p1, p2, p3, p4, p5, p6, p7, p8, p9, p10, p11, p12, p13, p14, p15, p16, p17, p18, p19, p20, p21⟩ := h; omega)]
               simp [z])
end Go.Proofs.Ytggbjokhniigkaa.Wc
namespace Go.Proofs.Ytggbjokhniigkaa.Wf
open Ty Go.RowKit YtggbjokhniigkaaW.PrintWords YtggbjokhniigkaaW.PrintLast YtggbjokhniigkaaW.PrintMore Mx Kx Wa Wb Wc Wd We
theorem Propose_e1 (r : Rep) (A5 A7 A8 A9 A10 : Option Addr) (c5 c7 c8 c9 c10 : Nat) (w : World) (h : RdRep w r A5 A7 A8 A9 A10) (hn : Small r) (time : Int) (data : ByteArray) (hs : data.size ≤ 1000000) (hx : (may r && below time && decide (data.size ≤ 20000)) = false) :
    Calls Try.prog 34 #[.agg (rc r (.slice A5 r.f5.length c5) (.slice A7 r.f7.length c7) (.slice A8 r.f8.length c8) (.slice A9 r.f9.length c9) (.slice A10 r.f10.length c10)), .int .i64 time, .string data] w fun e w' => ∃ v5 v7 v8 v9 v10 vout : Value, e = .returned (.tuple #[.agg (rc r v5 v7 v8 v9 v10), vout, .int .i64 0, .int .i64 1]) ∧ Mem w w' (rows r v5 v7 v8 v9 v10 ++ [row kM 29 vout []]) := by
  have H := Aside0.mk h
  have HN := Aside0.mk hn
  have M0 := Aside0.mk (Mem.nil w)
  have M1 := Aside0.mk ((M0.out.alloc (Kx.rA r A5 A7 A8 A9 A10 c5 c7 c8 c9 c10) 45).allocAt #[.int .i64 0, .int .i64 0, .int .i64 0, .int .i64 0, .int .i64 0, .slice none 0 0, .int .i64 0, .slice none 0 0, .slice none 0 0, .slice none 0 0, .slice none 0 0, .int .i64 0, .int .i64 0] 45 (w.heap.size + 1) (by simp))
  clear h hn
  unfold rc
  obtain ⟨b1, e1⟩ : ∃ b, may r = b := ⟨_, rfl⟩
  obtain ⟨b2, e2⟩ : ∃ b, below time = b := ⟨_, rfl⟩
  rw [e1, e2] at hx
  have hw : b1 = false ∨ (b1 = true ∧ b2 = false) ∨ (b1 = true ∧ b2 = true ∧ 20000 < data.size) := by
    cases b1
    · exact .inl rfl
    · cases b2
      · exact .inr (.inl ⟨rfl, rfl⟩)
      · exact .inr (.inr ⟨rfl, rfl, by simpa using hx⟩)
  clear hx
  rcases hw with rfl | ⟨rfl, rfl⟩ | ⟨rfl, rfl, hsz⟩
  all_goals
    go_enter Try.func34, Try.ntmps34
    go_wp2_with fail
    refine (May_calls r A5 A7 A8 A9 A10 c5 c7 c8 c9 c10 _ (Kd.C_below H.out.h5 M1.out.below) (Kd.C_below H.out.h7 M1.out.below) (Kd.C_below H.out.h8 M1.out.below) (Kd.C_below H.out.h9 M1.out.below) (Kd.C_below H.out.h10 M1.out.below) HN.out).mono ?_
    rintro e w1 ⟨rfl, hM⟩
    have M2 := Aside0.mk (M1.out.trans hM)
    clear hM
    have cB := blk_cell (M2.out.blk_at 1 rfl)
    go_wp2_with (go_at_call 67; refine (below_calls _ _).mono ?_; rintro e w' ⟨rfl, rfl⟩)
    refine (copied_calls r A5 A7 A8 A9 A10 c5 c7 c8 c9 c10 _ (H.out.below M2.out.below) HN.out).mono ?_
    rintro e w2 ⟨v5, v7, v8, v9, v10, rfl, hM⟩
    unfold rc
    obtain ⟨B5, d5, rfl, _, _⟩ := hM.row_at 0 rfl
    obtain ⟨B7, d7, rfl, _, _⟩ := hM.row_at 1 rfl
    obtain ⟨B8, d8, rfl, _, _⟩ := hM.row_at 2 rfl
    obtain ⟨B9, d9, rfl, _, _⟩ := hM.row_at 3 rfl
    obtain ⟨B10, d10, rfl, _, _⟩ := hM.row_at 4 rfl
    have M3 := Aside0.mk (Mem.sel (ps := [_, _, _, _, _, _, _]) (F := []) [5, 6, 0, 1, 2, 3, 4] 7 (M2.out.trans hM) rfl rfl)
    clear hM
    clear cB
    have cC := blk_cell (M3.out.blk_at 0 rfl)
    have fC := blk_frozen (M3.out.blk_at 0 rfl)
    go_wp2
    have M4 := M3.out.setRow 0 rfl [(.int .i64 r.f0), (.int .i64 r.f1), (.int .i64 r.f2), (.int .i64 r.f3), (.int .i64 r.f4), (.slice B5 r.f5.length d5), (.int .i64 r.f6), (.slice B7 r.f7.length d7), (.slice B8 r.f8.length d8), (.slice B9 r.f9.length d9), (.slice B10 r.f10.length d10), (.int .i64 r.f11), (.int .i64 r.f12)] rfl
    have hg4 := M4.blk_at 0 rfl
    refine bodyPost_ret (results_list (rs := [.cell 6 45, .tmp 7, .tmp 8, .tmp 9]) rfl (by simp) (.cell (w.heap.size + 1) 45 #[.int .i64 r.f0, .int .i64 r.f1, .int .i64 r.f2, .int .i64 r.f3, .int .i64 r.f4, .slice B5 r.f5.length d5, .int .i64 r.f6, .slice B7 r.f7.length d7, .slice B8 r.f8.length d8, .slice B9 r.f9.length d9, .slice B10 r.f10.length d10, .int .i64 r.f11, .int .i64 r.f12] (0, 0) _ rfl hg4 Try.underlying45 rfl (by kernel_rfl) (.tmp (.tmp (.tmp .nil))))) rfl ?_
    exact ⟨_, _, _, _, _, _, rfl, Mem.sel (ps := [_, _, _, _, _, _, _, _]) (F := []) [3, 4, 5, 6, 7, 0] 8 (Mem.row_nil M4 kM 29) rfl rfl⟩
theorem Propose_e17 (r : Rep) (A5 A7 A8 A9 A10 : Option Addr) (c5 c7 c8 c9 c10 : Nat) (w : World) (h : RdRep w r A5 A7 A8 A9 A10) (hn : Small r) (time : Int) (data : ByteArray) (hs : data.size ≤ 20000) (h1 : may r = true) (h2 : below time = true) (hx : ¬ (r.f4 = 0 ∧ r.f2 % r.f1 = r.f0)) :
    Calls Try.prog 34 #[.agg (rc r (.slice A5 r.f5.length c5) (.slice A7 r.f7.length c7) (.slice A8 r.f8.length c8) (.slice A9 r.f9.length c9) (.slice A10 r.f10.length c10)), .int .i64 time, .string data] w fun e w' => ∃ v5 v7 v8 v9 v10 vout : Value, e = .returned (.tuple #[.agg (rc r v5 v7 v8 v9 v10), vout, .int .i64 0, .int .i64 17]) ∧ Mem w w' (rows r v5 v7 v8 v9 v10 ++ [row kM 29 vout []]) := by
  have hp := (may_iff r).1 h1
  have hn0 : 0 < r.f1 ∧ r.f1 ≤ 5 := by
    have := hp.1
    unfold size at this
    simp at this
    omega
  have hv : 0 ≤ r.f2 ∧ r.f2 < 1099511627776 := by
    have := hp.2.2.2.1
    unfold below maxTime at this
    simpa using this
  clear hp
  obtain ⟨hn1, hn5⟩ := hn0
  obtain ⟨hv1, hv2⟩ := hv
  have H := Aside0.mk h
  have HN := Aside0.mk hn
  have M0 := Aside0.mk (Mem.nil w)
  have M1 := Aside0.mk ((M0.out.alloc (Kx.rA r A5 A7 A8 A9 A10 c5 c7 c8 c9 c10) 45).allocAt #[.int .i64 0, .int .i64 0, .int .i64 0, .int .i64 0, .int .i64 0, .slice none 0 0, .int .i64 0, .slice none 0 0, .slice none 0 0, .slice none 0 0, .slice none 0 0, .int .i64 0, .int .i64 0] 45 (w.heap.size + 1) (by simp))
  clear h hn
  unfold rc
  by_cases h4 : r.f4 = 0
  · have h5 : ¬ r.f2 % r.f1 = r.f0 := fun q => hx ⟨h4, q⟩
    have H4 := Aside0.mk h4
    have e4 : (r.f4 == 0) = true := by simpa using h4
    have e4' : (r.f4 != 0) = false := by simpa using h4
    have e5 : (r.f2 % r.f1 == r.f0) = false := by simpa using h5
    have e5' : (r.f2 % r.f1 != r.f0) = true := by simpa using h5
    clear hx h4 h5
    go_enter Try.func34, Try.ntmps34
    go_wp2_with fail
    refine (May_calls r A5 A7 A8 A9 A10 c5 c7 c8 c9 c10 _ (Kd.C_below H.out.h5 M1.out.below) (Kd.C_below H.out.h7 M1.out.below) (Kd.C_below H.out.h8 M1.out.below) (Kd.C_below H.out.h9 M1.out.below) (Kd.C_below H.out.h10 M1.out.below) HN.out).mono ?_
    rintro e w1 ⟨rfl, hM⟩
    have M2 := Aside0.mk (M1.out.trans hM)
    clear hM
    have cB := blk_cell (M2.out.blk_at 1 rfl)
    go_wp2_with (go_at_call 67; refine (below_calls _ _).mono ?_; rintro e w' ⟨rfl, rfl⟩)
    refine (copied_calls r A5 A7 A8 A9 A10 c5 c7 c8 c9 c10 _ (H.out.below M2.out.below) HN.out).mono ?_
    rintro e w2 ⟨v5, v7, v8, v9, v10, rfl, hM⟩
    unfold rc
    obtain ⟨B5, d5, rfl, _, _⟩ := hM.row_at 0 rfl
    obtain ⟨B7, d7, rfl, _, _⟩ := hM.row_at 1 rfl
    obtain ⟨B8, d8, rfl, _, _⟩ := hM.row_at 2 rfl
    obtain ⟨B9, d9, rfl, _, _⟩ := hM.row_at 3 rfl
    obtain ⟨B10, d10, rfl, _, _⟩ := hM.row_at 4 rfl
    have M3 := Aside0.mk (Mem.sel (ps := [_, _, _, _, _, _, _]) (F := []) [5, 6, 0, 1, 2, 3, 4] 7 (M2.out.trans hM) rfl rfl)
    clear hM
    clear cB
    have hb0 := blk_lt (M3.out.blk_at 1 rfl)
    have hb1 := blk_lt (M3.out.blk_at 0 rfl)
    have M4 := Aside0.mk (M3.out.alloc #[.int .i64 r.f0, .int .i64 r.f1, .int .i64 r.f2, .int .i64 r.f3, .int .i64 r.f4, .slice B5 r.f5.length d5, .int .i64 r.f6, .slice B7 r.f7.length d7, .slice B8 r.f8.length d8, .slice B9 r.f9.length d9, .slice B10 r.f10.length d10, .int .i64 r.f11, .int .i64 r.f12, .slice none 0 0] 99)
    have cR := fun j => blk_cell (M3.out.blk_at 1 rfl) j
    have cC := fun j => blk_cell (M3.out.blk_at 0 rfl) j
    have fC := fun j => blk_frozen (M3.out.blk_at 0 rfl) j
    go_wp2_with fail
    have hW := M4.out.blk_at 0 rfl
    go_quiet ((go_at_call 74; exact primary_quiet _ _ w2.heap.size r.f0 r.f1 r.f2 r.f3 r.f4 _ r.f6 _ _ _ _ r.f11 r.f12 _ r.f2 hW hv1 (by omega) hn1 hn5))
    clear hW
    go_wp2
    have M5 := fun n => (M4.out.drewN n).setRow 1 rfl [(.int .i64 r.f0), (.int .i64 r.f1), (.int .i64 r.f2), (.int .i64 r.f3), (.int .i64 r.f4), (.slice B5 r.f5.length d5), (.int .i64 r.f6), (.slice B7 r.f7.length d7), (.slice B8 r.f8.length d8), (.slice B9 r.f9.length d9), (.slice B10 r.f10.length d10), (.int .i64 r.f11), (.int .i64 r.f12)] rfl
    have hg5 := fun n => (M5 n).blk_at 1 rfl
    refine bodyPost_ret (results_list (rs := [.cell 6 45, .tmp 7, .tmp 8, .tmp 9]) rfl (by simp) (.cell (w.heap.size + 1) 45 #[.int .i64 r.f0, .int .i64 r.f1, .int .i64 r.f2, .int .i64 r.f3, .int .i64 r.f4, .slice B5 r.f5.length d5, .int .i64 r.f6, .slice B7 r.f7.length d7, .slice B8 r.f8.length d8, .slice B9 r.f9.length d9, .slice B10 r.f10.length d10, .int .i64 r.f11, .int .i64 r.f12] (0, 0) _ rfl (hg5 _) Try.underlying45 rfl (by kernel_rfl) (.tmp (.tmp (.tmp .nil))))) rfl ?_
    exact ⟨_, _, _, _, _, _, rfl, Mem.sel (ps := [_, _, _, _, _, _, _, _, _]) (F := []) [4, 5, 6, 7, 8, 0] 9 (Mem.row_nil (M5 _) kM 29) rfl rfl⟩
  · have h5 := h4
    have e4 : (r.f4 == 0) = false := by simpa using h4
    have e4' : (r.f4 != 0) = true := by simpa using h4
    clear hx h4 h5
    go_enter Try.func34, Try.ntmps34
    go_wp2_with fail
    refine (May_calls r A5 A7 A8 A9 A10 c5 c7 c8 c9 c10 _ (Kd.C_below H.out.h5 M1.out.below) (Kd.C_below H.out.h7 M1.out.below) (Kd.C_below H.out.h8 M1.out.below) (Kd.C_below H.out.h9 M1.out.below) (Kd.C_below H.out.h10 M1.out.below) HN.out).mono ?_
    rintro e w1 ⟨rfl, hM⟩
    have M2 := Aside0.mk (M1.out.trans hM)
    clear hM
    have cB := blk_cell (M2.out.blk_at 1 rfl)
    go_wp2_with (go_at_call 67; refine (below_calls _ _).mono ?_; rintro e w' ⟨rfl, rfl⟩)
    refine (copied_calls r A5 A7 A8 A9 A10 c5 c7 c8 c9 c10 _ (H.out.below M2.out.below) HN.out).mono ?_
    rintro e w2 ⟨v5, v7, v8, v9, v10, rfl, hM⟩
    unfold rc
    obtain ⟨B5, d5, rfl, _, _⟩ := hM.row_at 0 rfl
    obtain ⟨B7, d7, rfl, _, _⟩ := hM.row_at 1 rfl
    obtain ⟨B8, d8, rfl, _, _⟩ := hM.row_at 2 rfl
    obtain ⟨B9, d9, rfl, _, _⟩ := hM.row_at 3 rfl
    obtain ⟨B10, d10, rfl, _, _⟩ := hM.row_at 4 rfl
    have M3 := Aside0.mk (Mem.sel (ps := [_, _, _, _, _, _, _]) (F := []) [5, 6, 0, 1, 2, 3, 4] 7 (M2.out.trans hM) rfl rfl)
    clear hM
    clear cB
    have hb0 := blk_lt (M3.out.blk_at 1 rfl)
    have hb1 := blk_lt (M3.out.blk_at 0 rfl)
    have M4 := Aside0.mk (M3.out.alloc #[.int .i64 r.f0, .int .i64 r.f1, .int .i64 r.f2, .int .i64 r.f3, .int .i64 r.f4, .slice B5 r.f5.length d5, .int .i64 r.f6, .slice B7 r.f7.length d7, .slice B8 r.f8.length d8, .slice B9 r.f9.length d9, .slice B10 r.f10.length d10, .int .i64 r.f11, .int .i64 r.f12, .slice none 0 0] 99)
    have cR := fun j => blk_cell (M3.out.blk_at 1 rfl) j
    have cC := fun j => blk_cell (M3.out.blk_at 0 rfl) j
    have fC := fun j => blk_frozen (M3.out.blk_at 0 rfl) j
    go_wp2_with fail
    go_quiet (fail)
    go_wp2
    have M5 := fun n => (M4.out.drewN n).setRow 1 rfl [(.int .i64 r.f0), (.int .i64 r.f1), (.int .i64 r.f2), (.int .i64 r.f3), (.int .i64 r.f4), (.slice B5 r.f5.length d5), (.int .i64 r.f6), (.slice B7 r.f7.length d7), (.slice B8 r.f8.length d8), (.slice B9 r.f9.length d9), (.slice B10 r.f10.length d10), (.int .i64 r.f11), (.int .i64 r.f12)] rfl
    have hg5 := fun n => (M5 n).blk_at 1 rfl
    refine bodyPost_ret (results_list (rs := [.cell 6 45, .tmp 7, .tmp 8, .tmp 9]) rfl (by simp) (.cell (w.heap.size + 1) 45 #[.int .i64 r.f0, .int .i64 r.f1, .int .i64 r.f2, .int .i64 r.f3, .int .i64 r.f4, .slice B5 r.f5.length d5, .int .i64 r.f6, .slice B7 r.f7.length d7, .slice B8 r.f8.length d8, .slice B9 r.f9.length d9, .slice B10 r.f10.length d10, .int .i64 r.f11, .int .i64 r.f12] (0, 0) _ rfl (hg5 _) Try.underlying45 rfl (by kernel_rfl) (.tmp (.tmp (.tmp .nil))))) rfl ?_
    exact ⟨_, _, _, _, _, _, rfl, Mem.sel (ps := [_, _, _, _, _, _, _, _, _]) (F := []) [4, 5, 6, 7, 8, 0] 9 (Mem.row_nil (M5 _) kM 29) rfl rfl⟩
end Go.Proofs.Ytggbjokhniigkaa.Wf
namespace Go.Proofs.YtggbjokhniigkaaW.PrintWords
end Go.Proofs.YtggbjokhniigkaaW.PrintWords
namespace Kd
end Kd
-- PRINTED BY print.sh 35421559b90ae4d0a3588c463048766b98c2df88dd9212a6774a882060cdf62d: not written by this session
/-! ### 54. Behind orders that were drawn quietly: the same facts at the world's new name; a flat row's foot -/
namespace Go.Proofs.YtggbjokhniigkaaW.PrintWords
open Go.RowKit
section
variable {w w' u : World} {m B g : Nat} {o : Obj} {row : Option Nat} {S : Nat → Prop} {a : Addr} {v : Value}
theorem blk_at (hq : w.drewN m = w') (h : w.heap[g]? = some o) : w'.heap[g]? = some o := by subst hq; exact h
end
namespace Kd
section
variable {α : Type} {d : Kd α} {e base n m : Nat} {ok : Nat → Prop} {w w' : World} {v : Value} {A : Option Addr} {xs : List α}
end
end Kd
end Go.Proofs.YtggbjokhniigkaaW.PrintWords
-- PRINTED BY print.sh 35421559b90ae4d0a3588c463048766b98c2df88dd9212a6774a882060cdf62d: not written by this session
/-! ### 53. '==' of structs as_ one Bool -/
namespace Go.Proofs.YtggbjokhniigkaaW.PrintWords
open Go.RowKit
section
variable {P : Program} {d : Nat} {xs ys : Array Value} {f : Field} {fs : List Field} {a b : Value} {r s : Bool} {w : World}
/-- The last field that counts. -/
theorem eqf_last (hn : (f.name == "_") = false) (ha : (part f.type xs f.offset).run P w = .ok a w) (hb : (part f.type ys f.offset).run P w = .ok b w) (he : (Op.equalIn d f.type a b).run P w = .ok r w) : (Op.eqFields d xs ys [f]).run P w = .ok r w := by
  have hn' : f.name ≠ "_" := by simpa using hn
  simp only [Op.eqFields, if_pos hn', Sem.run_bind, ha, hb, he, Result.andThen_ok]
  cases r <;> simp
theorem eqf_cons (hn : (f.name == "_") = false) (ha : (part f.type xs f.offset).run P w = .ok a w) (hb : (part f.type ys f.offset).run P w = .ok b w) (he : (Op.equalIn d f.type a b).run P w = .ok r w) (hr : (Op.eqFields d xs ys fs).run P w = .ok s w) : (Op.eqFields d xs ys (f :: fs)).run P w = .ok (r && s) w := by
  have hn' : f.name ≠ "_" := by simpa using hn
  rw [Op.eqFields]
  simp only [if_pos hn', Sem.run_bind, ha, hb, he, Result.andThen_ok]
  cases r
  · simp
  · simpa using hr
theorem eqA_of {t : TypeId} {fs : Array Field} (hu : P.underlying t = some (.struct fs)) (hp : P.stoodInHeld t = false) (h : (Op.eqFields d xs ys fs.toList).run P w = .ok r w) : (Op.equalIn (d + 1) t (.agg xs) (.agg ys)).run P w = .ok r w := by
  have hf : P.fieldsOf t = fs := by simp [Program.fieldsOf, hu]
  rw [run_equalIn_struct (P := P) w d t xs ys (by rw [hf]; exact hu) hp, hf]
  exact h
end
end Go.Proofs.YtggbjokhniigkaaW.PrintWords
-- PRINTED BY print.sh 35421559b90ae4d0a3588c463048766b98c2df88dd9212a6774a882060cdf62d: not written by this session
/-! ### 55. Reps told from the front, no append: for rows of one-cell elements and of wider ones -/
namespace Go.Proofs.YtggbjokhniigkaaW.PrintWords
/-- One cell an element. -/
theorem Reps.one {α : Type} {R : α → List Value → Prop} {ps : List α} {cs : List Value} {p : α} {v : Value} (hp : R p [v]) (h : Reps R 1 ps cs) : Reps R 1 (p :: ps) (v :: cs) := by
  refine ⟨by simp [h.1], fun j q hq => ?_⟩
  cases j with
  | zero =>
    simp only [List.getElem?_cons_zero, Option.some.injEq] at hq
    subst hq
    simpa using hp
  | succ j =>
    simp only [List.getElem?_cons_succ] at hq
    have h1 := h.2 j q hq
    simpa [Nat.mul_one] using h1
/-- More cells an element: told apart by the cells' list. -/
theorem Reps.front {α : Type} {R : α → List Value → Prop} {size : Nat} {ps : List α} {cs c all : List Value} {p : α} (hp : R p c) (hc : c.length = size) (h : Reps R size ps cs) (ha : c ++ cs = all) : Reps R size (p :: ps) all := by
  subst ha
  refine ⟨by rw [List.length_append, hc, h.1, List.length_cons, Nat.succ_mul, Nat.add_comm], fun j q hq => ?_⟩
  cases j with
  | zero =>
    simp only [List.getElem?_cons_zero, Option.some.injEq] at hq
    subst hq
    rw [Nat.zero_mul, List.drop_zero, List.take_append_of_le_length (by omega), List.take_of_length_le (by omega)]
    exact hp
  | succ j =>
    simp only [List.getElem?_cons_succ] at hq
    have h1 := h.2 j q hq
    rw [Nat.succ_mul, List.drop_append, List.drop_of_length_le (by rw [hc]; exact Nat.le_add_left _ _), List.nil_append, hc, Nat.add_sub_cancel]
    exact h1
theorem Reps.c2 {α : Type} {R : α → List Value → Prop} {ps : List α} {cs : List Value} {p : α} {va vb : Value} (hp : R p [va, vb]) (h : Reps R 2 ps cs) : Reps R 2 (p :: ps) (va :: vb :: cs) := Reps.front hp rfl h rfl
theorem Reps.c3 {α : Type} {R : α → List Value → Prop} {ps : List α} {cs : List Value} {p : α} {va vb vc : Value} (hp : R p [va, vb, vc]) (h : Reps R 3 ps cs) : Reps R 3 (p :: ps) (va :: vb :: vc :: cs) := Reps.front hp rfl h rfl
theorem Reps.c4 {α : Type} {R : α → List Value → Prop} {ps : List α} {cs : List Value} {p : α} {va vb vc vd : Value} (hp : R p [va, vb, vc, vd]) (h : Reps R 4 ps cs) : Reps R 4 (p :: ps) (va :: vb :: vc :: vd :: cs) := Reps.front hp rfl h rfl
theorem Reps.c5 {α : Type} {R : α → List Value → Prop} {ps : List α} {cs : List Value} {p : α} {va vb vc vd ve : Value} (hp : R p [va, vb, vc, vd, ve]) (h : Reps R 5 ps cs) : Reps R 5 (p :: ps) (va :: vb :: vc :: vd :: ve :: cs) := Reps.front hp rfl h rfl
theorem Reps.c6 {α : Type} {R : α → List Value → Prop} {ps : List α} {cs : List Value} {p : α} {va vb vc vd ve vf : Value} (hp : R p [va, vb, vc, vd, ve, vf]) (h : Reps R 6 ps cs) : Reps R 6 (p :: ps) (va :: vb :: vc :: vd :: ve :: vf :: cs) := Reps.front hp rfl h rfl
theorem Reps.c7 {α : Type} {R : α → List Value → Prop} {ps : List α} {cs : List Value} {p : α} {va vb vc vd ve vf vg : Value} (hp : R p [va, vb, vc, vd, ve, vf, vg]) (h : Reps R 7 ps cs) : Reps R 7 (p :: ps) (va :: vb :: vc :: vd :: ve :: vf :: vg :: cs) := Reps.front hp rfl h rfl
theorem Reps.c8 {α : Type} {R : α → List Value → Prop} {ps : List α} {cs : List Value} {p : α} {va vb vc vd ve vf vg vh : Value} (hp : R p [va, vb, vc, vd, ve, vf, vg, vh]) (h : Reps R 8 ps cs) : Reps R 8 (p :: ps) (va :: vb :: vc :: vd :: ve :: vf :: vg :: vh :: cs) := Reps.front hp rfl h rfl
theorem Reps.c9 {α : Type} {R : α → List Value → Prop} {ps : List α} {cs : List Value} {p : α} {va vb vc vd ve vf vg vh vi : Value} (hp : R p [va, vb, vc, vd, ve, vf, vg, vh, vi]) (h : Reps R 9 ps cs) : Reps R 9 (p :: ps) (va :: vb :: vc :: vd :: ve :: vf :: vg :: vh :: vi :: cs) := Reps.front hp rfl h rfl
theorem Reps.c10 {α : Type} {R : α → List Value → Prop} {ps : List α} {cs : List Value} {p : α} {va vb vc vd ve vf vg vh vi vj : Value} (hp : R p [va, vb, vc, vd, ve, vf, vg, vh, vi, vj]) (h : Reps R 10 ps cs) : Reps R 10 (p :: ps) (va :: vb :: vc :: vd :: ve :: vf :: vg :: vh :: vi :: vj :: cs) := Reps.front hp rfl h rfl
end Go.Proofs.YtggbjokhniigkaaW.PrintWords
-- PRINTED BY print.sh 35421559b90ae4d0a3588c463048766b98c2df88dd9212a6774a882060cdf62d: not written by this session
/-! ### 57. A region of open order by ONE relation over what is listed so far: each operation is shown once, whatever came up before it -/
namespace Go.Proofs.YtggbjokhniigkaaW.PrintLast
/-- Number i is listed too. -/
def up (b : Nat → Bool) (i : Nat) : Nat → Bool := fun j => if j = i then true else b j
section
variable {P : Program} {ops : Array Oper} {Q : Exit → Act → World → Prop} {md : Region.Mode} {T : Bool × List (List Nat × List Nat)} {B : List Nat} {O : List Nat} {b : Nat → Bool} {i j n : Nat}
/-! The frame: what is listed has its destination filled. -/
end
end Go.Proofs.YtggbjokhniigkaaW.PrintLast
namespace Go.Proofs.YtggbjokhniigkaaW.PrintWords
end Go.Proofs.YtggbjokhniigkaaW.PrintWords
namespace Go.Proofs.YtggbjokhniigkaaW.PrintLast
end Go.Proofs.YtggbjokhniigkaaW.PrintLast
namespace Go.Proofs.YtggbjokhniigkaaW.PrintWords
end Go.Proofs.YtggbjokhniigkaaW.PrintWords
-- PRINTED BY print.sh 35421559b90ae4d0a3588c463048766b98c2df88dd9212a6774a882060cdf62d: not written by this session
namespace Go.Proofs.Ytggbjokhniigkaa.PReplicaProposes
open Go.RowKit YtggbjokhniigkaaW.PrintWords YtggbjokhniigkaaW.PrintLast YtggbjokhniigkaaW.PrintMore
attribute [local go_sem] max2_int min2_int max_two min_two max_three min_three max_four min_four   -- for this text's walks alone
def errW : Option Int → Value
  | none => .nilIface
  | some c => .iface 0 (.int .i64 c)
theorem errW_none : errW none = .nilIface := rfl
theorem errW_some (c : Int) : errW (some c) = .iface 0 (.int .i64 c) := rfl
-- the values' own types
/-! #### struct type 102 -/
structure S102 where
  f0 : Int
  f1 : ByteArray
def z102 : S102 := ⟨(0 : Int), (⟨#[]⟩ : ByteArray)⟩
def k102 : Kd S102 := Kd.iso (Kd.pair (Kd.int .i64) Kd.string) (fun x : S102 => (x.f0, x.f1))
theorem k102_open {w : World} {x : S102} {cs : List Value} (h : k102.K w x cs) : cs = [.int .i64 x.f0, .string x.f1] := by
  obtain ⟨_, _, rfl, rfl, rfl⟩ := h
  exact rfl
theorem k102_mk (w : World) (x : S102)  : k102.K w x [.int .i64 x.f0, .string x.f1] := ⟨[.int .i64 x.f0], [.string x.f1], rfl, rfl, rfl⟩
def rd_T102 (xs : List S102) (i : Int) : S102 := xs.getD i.toNat z102
theorem at_T102 {w : World} {A : Option Addr} {n : Nat} {xs : List S102} (h : Kd.C k102 w A n xs) (i : Int) (h0 : 0 ≤ i) (h1 : i < n) : ∃ ad , A = some ad ∧ w.cell? (ad.add (i.toNat * 2)) = some (.int .i64 (rd_T102 xs i).f0) ∧ w.cell? ⟨(ad.add (i.toNat * 2)).block, (ad.add (i.toNat * 2)).off + 1, none⟩ = some (.string (rd_T102 xs i).f1) := by
  obtain ⟨ad, c, e, _, hK, hc0⟩ := Kd.C_get h z102 i h0 h1
  have hc : ∀ j u, c[j]? = some u → w.cell? (ad.add (i.toNat * 2 + j)) = some u := hc0
  obtain rfl := k102_open hK
  exact ⟨ad, e, hc 0 _ rfl, by rw [← add_field _ _ 1 (by omega)]; exact hc 1 _ rfl⟩
/-! #### struct type 29 -/
end Go.Proofs.Ytggbjokhniigkaa.PReplicaProposes
-- PRINTED BY print.sh 35421559b90ae4d0a3588c463048766b98c2df88dd9212a6774a882060cdf62d: not written by this session
namespace Go.Proofs.Ytggbjokhniigkaa.PReplicaProposes
open Go.RowKit YtggbjokhniigkaaW.PrintWords YtggbjokhniigkaaW.PrintLast YtggbjokhniigkaaW.PrintMore
attribute [local go_sem] max2_int min2_int max_two min_two max_three min_three max_four min_four   -- for this text's walks alone
theorem eqA102 (d : Nat) (w : World) (x0 y0 : Int) (x1 y1 : ByteArray) :
    (Op.equalIn (d + 2) 102 (.agg #[.int .i64 x0, .string x1]) (.agg #[.int .i64 y0, .string y1])).run Try.prog w = .ok (x0 == y0 && (x1.toList == y1.toList)) w := by
  refine eqA_of Try.underlying102 (by kernel_rfl) ?_
  refine eqf_cons (by rfl) (by go_simp; rfl) (by go_simp; rfl) (by go_simp) ?_
  exact eqf_last (by rfl) (by go_simp; rfl) (by go_simp; rfl) (by go_simp)
end Go.Proofs.Ytggbjokhniigkaa.PReplicaProposes
