/- Texts laid together: Wc, Wd, We. No condition. -/
import Derived.Deep.RegionHeld3
import Derived.Deep.DeepCutAuto
import Derived.Deep.CutBlock
import Derived.Lib.SliceRun
import Derived.Test.YtggbjokhniigkaaGreatYTz3
set_option linter.unusedVariables false
set_option linter.unusedSimpArgs false
set_option maxRecDepth 100000
set_option maxHeartbeats 8000000
namespace Go.Proofs.YtggbjokhniigkaaGreat.Wc
open Ty Go.RowKit YtggbjokhniigkaaGreatW.PrintWords YtggbjokhniigkaaGreatW.PrintLast YtggbjokhniigkaaGreatW.PrintMore Mx Kx Wa Wb
theorem idsFrom_drop {l : List Int} {n : Int} {k : Nat} (h : k < l.length) (last : Int) : idsFrom n last (l.drop k) = (decide (last < rd l k) && decide (rd l k < n) && idsFrom n (rd l k) (l.drop (k + 1))) := by
  rw [List.drop_eq_getElem_cons h]
  have : rd l k = l[k] := by unfold rd; simp [List.getD, h]
  rw [this]
  rfl
theorem ids_calls (A : Option Addr) (c : Nat) (l : List Int) (n : Int) (w : World) (hl : Kd.C (Kd.int .i64) w A l.length l) (hn : l.length ≤ 1000000000) :
    Calls Tryz.prog 101 #[.slice A l.length c, .int .i64 n] w fun e w' => e = .returned (.bool (ids l n)) ∧ w = w' := by
  have HL := Aside0.mk hl
  clear hl
  unfold ids
  go_enter Tryz.func101, Tryz.ntmps101
  go_wp2
  go_loopg [9] (l.length + 1) (fun kq v9 w' => ∃ (k : Nat) (last : Int), v9 = .int .i64 k ∧ Aside0 (k ≤ l.length ∧ kq = l.length + 1 - k ∧ -1 ≤ last ∧ (k = 0 → last = -1) ∧ (∀ j, k = j + 1 → last = rd l j) ∧ idsFrom n last (l.drop k) = idsFrom n (-1) l) ∧ w' = w)
  case atStart => exact ⟨0, -1, rfl, ⟨Nat.zero_le _, rfl, by omega, fun _ => rfl, fun j hj => by omega, rfl⟩, rfl⟩
  case round =>
    obtain ⟨k, last, rfl, HK, rfl⟩ := hrel
    by_cases hlt : k < l.length
    · obtain ⟨ad, e, hx0⟩ := Kd.at_int HL.out (k : Int) (by omega) (by omega)
      cases e
      have HR := Aside0.mk (idsFrom_drop (n := n) hlt last)
      simp only [Int.toNat_natCast] at hx0
      by_cases hk0 : k = 0
      · subst hk0
        have hlast : last = -1 := HK.out.2.2.2.1 rfl
        subst hlast
        rw [add_zero_] at hx0
        generalize hent : rd l ((0 : Nat) : Int) = x at *
        have HX := Aside0.mk hent
        clear hent
        by_cases c1 : x < 0
        · go_wp2
          go_ret
          refine ⟨?_, rfl⟩
          rw [← HK.out.2.2.2.2.2, HR.out, decide_eq_false (show ¬ (-1 : Int) < x by omega)]
          simp
        · by_cases c2 : x < n
          · go_wp2
            go_roundg (l.length - 0)
            case measure => have := HK.out; omega
            case rel =>
              refine ⟨1, x, by go_num, ⟨by omega, by have := HK.out; omega, by omega, fun h => by omega, fun j hj => ?_, ?_⟩, rfl⟩
              · obtain rfl : j = 0 := by omega
                exact HX.out.symm
              · rw [← HK.out.2.2.2.2.2, HR.out, decide_eq_true (show (-1 : Int) < x by omega), decide_eq_true c2]
                simp
          · go_wp2
            go_ret
            refine ⟨?_, rfl⟩
            rw [← HK.out.2.2.2.2.2, HR.out, decide_eq_false (show ¬ x < n by omega)]
            simp
      · obtain ⟨j, rfl⟩ : ∃ j, k = j + 1 := ⟨k - 1, by omega⟩
        have hlast : last = rd l j := HK.out.2.2.2.2.1 j rfl
        obtain ⟨ad', e, hx1⟩ := Kd.at_int HL.out (j : Int) (by omega) (by omega)
        cases e
        simp only [Int.toNat_natCast] at hx1
        rw [← hlast] at hx1
        rw [add_succ_] at hx0
        generalize hent : rd l ((j + 1 : Nat) : Int) = x at *
        have HX := Aside0.mk hent
        clear hent hlast
        by_cases c1 : x < 0
        · go_wp2
          go_ret
          refine ⟨?_, rfl⟩
          rw [← HK.out.2.2.2.2.2, HR.out, decide_eq_false (show ¬ last < x by have := HK.out; omega)]
          simp
        · by_cases c2 : x < n
          · by_cases c3 : last < x
            · go_wp2
              go_roundg (l.length - (j + 1))
              case measure => have := HK.out; omega
              case rel =>
                refine ⟨j + 1 + 1, x, by go_num, ⟨by omega, by have := HK.out; omega, by omega, fun h => by omega, fun i hi => ?_, ?_⟩, rfl⟩
                · obtain rfl : i = j + 1 := by omega
                  exact HX.out.symm
                · rw [← HK.out.2.2.2.2.2, HR.out, decide_eq_true c3, decide_eq_true c2]
                  simp
            · go_wp2
              go_ret
              refine ⟨?_, rfl⟩
              rw [← HK.out.2.2.2.2.2, HR.out, decide_eq_false (show ¬ last < x by omega)]
              simp
          · go_wp2
            go_ret
            refine ⟨?_, rfl⟩
            rw [← HK.out.2.2.2.2.2, HR.out, decide_eq_false (show ¬ x < n by omega)]
            simp
    · have hk : k = l.length := by have := HK.out.1; omega
      subst hk
      go_wp2
      go_ret
      refine ⟨?_, rfl⟩
      rw [← HK.out.2.2.2.2.2, List.drop_length]
      simp [idsFrom]
/-! ### May -/
theorem rep_split (b : Bool) : b = true ∨ b = false := by cases b <;> simp
theorem May_calls (r : Rep) (A5 A7 A8 A9 A10 : Option Addr) (c5 c7 c8 c9 c10 : Nat) (w : World) (h5 : Kd.C kE w A5 r.f5.length r.f5) (h7 : Kd.C (Kd.int .i64) w A7 r.f7.length r.f7) (h8 : Kd.C (Kd.int .i64) w A8 r.f8.length r.f8) (h9 : Kd.C (Kd.int .i64) w A9 r.f9.length r.f9) (h10 : Kd.C kE w A10 r.f10.length r.f10) (hn : r.f5.length ≤ 1000000000 ∧ r.f7.length ≤ 1000000000 ∧ r.f8.length ≤ 1000000000 ∧ r.f9.length ≤ 1000000000 ∧ r.f10.length ≤ 1000000000) :
    Calls Tryz.prog 64 #[.agg (Kx.rA r A5 A7 A8 A9 A10 c5 c7 c8 c9 c10)] w fun e w' => e = .returned (.bool (may r)) ∧ Mem w w' [] := by
  have H5 := Aside0.mk h5
  have H7 := Aside0.mk h7
  have H8 := Aside0.mk h8
  have H9 := Aside0.mk h9
  have H10 := Aside0.mk h10
  obtain ⟨n5, n7, n8, n9, n10⟩ := hn
  have M0 := Aside0.mk (Mem.nil w)
  clear h5 h7 h8 h9 h10
  go_enter Tryz.func64, Tryz.ntmps64
  have M1 := Aside0.mk (M0.out.alloc (Kx.rA r A5 A7 A8 A9 A10 c5 c7 c8 c9 c10) 25)
  obtain ⟨b4, e4⟩ : ∃ b, (r.f4 == 0) = b := ⟨_, rfl⟩
  obtain ⟨b3, e3⟩ : ∃ b, (r.f3 != r.f2) = b := ⟨_, rfl⟩
  have E4 := Aside0.mk e4
  have E3 := Aside0.mk e3
  go_wp2_with (first | (go_at_call 100; refine (log_calls _ _ _ _ (Kd.C_below H5.out M1.out.below) (by assumption)).mono ?_; rintro e w1 ⟨rfl, hM⟩; have M2 := Aside0.mk (M1.out.trans hM); clear hM; have cB := blk_cell (M2.out.blk_at 0 rfl)) | (go_at_call 81; refine (size_calls _ _).mono ?_; rintro e w' ⟨rfl, rfl⟩) | (go_at_call 96; refine (below_calls _ _).mono ?_; rintro e w' ⟨rfl, rfl⟩))
  any_goals (go_ret; refine ⟨by rw [may_false r (fun h => by obtain ⟨p1, p2, p3, p4, p5, p6, p7, p8, p9, p10, p11, p12, p13, p14, p15⟩ := h; have q4 := E4.out; have q3 := E3.out; clear M0 M1 H5 H7 H8 H9 H10; (try simp at q4); (try simp at q3); first | contradiction | omega | (have z : (r.f4 < 0 ∨ 2 < r.f4) ∨ b3 = true := (by assumption); have z4 : b4 = true := (by assumption); rw [← q4] at z4; rw [← q3] at z; simp only [beq_iff_eq, bne_iff_ne, ne_eq] at z z4; omega) | (have z : (r.f6 < 0 ∨ (r.f5.length:Int) < r.f6) ∨ ((r.f7.length : Int) != r.f1) = true := (by assumption); simp only [bne_iff_ne, ne_eq] at z; omega))]; rfl, ?_⟩; first | exact Mem.sel (ps := [_]) (F := []) [] 1 M2.out rfl rfl | exact Mem.sel (ps := [_]) (F := []) [] 1 M1.out rfl rfl)
  all_goals
    go_loop [89] (fun v => ∃ k : Nat, v = .int .i64 k ∧ Aside0 (k ≤ r.f7.length ∧ ∀ n ∈ r.f7.take k, 0 ≤ n ∧ n ≤ (r.f5.length : Int))) (fun v => r.f7.length - (intOf v).toNat)
    case atStart => exact ⟨0, rfl, ⟨Nat.zero_le _, by simp⟩⟩
    case round =>
      obtain ⟨k, rfl, HK⟩ := hrel
      by_cases hlt : k < r.f7.length
      · obtain ⟨ad, e, hx0⟩ := Kd.at_int H7.out (k : Int) (by omega) (by omega)
        cases e
        replace hx0 := (M2.out.below.cell (World.block_lt_of_cell? w _ hx0)).trans hx0
        simp only [Int.toNat_natCast] at hx0
        have HX := Aside0.mk (show rd r.f7 k = r.f7[k] by unfold rd; simp [List.getD, hlt])
        generalize hent : rd r.f7 (k : Int) = x at *
        clear hent
        have HM := Aside0.mk (List.getElem_mem hlt)
        by_cases c1 : x < 0
        · go_wp2
          go_ret
          refine ⟨by rw [may_false r (fun h => by obtain ⟨p1, p2, p3, p4, p5, p6, p7, p8, p9, p10, p11, p12, p13, p14, p15⟩ := h; have := p14 _ HM.out; have := HX.out; omega)]; rfl, Mem.sel (ps := [_]) (F := []) [] 1 M2.out rfl rfl⟩
        · by_cases c2 : (r.f5.length : Int) < x
          · go_wp2
            go_ret
            refine ⟨by rw [may_false r (fun h => by obtain ⟨p1, p2, p3, p4, p5, p6, p7, p8, p9, p10, p11, p12, p13, p14, p15⟩ := h; have := p14 _ HM.out; have := HX.out; omega)]; rfl, Mem.sel (ps := [_]) (F := []) [] 1 M2.out rfl rfl⟩
          · go_wp2
            go_round
            case rel =>
              refine ⟨k + 1, by go_num, ⟨by omega, fun n hn => ?_⟩⟩
              rw [List.take_succ_eq_append_getElem hlt] at hn
              rcases List.mem_append.1 hn with hn | hn
              · exact HK.out.2 n hn
              · have := List.mem_singleton.1 hn
                have := HX.out
                omega
            case measure => simp [intOf]; omega
      · have HA := Aside0.mk (show ∀ n ∈ r.f7, 0 ≤ n ∧ n ≤ (r.f5.length : Int) by
          have h := HK.out
          have : k = r.f7.length := by omega
          subst this
          rw [List.take_length] at h
          exact h.2)
        go_wp2_with (first | (go_at_call 101; with_reducible refine (ids_calls A8 c8 r.f8 r.f1 _ (Kd.C_below H8.out M2.out.below) n8).mono ?_; rintro e w' ⟨rfl, rfl⟩) | (go_at_call 101; with_reducible refine (ids_calls A9 c9 r.f9 r.f1 _ (Kd.C_below H9.out M2.out.below) n9).mono ?_; rintro e w' ⟨rfl, rfl⟩) | (go_at_call 100; refine (log_calls A10 c10 r.f10 _ (Kd.C_below H10.out M2.out.below) n10).mono ?_; rintro e w2 ⟨rfl, hM⟩; have M3 := Aside0.mk (M2.out.trans hM); clear hM))
        all_goals
          go_ret
          refine ⟨?_, by first | exact Mem.sel (ps := [_]) (F := []) [] 1 M3.out rfl rfl | exact Mem.sel (ps := [_]) (F := []) [] 1 M2.out rfl rfl⟩
          first
          | (rw [may_false r (fun h => by obtain ⟨p1, p2, p3, p4, p5, p6, p7, p8, p9, p10, p11, p12, p13, p14, p15, p16, p17, p18, p19, p20, p21⟩ := h; unfold maxTime at p19; first | contradiction | omega)]; first | rfl | (simp; done))
          | (have zl : (0 ≤ r.f6 ∧ r.f6 ≤ (r.f5.length : Int)) ∧ ((r.f7.length : Int) != r.f1) = false := (by assumption)
             have zl2 : (r.f7.length : Int) = r.f1 := by simpa using zl.2
             have z4 : r.f4 = 0 → r.f3 = r.f2 := fun q => (by
               first
               | exact absurd (show b4 = true by rw [← E4.out, q]; rfl) (by assumption)
               | (have z3 : (0 ≤ r.f4 ∧ r.f4 ≤ 2) ∧ b3 = false := (by assumption)
                  have z5 := E3.out.trans z3.2
                  simpa using z5))
             by_cases z : r.f12 ≤ (r.f10.length : Int)
             · rw [(may_iff r).2 ⟨by assumption, by omega, by omega, by assumption, by assumption, by omega, by omega, by omega, z4, by assumption, by omega, by omega, zl2, HA.out, by assumption, by assumption, by assumption, by omega, by unfold maxTime; omega, by omega, z⟩]
               simp [z]
             · rw [may_false r (fun h => by obtain ⟨p1, p2, p3, p4, p5, p6, p7, p8, p9, p10, p11, p12, p13, p14, p15, p16, p17, p18, p19, p20, p21⟩ := h; omega)]
               simp [z])
end Go.Proofs.YtggbjokhniigkaaGreat.Wc
namespace Go.Proofs.YtggbjokhniigkaaGreat.Wd
open Ty Go.RowKit YtggbjokhniigkaaGreatW.PrintWords YtggbjokhniigkaaGreatW.PrintLast YtggbjokhniigkaaGreatW.PrintMore Mx Kx Wa
theorem C_none {α : Type} {d : Kd α} {w : World} {n : Nat} {xs : List α} (h : d.C w none n xs) : n = 0 ∧ xs = [] := by
  have h0 : n = 0 := by
    rcases Nat.eq_zero_or_pos n with h0 | h0
    · exact h0
    · obtain ⟨ad, h, _⟩ := h.2.2 h0
      cases h
  exact ⟨h0, List.eq_nil_of_length_eq_zero (h.1.trans h0)⟩
theorem Mem.row_nil {w0 w : World} {rs : List Res} {α : Type} (h : Mem w0 w rs) (d : Kd α) (e : Nat) : Mem w0 w (row d e (.slice none 0 0) [] :: rs) :=
  h.cons (Below.refl _ _) (Kd.R_nil _ _ _ _ _)
/-! ### slices.Clone of numbers -/
theorem cloneI_calls (A : Option Addr) (c : Nat) (l : List Int) (w : World) (hl : Kd.C (Kd.int .i64) w A l.length l) (hn : l.length ≤ 1000000000) :
    Calls Tryz.prog 95 #[.slice A l.length c] w fun e w' => ∃ v : Value, e = .returned v ∧ Mem w w' [row (Kd.int .i64) 3 v l] := by
  have HL := Aside0.mk hl
  have HN := Aside0.mk hn
  have M0 := Aside0.mk (Mem.nil w)
  have hq := fun (w : World) (n c : Nat) => Lib.run_eql_slice_nil (P := Tryz.prog) w 23 3 A n c 0 0 Tryz.underlying23
  cases A with
  | none =>
    obtain ⟨_, rfl⟩ := C_none hl
    clear hl hn
    go_enter Tryz.func95, Tryz.ntmps95
    go_wp2
    go_ret
    exact ⟨_, rfl, Mem.row_nil M0.out _ _⟩
  | some ad =>
    clear hl hn
    go_enter Tryz.func95, Tryz.ntmps95
    go_wp2_with (((with_reducible refine gate_builtin (b := .append) (xs := #[.tmp 5, .tmp 6]) rfl ?_); at_builtin; refine Mem.app (Kd.int .i64) ((M0.out.alloc #[] 3).lit 0 (Kd.int .i64) [] rfl (Reps.none _ _) (by decide)) 0 _ [] l rfl (.tmp 5) (.tmp 6) 23 3 _ _ rfl Tryz.underlying23 infoInt rfl (by decide) (by omega) (some ad) _ c rfl rfl rfl (Kd.C_alloc HL.out _) (fun x cs h => h) (by have := HN.out; simp; omega) ?_; intro v1 w1 hM1; have M1 := Aside0.mk hM1; clear hM1))
    go_ret
    exact ⟨_, rfl, M1.out⟩
/-! ### copied -/
def rc (r : Rep) (v5 v7 v8 v9 v10 : Value) : Array Value := #[.int .i64 r.f0, .int .i64 r.f1, .int .i64 r.f2, .int .i64 r.f3, .int .i64 r.f4, v5, .int .i64 r.f6, v7, v8, v9, v10, .int .i64 r.f11, .int .i64 r.f12]
def rows (r : Rep) (v5 v7 v8 v9 v10 : Value) : List Res := [row kE 68 v5 r.f5, row (Kd.int .i64) 3 v7 r.f7, row (Kd.int .i64) 3 v8 r.f8, row (Kd.int .i64) 3 v9 r.f9, row kE 68 v10 r.f10]
def Small (r : Rep) : Prop := r.f5.length ≤ 1000000000 ∧ r.f7.length ≤ 1000000000 ∧ r.f8.length ≤ 1000000000 ∧ r.f9.length ≤ 1000000000 ∧ r.f10.length ≤ 1000000000
/-- The replica's slices, read. -/
structure RdRep (w : World) (r : Rep) (A5 A7 A8 A9 A10 : Option Addr) : Prop where
  h5 : Kd.C kE w A5 r.f5.length r.f5
  h7 : Kd.C (Kd.int .i64) w A7 r.f7.length r.f7
  h8 : Kd.C (Kd.int .i64) w A8 r.f8.length r.f8
  h9 : Kd.C (Kd.int .i64) w A9 r.f9.length r.f9
  h10 : Kd.C kE w A10 r.f10.length r.f10
theorem RdRep.below {w w1 : World} {r : Rep} {A5 A7 A8 A9 A10 : Option Addr} (h : RdRep w r A5 A7 A8 A9 A10) (hb : Below w.heap.size w w1) : RdRep w1 r A5 A7 A8 A9 A10 := ⟨Kd.C_below h.h5 hb, Kd.C_below h.h7 hb, Kd.C_below h.h8 hb, Kd.C_below h.h9 hb, Kd.C_below h.h10 hb⟩
theorem copied_calls (r : Rep) (A5 A7 A8 A9 A10 : Option Addr) (c5 c7 c8 c9 c10 : Nat) (w : World) (h : RdRep w r A5 A7 A8 A9 A10) (hn : Small r) :
    Calls Tryz.prog 63 #[.agg (rc r (.slice A5 r.f5.length c5) (.slice A7 r.f7.length c7) (.slice A8 r.f8.length c8) (.slice A9 r.f9.length c9) (.slice A10 r.f10.length c10))] w fun e w' =>
      ∃ v5 v7 v8 v9 v10 : Value, e = .returned (.agg (rc r v5 v7 v8 v9 v10)) ∧ Mem w w' (rows r v5 v7 v8 v9 v10) := by
  have H := Aside0.mk h
  obtain ⟨n5, n7, n8, n9, n10⟩ := hn
  have M0 := Aside0.mk (Mem.nil w)
  clear h
  unfold rc
  go_enter Tryz.func63, Tryz.ntmps63
  have M := Aside0.mk ((M0.out.alloc (Kx.rA r A5 A7 A8 A9 A10 c5 c7 c8 c9 c10) 25).allocAt #[.int .i64 0, .int .i64 0, .int .i64 0, .int .i64 0, .int .i64 0, .slice none 0 0, .int .i64 0, .slice none 0 0, .slice none 0 0, .slice none 0 0, .slice none 0 0, .int .i64 0, .int .i64 0] 25 (w.heap.size + 1) (by simp))
  go_upto_region 1 with (fail)
  go_cut [1] (fun s1 wx => ∃ (B5 B10 : Option Addr) (d5 d10 : Nat), s1 = .pointer (some ⟨w.heap.size, 0, none⟩) ∧ Aside0 (Mem w wx [blk w.heap.size 25 #[.int .i64 r.f0, .int .i64 r.f1, .int .i64 r.f2, .int .i64 r.f3, .int .i64 r.f4, .slice B5 r.f5.length d5, .int .i64 r.f6, .slice A7 r.f7.length c7, .slice A8 r.f8.length c8, .slice A9 r.f9.length c9, .slice B10 r.f10.length d10, .int .i64 r.f11, .int .i64 r.f12], blk (w.heap.size + 1) 25 #[.int .i64 0, .int .i64 0, .int .i64 0, .int .i64 0, .int .i64 0, .slice none 0 0, .int .i64 0, .slice none 0 0, .slice none 0 0, .slice none 0 0, .slice none 0 0, .int .i64 0, .int .i64 0], row kE 68 (.slice B5 r.f5.length d5) r.f5, row kE 68 (.slice B10 r.f10.length d10) r.f10]))
  case first =>
    replace M := Aside0.mk M.out.drew
    have cB := blk_cell (M.out.blk_at (g := w.heap.size) 1 rfl)
    have fB := blk_frozen (M.out.blk_at (g := w.heap.size) 1 rfl)
    go_region_law (first
      | (go_simp; go_at_call_of 99 (Value.slice A5 r.f5.length c5); refine (entries_calls A5 c5 r.f5 _ (Kd.C_below H.out.h5 M.out.below) n5).mono ?_; rintro e w1 ⟨v, rfl, hM⟩; obtain ⟨B5, d5, rfl, _, _⟩ := hM.row_at 0 rfl; have M' := Aside0.mk (M.out.trans hM); clear hM M; have M := M'; clear M'; clear cB fB; (first | (have cB := blk_cell (M.out.blk_at (g := w.heap.size) 1 rfl); have fB := blk_frozen (M.out.blk_at (g := w.heap.size) 1 rfl)) | (have cB := blk_cell (M.out.blk_at (g := w.heap.size) 2 rfl); have fB := blk_frozen (M.out.blk_at (g := w.heap.size) 2 rfl)) | (have cB := blk_cell (M.out.blk_at (g := w.heap.size) 3 rfl); have fB := blk_frozen (M.out.blk_at (g := w.heap.size) 3 rfl))))
      | (go_simp; go_at_call_of 99 (Value.slice A10 r.f10.length c10); refine (entries_calls A10 c10 r.f10 _ (Kd.C_below H.out.h10 M.out.below) n10).mono ?_; rintro e w1 ⟨v, rfl, hM⟩; obtain ⟨B10, d10, rfl, _, _⟩ := hM.row_at 0 rfl; have M' := Aside0.mk (M.out.trans hM); clear hM M; have M := M'; clear M'; clear cB fB; (first | (have cB := blk_cell (M.out.blk_at (g := w.heap.size) 1 rfl); have fB := blk_frozen (M.out.blk_at (g := w.heap.size) 1 rfl)) | (have cB := blk_cell (M.out.blk_at (g := w.heap.size) 2 rfl); have fB := blk_frozen (M.out.blk_at (g := w.heap.size) 2 rfl)) | (have cB := blk_cell (M.out.blk_at (g := w.heap.size) 3 rfl); have fB := blk_frozen (M.out.blk_at (g := w.heap.size) 3 rfl)))))
    all_goals
      go_wp2_with fail
      go_meet
      case rel => first
        | exact ⟨B5, B10, d5, d10, rfl, ⟨Mem.sel (ps := [_, _, _, _]) (F := []) [3, 2, 0, 1] 4 ((M.out.set 3 rfl 5 (.slice B5 r.f5.length d5)).set 3 rfl 10 (.slice B10 r.f10.length d10)) rfl rfl⟩⟩
        | exact ⟨B5, B10, d5, d10, rfl, ⟨Mem.sel (ps := [_, _, _, _]) (F := []) [3, 2, 1, 0] 4 ((M.out.set 3 rfl 5 (.slice B5 r.f5.length d5)).set 3 rfl 10 (.slice B10 r.f10.length d10)) rfl rfl⟩⟩
  case rest =>
    obtain ⟨B5, B10, d5, d10, rfl, M1⟩ := hcut
    clear M
    go_upto_region 2 with (fail)
    go_cut [1] (fun s1 wx => ∃ (B7 B8 B9 : Option Addr) (d7 d8 d9 : Nat), s1 = .pointer (some ⟨w.heap.size, 0, none⟩) ∧ Aside0 (Mem w wx [blk w.heap.size 25 #[.int .i64 r.f0, .int .i64 r.f1, .int .i64 r.f2, .int .i64 r.f3, .int .i64 r.f4, .slice B5 r.f5.length d5, .int .i64 r.f6, .slice B7 r.f7.length d7, .slice B8 r.f8.length d8, .slice B9 r.f9.length d9, .slice B10 r.f10.length d10, .int .i64 r.f11, .int .i64 r.f12], blk (w.heap.size + 1) 25 #[.int .i64 0, .int .i64 0, .int .i64 0, .int .i64 0, .int .i64 0, .slice none 0 0, .int .i64 0, .slice none 0 0, .slice none 0 0, .slice none 0 0, .slice none 0 0, .int .i64 0, .int .i64 0], row kE 68 (.slice B5 r.f5.length d5) r.f5, row (Kd.int .i64) 3 (.slice B7 r.f7.length d7) r.f7, row (Kd.int .i64) 3 (.slice B8 r.f8.length d8) r.f8, row (Kd.int .i64) 3 (.slice B9 r.f9.length d9) r.f9, row kE 68 (.slice B10 r.f10.length d10) r.f10]))
    case first =>
      have M := Aside0.mk M1.out.drew
      have cB := blk_cell (M.out.blk_at (g := w.heap.size) 0 rfl)
      have fB := blk_frozen (M.out.blk_at (g := w.heap.size) 0 rfl)
      go_region_law (first
        | (go_simp; go_at_call_of 95 (Value.slice A7 r.f7.length c7); refine (cloneI_calls A7 c7 r.f7 _ (Kd.C_below H.out.h7 M.out.below) n7).mono ?_; rintro e w1 ⟨v, rfl, hM⟩; obtain ⟨B7, d7, rfl, _, _⟩ := hM.row_at 0 rfl; have M' := Aside0.mk (M.out.trans hM); clear hM M; have M := M'; clear M'; clear cB fB; (first | (have cB := blk_cell (M.out.blk_at (g := w.heap.size) 0 rfl); have fB := blk_frozen (M.out.blk_at (g := w.heap.size) 0 rfl)) | (have cB := blk_cell (M.out.blk_at (g := w.heap.size) 1 rfl); have fB := blk_frozen (M.out.blk_at (g := w.heap.size) 1 rfl)) | (have cB := blk_cell (M.out.blk_at (g := w.heap.size) 2 rfl); have fB := blk_frozen (M.out.blk_at (g := w.heap.size) 2 rfl)) | (have cB := blk_cell (M.out.blk_at (g := w.heap.size) 3 rfl); have fB := blk_frozen (M.out.blk_at (g := w.heap.size) 3 rfl))))
        | (go_simp; go_at_call_of 95 (Value.slice A8 r.f8.length c8); refine (cloneI_calls A8 c8 r.f8 _ (Kd.C_below H.out.h8 M.out.below) n8).mono ?_; rintro e w1 ⟨v, rfl, hM⟩; obtain ⟨B8, d8, rfl, _, _⟩ := hM.row_at 0 rfl; have M' := Aside0.mk (M.out.trans hM); clear hM M; have M := M'; clear M'; clear cB fB; (first | (have cB := blk_cell (M.out.blk_at (g := w.heap.size) 0 rfl); have fB := blk_frozen (M.out.blk_at (g := w.heap.size) 0 rfl)) | (have cB := blk_cell (M.out.blk_at (g := w.heap.size) 1 rfl); have fB := blk_frozen (M.out.blk_at (g := w.heap.size) 1 rfl)) | (have cB := blk_cell (M.out.blk_at (g := w.heap.size) 2 rfl); have fB := blk_frozen (M.out.blk_at (g := w.heap.size) 2 rfl)) | (have cB := blk_cell (M.out.blk_at (g := w.heap.size) 3 rfl); have fB := blk_frozen (M.out.blk_at (g := w.heap.size) 3 rfl))))
        | (go_simp; go_at_call_of 95 (Value.slice A9 r.f9.length c9); refine (cloneI_calls A9 c9 r.f9 _ (Kd.C_below H.out.h9 M.out.below) n9).mono ?_; rintro e w1 ⟨v, rfl, hM⟩; obtain ⟨B9, d9, rfl, _, _⟩ := hM.row_at 0 rfl; have M' := Aside0.mk (M.out.trans hM); clear hM M; have M := M'; clear M'; clear cB fB; (first | (have cB := blk_cell (M.out.blk_at (g := w.heap.size) 0 rfl); have fB := blk_frozen (M.out.blk_at (g := w.heap.size) 0 rfl)) | (have cB := blk_cell (M.out.blk_at (g := w.heap.size) 1 rfl); have fB := blk_frozen (M.out.blk_at (g := w.heap.size) 1 rfl)) | (have cB := blk_cell (M.out.blk_at (g := w.heap.size) 2 rfl); have fB := blk_frozen (M.out.blk_at (g := w.heap.size) 2 rfl)) | (have cB := blk_cell (M.out.blk_at (g := w.heap.size) 3 rfl); have fB := blk_frozen (M.out.blk_at (g := w.heap.size) 3 rfl)))))
      all_goals
        go_wp2_with fail
        go_meet
        case rel => first
        | exact ⟨B7, B8, B9, d7, d8, d9, rfl, ⟨Mem.sel (ps := [_, _, _, _, _, _, _]) (F := []) [3, 4, 5, 0, 1, 2, 6] 7 (((M.out.set 3 rfl 7 (.slice B7 r.f7.length d7)).set 3 rfl 8 (.slice B8 r.f8.length d8)).set 3 rfl 9 (.slice B9 r.f9.length d9)) rfl rfl⟩⟩
        | exact ⟨B7, B8, B9, d7, d8, d9, rfl, ⟨Mem.sel (ps := [_, _, _, _, _, _, _]) (F := []) [3, 4, 5, 0, 2, 1, 6] 7 (((M.out.set 3 rfl 7 (.slice B7 r.f7.length d7)).set 3 rfl 8 (.slice B8 r.f8.length d8)).set 3 rfl 9 (.slice B9 r.f9.length d9)) rfl rfl⟩⟩
        | exact ⟨B7, B8, B9, d7, d8, d9, rfl, ⟨Mem.sel (ps := [_, _, _, _, _, _, _]) (F := []) [3, 4, 5, 1, 0, 2, 6] 7 (((M.out.set 3 rfl 7 (.slice B7 r.f7.length d7)).set 3 rfl 8 (.slice B8 r.f8.length d8)).set 3 rfl 9 (.slice B9 r.f9.length d9)) rfl rfl⟩⟩
        | exact ⟨B7, B8, B9, d7, d8, d9, rfl, ⟨Mem.sel (ps := [_, _, _, _, _, _, _]) (F := []) [3, 4, 5, 1, 2, 0, 6] 7 (((M.out.set 3 rfl 7 (.slice B7 r.f7.length d7)).set 3 rfl 8 (.slice B8 r.f8.length d8)).set 3 rfl 9 (.slice B9 r.f9.length d9)) rfl rfl⟩⟩
        | exact ⟨B7, B8, B9, d7, d8, d9, rfl, ⟨Mem.sel (ps := [_, _, _, _, _, _, _]) (F := []) [3, 4, 5, 2, 0, 1, 6] 7 (((M.out.set 3 rfl 7 (.slice B7 r.f7.length d7)).set 3 rfl 8 (.slice B8 r.f8.length d8)).set 3 rfl 9 (.slice B9 r.f9.length d9)) rfl rfl⟩⟩
        | exact ⟨B7, B8, B9, d7, d8, d9, rfl, ⟨Mem.sel (ps := [_, _, _, _, _, _, _]) (F := []) [3, 4, 5, 2, 1, 0, 6] 7 (((M.out.set 3 rfl 7 (.slice B7 r.f7.length d7)).set 3 rfl 8 (.slice B8 r.f8.length d8)).set 3 rfl 9 (.slice B9 r.f9.length d9)) rfl rfl⟩⟩
    case rest =>
      obtain ⟨B7, B8, B9, d7, d8, d9, rfl, M2⟩ := hcut
      have cB := blk_cell (M2.out.blk_at 0 rfl)
      have fC := blk_frozen (M2.out.blk_at 1 rfl)
      have cC := blk_cell (M2.out.blk_at 1 rfl)
      go_wp2
      have M3 := M2.out.setRow 1 rfl [(.int .i64 r.f0), (.int .i64 r.f1), (.int .i64 r.f2), (.int .i64 r.f3), (.int .i64 r.f4), (.slice B5 r.f5.length d5), (.int .i64 r.f6), (.slice B7 r.f7.length d7), (.slice B8 r.f8.length d8), (.slice B9 r.f9.length d9), (.slice B10 r.f10.length d10), (.int .i64 r.f11), (.int .i64 r.f12)] rfl
      have hg3 := M3.blk_at 1 rfl
      refine bodyPost_ret (results_cell_row rfl _ _ (w.heap.size + 1) 25 #[.int .i64 r.f0, .int .i64 r.f1, .int .i64 r.f2, .int .i64 r.f3, .int .i64 r.f4, .slice B5 r.f5.length d5, .int .i64 r.f6, .slice B7 r.f7.length d7, .slice B8 r.f8.length d8, .slice B9 r.f9.length d9, .slice B10 r.f10.length d10, .int .i64 r.f11, .int .i64 r.f12] (0, 0) _ rfl hg3 Tryz.underlying25 rfl (by kernel_rfl)) rfl ?_
      exact ⟨_, _, _, _, _, rfl, Mem.sel (ps := [_, _, _, _, _, _, _]) (F := []) [2, 3, 4, 5, 6] 7 M3 rfl rfl⟩
end Go.Proofs.YtggbjokhniigkaaGreat.Wd
namespace Go.Proofs.YtggbjokhniigkaaGreat.We
open Ty Go.RowKit YtggbjokhniigkaaGreatW.PrintWords YtggbjokhniigkaaGreatW.PrintLast YtggbjokhniigkaaGreatW.PrintMore Mx Kx Wa
theorem primary_calls (w : World) (g : Nat) (i n vw nr hw : Int) (vl : Value) (cm : Int) (va vv vo vb : Value) (bv bd : Int) (vout : Value) (view : Int)
    (hb : w.heap[g]? = some (.cells (wc i n vw nr hw vl cm va vv vo vb bv bd vout) 95 (0, 0))) (hv : 0 ≤ view) (hv2 : view ≤ 4611686018427387904) (hn : 0 < n) (hn2 : n ≤ 5) :
    Calls Tryz.prog 97 #[.pointer (some ⟨g, 0, none⟩), .int .i64 view] w fun e w' => e = .returned (.int .i64 (view % n)) ∧ Drawn0 w w' := by
  have cB := blk_cell hb
  unfold wc at cB
  clear hb
  have hz : (n == 0) = false := by simp; omega
  have hz2 : ¬ n = 0 := by omega
  go_enter Tryz.func97, Tryz.ntmps97
  go_wp2
  (try go_quiet (fail))
  (try go_wp2)
  go_ret
  exact ⟨rfl, by repeat (first | exact Drawn0.refl _ | apply Drawn0.step)⟩
theorem primary_quiet (w : World) (k : Nat) (g : Nat) (i n vw nr hw : Int) (vl : Value) (cm : Int) (va vv vo vb : Value) (bv bd : Int) (vout : Value) (view : Int)
    (hb : w.heap[g]? = some (.cells (wc i n vw nr hw vl cm va vv vo vb bv bd vout) 95 (0, 0))) (hv : 0 ≤ view) (hv2 : view ≤ 4611686018427387904) (hn : 0 < n) (hn2 : n ≤ 5) :
    Calls Tryz.prog 97 #[.pointer (some ⟨g, 0, none⟩), .int .i64 view] (w.drewN k) fun e w' => e = .returned (.int .i64 (view % n)) ∧ ∃ m, w' = w.drewN m :=
  (primary_calls (w.drewN k) g i n vw nr hw vl cm va vv vo vb bv bd vout view hb hv hv2 hn hn2).mono fun e w' h => ⟨h.1, by obtain ⟨m, h2⟩ := h.2.out; rw [h2]; exact (Drawn0.step (⟨⟨k, rfl⟩⟩ : Drawn0 w (w.drewN k)) m).out⟩
theorem allFrom_step (id n view : Int) (m : Msg) (k : Nat) (h : (k : Int) < n) : allFrom id n view m (n.toNat - k) k = if (k : Int) = id then allFrom id n view m (n.toNat - (k + 1)) ((k + 1 : Nat) : Int) else { m with f1 := id, f2 := k, f3 := view } :: allFrom id n view m (n.toNat - (k + 1)) ((k + 1 : Nat) : Int) := by
  obtain ⟨j, hj⟩ : ∃ j, n.toNat - k = j + 1 := ⟨n.toNat - k - 1, by omega⟩
  rw [hj, show n.toNat - (k + 1) = j by omega]
  simp only [allFrom]
  rw [if_pos h]
  push_cast
  rfl
theorem all_calls (w0 w : World) (R : Res) (F : List Res) (g : Nat) (i n vw nr hw : Int) (vl : Value) (cm : Int) (va vv vo vb : Value) (bv bd : Int) (vout : Value) (out : List Msg) (m0 m1 m2 m3 m4 m5 m6 : Int) (A : Option Addr) (c : Nat) (l : List Entry)
    (hM : Mem w0 w (R :: blk g 95 (wc i n vw nr hw vl cm va vv vo vb bv bd vout) :: row kM 27 vout out :: F)) (hl : Rd w0 R kE A l) (hn : l.length ≤ 1000000000) (hc : l.length ≤ c) (ho : out.length ≤ 1000000) (hn0 : 0 < n) (hn5 : n ≤ 5) :
    Calls Tryz.prog 98 #[.pointer (some ⟨g, 0, none⟩), .agg #[.int .i64 m0, .int .i64 m1, .int .i64 m2, .int .i64 m3, .int .i64 m4, .int .i64 m5, .int .i64 m6, .slice A l.length c]] w fun e w' =>
      ∃ vout' : Value, e = .returned (.tuple #[]) ∧ Mem w0 w' (R :: blk g 95 (wc i n vw nr hw vl cm va vv vo vb bv bd vout') :: row kM 27 vout' (out ++ allFrom i n vw ⟨m0, m1, m2, m3, m4, m5, m6, l⟩ n.toNat 0) :: F) := by
  have HN := Aside0.mk hn
  have HC := Aside0.mk hc
  have HO := Aside0.mk ho
  have HL := Aside0.mk hl
  have M0 := Aside0.mk (hM.allocAt #[.int .i64 m0, .int .i64 m1, .int .i64 m2, .int .i64 m3, .int .i64 m4, .int .i64 m5, .int .i64 m6, .slice A l.length c] 27 _ rfl)
  have cG := blk_cell (hM.blk_at 1 rfl)
  have hg : g < w.heap.size := blk_lt (hM.blk_at 1 rfl)
  unfold wc at cG
  clear hM hl hn hc ho
  go_enter Tryz.func98, Tryz.ntmps98
  go_wp2_with fail
  go_loopg [10] (n.toNat + 1) (fun kq v10 w' => ∃ (k : Nat) (vo' : Value) (out' : List Msg), v10 = .int .i64 k ∧ Aside0 ((k : Int) ≤ n ∧ kq = n.toNat + 1 - k ∧ out'.length ≤ out.length + k ∧ out' ++ allFrom i n vw ⟨m0, m1, m2, m3, m4, m5, m6, l⟩ (n.toNat - k) k = out ++ allFrom i n vw ⟨m0, m1, m2, m3, m4, m5, m6, l⟩ n.toNat 0) ∧ Aside0 (Mem w0 w' (blk w.heap.size 27 #[.int .i64 m0, .int .i64 m1, .int .i64 m2, .int .i64 m3, .int .i64 m4, .int .i64 m5, .int .i64 m6, .slice A l.length c] :: R :: blk g 95 (wc i n vw nr hw vl cm va vv vo vb bv bd vo') :: row kM 27 vo' out' :: F)))
  case atStart => exact ⟨0, vout, out, rfl, ⟨by omega, by omega, by omega, by simp⟩, M0⟩
  case round =>
    obtain ⟨k, vo', out', rfl, HK, M1⟩ := hrel
    clear cG M0
    have cG := blk_cell (M1.out.blk_at 2 rfl)
    have cB := blk_cell (M1.out.blk_at 0 rfl)
    unfold wc at cG
    have hgw : g < wr.heap.size := blk_lt (M1.out.blk_at 2 rfl)
    by_cases hlt : (k : Int) < n
    · have HS := Aside0.mk (allFrom_step i n vw ⟨m0, m1, m2, m3, m4, m5, m6, l⟩ k hlt)
      by_cases hid : (k : Int) = i
      · have HI := Aside0.mk hid
        have e1 : ((k : Int) == i) = true := by simpa using hid
        have e2 : ((k : Int) != i) = false := by simpa using hid
        clear hid
        go_wp2_with fail
        go_roundg (n.toNat - k)
        case measure => have := HK.out; omega
        case rel =>
          refine ⟨k + 1, vo', out', by go_num, ⟨by omega, by omega, by have := HK.out; omega, ?_⟩, M1⟩
          have h1 := HK.out.2.2.2
          rw [HS.out, if_pos HI.out] at h1
          exact h1
      · have HI := Aside0.mk hid
        have e1 : ((k : Int) == i) = false := by simpa using hid
        have e2 : ((k : Int) != i) = true := by simpa using hid
        clear hid
        go_wp2_with fail
        refine (send_calls w0 _ R (blk w.heap.size 27 #[.int .i64 m0, .int .i64 m1, .int .i64 m2, .int .i64 m3, .int .i64 m4, .int .i64 m5, .int .i64 m6, .slice A l.length c] :: F) g i n vw nr hw vl cm va vv vo vb bv bd vo' out' k m0 m1 m2 m3 m4 m5 m6 A c l (Mem.sel (ps := [_, _, _, _]) (F := F) [1, 2, 3, 0] 4 M1.out rfl rfl) HL.out HN.out HC.out (by have := HK.out; have := HO.out; omega)).mono ?_
        rintro e w1 ⟨vo2, rfl, hM⟩
        have M2 := Aside0.mk (Mem.sel (ps := [_, _, _, _]) (F := F) [3, 0, 1, 2] 4 hM rfl rfl)
        clear hM
        go_wp2_with fail
        go_roundg (n.toNat - k)
        case measure => have := HK.out; omega
        case rel =>
          refine ⟨k + 1, vo2, _, by go_num, ⟨by omega, by omega, ?_, ?_⟩, M2⟩
          · have := HK.out
            rw [List.length_append, List.length_singleton]
            omega
          · have h1 := HK.out.2.2.2
            rw [HS.out, if_neg HI.out] at h1
            rw [List.append_assoc]
            exact h1
    · have hk : (k : Int) = n := by have := HK.out.1; omega
      have HE := Aside0.mk hk
      clear hk
      go_wp2_with fail
      go_end0
      first | refine ⟨vo', rfl, ?_⟩ | refine ⟨rfl, vo', ?_⟩
      have h1 := HK.out.2.2.2
      have h2 : n.toNat - k = 0 := by have := HE.out; omega
      rw [h2] at h1
      simp only [allFrom, List.append_nil] at h1
      rw [← h1]
      exact Mem.sel (ps := [_, _, _, _]) (F := F) [1, 2, 3] 4 M1.out rfl rfl
end Go.Proofs.YtggbjokhniigkaaGreat.We
