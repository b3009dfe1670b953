/- Texts laid together: Wd, We, Wf. No condition. -/
import Derived.Test.YtggbjokhniigkaaGreatGc
import Derived.Deep.RegionHeld3
import Derived.Deep.DeepCutAuto
import Derived.Deep.CutBlock
import Derived.Lib.SliceRun
import Derived.Test.YtggbjokhniigkaaGreatWcq
/- Walks: a replica in memory of its own. -/
namespace Go.Proofs.YtggbjokhniigkaaGreat.Wd
open Go.Proofs.YtggbjokhniigkaaGreat.Ty Go.RowKit Go.Proofs.YtggbjokhniigkaaGreatW.PrintWords Go.Proofs.YtggbjokhniigkaaGreatW.PrintLast Go.Proofs.YtggbjokhniigkaaGreatW.PrintMore Go.Proofs.YtggbjokhniigkaaGreat.Mx Go.Proofs.YtggbjokhniigkaaGreat.Kx Go.Proofs.YtggbjokhniigkaaGreat.Wa
set_option linter.unusedVariables false
set_option linter.unusedSimpArgs false

theorem C_none {α : Type} {d : Kd α} {w : World} {n : Nat} {xs : List α} (h : d.C w none n xs) : n = 0 ∧ xs = [] := by
  have h0 : n = 0 := by
    rcases Nat.eq_zero_or_pos n with h0 | h0
    · exact h0
    · obtain ⟨ad, h, _⟩ := h.2.2 h0
      cases h
  exact ⟨h0, List.eq_nil_of_length_eq_zero (h.1.trans h0)⟩
theorem Mem.row_nil {w0 w : World} {rs : List Res} {α : Type} (h : Mem w0 w rs) (d : Kd α) (e : Nat) : Mem w0 w (row d e (.slice none 0 0) [] :: rs) :=
  h.cons (Below.refl _ _) (Kd.R_nil _ _ _ _ _)
/-! ### slices.Clone of numbers -/
set_option maxRecDepth 100000 in
set_option maxHeartbeats 2000000 in
theorem cloneI_calls (A : Option Addr) (c : Nat) (l : List Int) (w : World) (hl : Kd.C (Kd.int .i64) w A l.length l) (hn : l.length ≤ 1000000000) :
    Calls Tryz.prog 95 #[.slice A l.length c] w fun e w' => ∃ v : Value, e = .returned v ∧ Mem w w' [row (Kd.int .i64) 3 v l] := by
  have HL := Aside0.mk hl
  have HN := Aside0.mk hn
  have M0 := Aside0.mk (Mem.nil w)
  have hq := fun (w : World) (n c : Nat) => Lib.run_eql_slice_nil (P := Tryz.prog) w 23 3 A n c 0 0 Tryz.underlying23
  cases A with
  | none =>
    obtain ⟨_, rfl⟩ := C_none hl
    clear hl hn
    go_enter Tryz.func95, Tryz.ntmps95
    go_wp2
    go_ret
    exact ⟨_, rfl, Mem.row_nil M0.out _ _⟩
  | some ad =>
    clear hl hn
    go_enter Tryz.func95, Tryz.ntmps95
    go_wp2_with (((with_reducible refine gate_builtin (b := .append) (xs := #[.tmp 5, .tmp 6]) rfl ?_); at_builtin; refine Mem.app (Kd.int .i64) ((M0.out.alloc #[] 3).lit 0 (Kd.int .i64) [] rfl (Reps.none _ _) (by decide)) 0 _ [] l rfl (.tmp 5) (.tmp 6) 23 3 _ _ rfl Tryz.underlying23 infoInt rfl (by decide) (by omega) (some ad) _ c rfl rfl rfl (Kd.C_alloc HL.out _) (fun x cs h => h) (by have := HN.out; simp; omega) ?_; intro v1 w1 hM1; have M1 := Aside0.mk hM1; clear hM1))
    go_ret
    exact ⟨_, rfl, M1.out⟩

/-! ### copied -/
def rc (r : Rep) (v5 v7 v8 v9 v10 : Value) : Array Value := #[.int .i64 r.f0, .int .i64 r.f1, .int .i64 r.f2, .int .i64 r.f3, .int .i64 r.f4, v5, .int .i64 r.f6, v7, v8, v9, v10, .int .i64 r.f11, .int .i64 r.f12]
def rows (r : Rep) (v5 v7 v8 v9 v10 : Value) : List Res := [row kE 68 v5 r.f5, row (Kd.int .i64) 3 v7 r.f7, row (Kd.int .i64) 3 v8 r.f8, row (Kd.int .i64) 3 v9 r.f9, row kE 68 v10 r.f10]
def Small (r : Rep) : Prop := r.f5.length ≤ 1000000000 ∧ r.f7.length ≤ 1000000000 ∧ r.f8.length ≤ 1000000000 ∧ r.f9.length ≤ 1000000000 ∧ r.f10.length ≤ 1000000000
/-- The replica's slices, read. -/
structure RdRep (w : World) (r : Rep) (A5 A7 A8 A9 A10 : Option Addr) : Prop where
  h5 : Kd.C kE w A5 r.f5.length r.f5
  h7 : Kd.C (Kd.int .i64) w A7 r.f7.length r.f7
  h8 : Kd.C (Kd.int .i64) w A8 r.f8.length r.f8
  h9 : Kd.C (Kd.int .i64) w A9 r.f9.length r.f9
  h10 : Kd.C kE w A10 r.f10.length r.f10
theorem RdRep.below {w w1 : World} {r : Rep} {A5 A7 A8 A9 A10 : Option Addr} (h : RdRep w r A5 A7 A8 A9 A10) (hb : Below w.heap.size w w1) : RdRep w1 r A5 A7 A8 A9 A10 := ⟨Kd.C_below h.h5 hb, Kd.C_below h.h7 hb, Kd.C_below h.h8 hb, Kd.C_below h.h9 hb, Kd.C_below h.h10 hb⟩
set_option maxRecDepth 100000 in
set_option maxHeartbeats 8000000 in
theorem copied_calls (r : Rep) (A5 A7 A8 A9 A10 : Option Addr) (c5 c7 c8 c9 c10 : Nat) (w : World) (h : RdRep w r A5 A7 A8 A9 A10) (hn : Small r) :
    Calls Tryz.prog 63 #[.agg (rc r (.slice A5 r.f5.length c5) (.slice A7 r.f7.length c7) (.slice A8 r.f8.length c8) (.slice A9 r.f9.length c9) (.slice A10 r.f10.length c10))] w fun e w' =>
      ∃ v5 v7 v8 v9 v10 : Value, e = .returned (.agg (rc r v5 v7 v8 v9 v10)) ∧ Mem w w' (rows r v5 v7 v8 v9 v10) := by
  have H := Aside0.mk h
  obtain ⟨n5, n7, n8, n9, n10⟩ := hn
  have M0 := Aside0.mk (Mem.nil w)
  clear h
  unfold rc
  go_enter Tryz.func63, Tryz.ntmps63
  have M := Aside0.mk ((M0.out.alloc #[.int .i64 r.f0, .int .i64 r.f1, .int .i64 r.f2, .int .i64 r.f3, .int .i64 r.f4, .slice A5 r.f5.length c5, .int .i64 r.f6, .slice A7 r.f7.length c7, .slice A8 r.f8.length c8, .slice A9 r.f9.length c9, .slice A10 r.f10.length c10, .int .i64 r.f11, .int .i64 r.f12] 25).allocAt #[.int .i64 0, .int .i64 0, .int .i64 0, .int .i64 0, .int .i64 0, .slice none 0 0, .int .i64 0, .slice none 0 0, .slice none 0 0, .slice none 0 0, .slice none 0 0, .int .i64 0, .int .i64 0] 25 (w.heap.size + 1) (by simp))
  go_upto_region 1 with (fail)
  go_cut [1] (fun s1 wx => ∃ (B5 B10 : Option Addr) (d5 d10 : Nat), s1 = .pointer (some ⟨w.heap.size, 0, none⟩) ∧ Aside0 (Mem w wx [blk w.heap.size 25 #[.int .i64 r.f0, .int .i64 r.f1, .int .i64 r.f2, .int .i64 r.f3, .int .i64 r.f4, .slice B5 r.f5.length d5, .int .i64 r.f6, .slice A7 r.f7.length c7, .slice A8 r.f8.length c8, .slice A9 r.f9.length c9, .slice B10 r.f10.length d10, .int .i64 r.f11, .int .i64 r.f12], blk (w.heap.size + 1) 25 #[.int .i64 0, .int .i64 0, .int .i64 0, .int .i64 0, .int .i64 0, .slice none 0 0, .int .i64 0, .slice none 0 0, .slice none 0 0, .slice none 0 0, .slice none 0 0, .int .i64 0, .int .i64 0], row kE 68 (.slice B5 r.f5.length d5) r.f5, row kE 68 (.slice B10 r.f10.length d10) r.f10]))
  case first =>
    replace M := Aside0.mk M.out.drew
    have cB := blk_cell (M.out.blk_at (g := w.heap.size) 1 rfl)
    have fB := blk_frozen (M.out.blk_at (g := w.heap.size) 1 rfl)
    go_region_law (first
      | (go_simp; go_at_call_of 99 (Value.slice A5 r.f5.length c5); refine (entries_calls A5 c5 r.f5 _ (Kd.C_below H.out.h5 M.out.below) n5).mono ?_; rintro e w1 ⟨v, rfl, hM⟩; obtain ⟨B5, d5, rfl, _, _⟩ := hM.row_at 0 rfl; have M' := Aside0.mk (M.out.trans hM); clear hM M; have M := M'; clear M'; clear cB fB; (first | (have cB := blk_cell (M.out.blk_at (g := w.heap.size) 1 rfl); have fB := blk_frozen (M.out.blk_at (g := w.heap.size) 1 rfl)) | (have cB := blk_cell (M.out.blk_at (g := w.heap.size) 2 rfl); have fB := blk_frozen (M.out.blk_at (g := w.heap.size) 2 rfl)) | (have cB := blk_cell (M.out.blk_at (g := w.heap.size) 3 rfl); have fB := blk_frozen (M.out.blk_at (g := w.heap.size) 3 rfl))))
      | (go_simp; go_at_call_of 99 (Value.slice A10 r.f10.length c10); refine (entries_calls A10 c10 r.f10 _ (Kd.C_below H.out.h10 M.out.below) n10).mono ?_; rintro e w1 ⟨v, rfl, hM⟩; obtain ⟨B10, d10, rfl, _, _⟩ := hM.row_at 0 rfl; have M' := Aside0.mk (M.out.trans hM); clear hM M; have M := M'; clear M'; clear cB fB; (first | (have cB := blk_cell (M.out.blk_at (g := w.heap.size) 1 rfl); have fB := blk_frozen (M.out.blk_at (g := w.heap.size) 1 rfl)) | (have cB := blk_cell (M.out.blk_at (g := w.heap.size) 2 rfl); have fB := blk_frozen (M.out.blk_at (g := w.heap.size) 2 rfl)) | (have cB := blk_cell (M.out.blk_at (g := w.heap.size) 3 rfl); have fB := blk_frozen (M.out.blk_at (g := w.heap.size) 3 rfl)))))
    all_goals
      go_wp2_with fail
      go_meet
      case rel => first
        | exact ⟨B5, B10, d5, d10, rfl, ⟨Mem.sel (ps := [_, _, _, _]) (F := []) [3, 2, 0, 1] 4 ((M.out.set 3 rfl 5 (.slice B5 r.f5.length d5)).set 3 rfl 10 (.slice B10 r.f10.length d10)) rfl rfl⟩⟩
        | exact ⟨B5, B10, d5, d10, rfl, ⟨Mem.sel (ps := [_, _, _, _]) (F := []) [3, 2, 1, 0] 4 ((M.out.set 3 rfl 5 (.slice B5 r.f5.length d5)).set 3 rfl 10 (.slice B10 r.f10.length d10)) rfl rfl⟩⟩
  case rest =>
    obtain ⟨B5, B10, d5, d10, rfl, M1⟩ := hcut
    clear M
    go_upto_region 2 with (fail)
    go_cut [1] (fun s1 wx => ∃ (B7 B8 B9 : Option Addr) (d7 d8 d9 : Nat), s1 = .pointer (some ⟨w.heap.size, 0, none⟩) ∧ Aside0 (Mem w wx [blk w.heap.size 25 #[.int .i64 r.f0, .int .i64 r.f1, .int .i64 r.f2, .int .i64 r.f3, .int .i64 r.f4, .slice B5 r.f5.length d5, .int .i64 r.f6, .slice B7 r.f7.length d7, .slice B8 r.f8.length d8, .slice B9 r.f9.length d9, .slice B10 r.f10.length d10, .int .i64 r.f11, .int .i64 r.f12], blk (w.heap.size + 1) 25 #[.int .i64 0, .int .i64 0, .int .i64 0, .int .i64 0, .int .i64 0, .slice none 0 0, .int .i64 0, .slice none 0 0, .slice none 0 0, .slice none 0 0, .slice none 0 0, .int .i64 0, .int .i64 0], row kE 68 (.slice B5 r.f5.length d5) r.f5, row (Kd.int .i64) 3 (.slice B7 r.f7.length d7) r.f7, row (Kd.int .i64) 3 (.slice B8 r.f8.length d8) r.f8, row (Kd.int .i64) 3 (.slice B9 r.f9.length d9) r.f9, row kE 68 (.slice B10 r.f10.length d10) r.f10]))
    case first =>
      have M := Aside0.mk M1.out.drew
      have cB := blk_cell (M.out.blk_at (g := w.heap.size) 0 rfl)
      have fB := blk_frozen (M.out.blk_at (g := w.heap.size) 0 rfl)
      go_region_law (first
        | (go_simp; go_at_call_of 95 (Value.slice A7 r.f7.length c7); refine (cloneI_calls A7 c7 r.f7 _ (Kd.C_below H.out.h7 M.out.below) n7).mono ?_; rintro e w1 ⟨v, rfl, hM⟩; obtain ⟨B7, d7, rfl, _, _⟩ := hM.row_at 0 rfl; have M' := Aside0.mk (M.out.trans hM); clear hM M; have M := M'; clear M'; clear cB fB; (first | (have cB := blk_cell (M.out.blk_at (g := w.heap.size) 0 rfl); have fB := blk_frozen (M.out.blk_at (g := w.heap.size) 0 rfl)) | (have cB := blk_cell (M.out.blk_at (g := w.heap.size) 1 rfl); have fB := blk_frozen (M.out.blk_at (g := w.heap.size) 1 rfl)) | (have cB := blk_cell (M.out.blk_at (g := w.heap.size) 2 rfl); have fB := blk_frozen (M.out.blk_at (g := w.heap.size) 2 rfl)) | (have cB := blk_cell (M.out.blk_at (g := w.heap.size) 3 rfl); have fB := blk_frozen (M.out.blk_at (g := w.heap.size) 3 rfl))))
        | (go_simp; go_at_call_of 95 (Value.slice A8 r.f8.length c8); refine (cloneI_calls A8 c8 r.f8 _ (Kd.C_below H.out.h8 M.out.below) n8).mono ?_; rintro e w1 ⟨v, rfl, hM⟩; obtain ⟨B8, d8, rfl, _, _⟩ := hM.row_at 0 rfl; have M' := Aside0.mk (M.out.trans hM); clear hM M; have M := M'; clear M'; clear cB fB; (first | (have cB := blk_cell (M.out.blk_at (g := w.heap.size) 0 rfl); have fB := blk_frozen (M.out.blk_at (g := w.heap.size) 0 rfl)) | (have cB := blk_cell (M.out.blk_at (g := w.heap.size) 1 rfl); have fB := blk_frozen (M.out.blk_at (g := w.heap.size) 1 rfl)) | (have cB := blk_cell (M.out.blk_at (g := w.heap.size) 2 rfl); have fB := blk_frozen (M.out.blk_at (g := w.heap.size) 2 rfl)) | (have cB := blk_cell (M.out.blk_at (g := w.heap.size) 3 rfl); have fB := blk_frozen (M.out.blk_at (g := w.heap.size) 3 rfl))))
        | (go_simp; go_at_call_of 95 (Value.slice A9 r.f9.length c9); refine (cloneI_calls A9 c9 r.f9 _ (Kd.C_below H.out.h9 M.out.below) n9).mono ?_; rintro e w1 ⟨v, rfl, hM⟩; obtain ⟨B9, d9, rfl, _, _⟩ := hM.row_at 0 rfl; have M' := Aside0.mk (M.out.trans hM); clear hM M; have M := M'; clear M'; clear cB fB; (first | (have cB := blk_cell (M.out.blk_at (g := w.heap.size) 0 rfl); have fB := blk_frozen (M.out.blk_at (g := w.heap.size) 0 rfl)) | (have cB := blk_cell (M.out.blk_at (g := w.heap.size) 1 rfl); have fB := blk_frozen (M.out.blk_at (g := w.heap.size) 1 rfl)) | (have cB := blk_cell (M.out.blk_at (g := w.heap.size) 2 rfl); have fB := blk_frozen (M.out.blk_at (g := w.heap.size) 2 rfl)) | (have cB := blk_cell (M.out.blk_at (g := w.heap.size) 3 rfl); have fB := blk_frozen (M.out.blk_at (g := w.heap.size) 3 rfl)))))
      all_goals
        go_wp2_with fail
        go_meet
        case rel => first
        | exact ⟨B7, B8, B9, d7, d8, d9, rfl, ⟨Mem.sel (ps := [_, _, _, _, _, _, _]) (F := []) [3, 4, 5, 0, 1, 2, 6] 7 (((M.out.set 3 rfl 7 (.slice B7 r.f7.length d7)).set 3 rfl 8 (.slice B8 r.f8.length d8)).set 3 rfl 9 (.slice B9 r.f9.length d9)) rfl rfl⟩⟩
        | exact ⟨B7, B8, B9, d7, d8, d9, rfl, ⟨Mem.sel (ps := [_, _, _, _, _, _, _]) (F := []) [3, 4, 5, 0, 2, 1, 6] 7 (((M.out.set 3 rfl 7 (.slice B7 r.f7.length d7)).set 3 rfl 8 (.slice B8 r.f8.length d8)).set 3 rfl 9 (.slice B9 r.f9.length d9)) rfl rfl⟩⟩
        | exact ⟨B7, B8, B9, d7, d8, d9, rfl, ⟨Mem.sel (ps := [_, _, _, _, _, _, _]) (F := []) [3, 4, 5, 1, 0, 2, 6] 7 (((M.out.set 3 rfl 7 (.slice B7 r.f7.length d7)).set 3 rfl 8 (.slice B8 r.f8.length d8)).set 3 rfl 9 (.slice B9 r.f9.length d9)) rfl rfl⟩⟩
        | exact ⟨B7, B8, B9, d7, d8, d9, rfl, ⟨Mem.sel (ps := [_, _, _, _, _, _, _]) (F := []) [3, 4, 5, 1, 2, 0, 6] 7 (((M.out.set 3 rfl 7 (.slice B7 r.f7.length d7)).set 3 rfl 8 (.slice B8 r.f8.length d8)).set 3 rfl 9 (.slice B9 r.f9.length d9)) rfl rfl⟩⟩
        | exact ⟨B7, B8, B9, d7, d8, d9, rfl, ⟨Mem.sel (ps := [_, _, _, _, _, _, _]) (F := []) [3, 4, 5, 2, 0, 1, 6] 7 (((M.out.set 3 rfl 7 (.slice B7 r.f7.length d7)).set 3 rfl 8 (.slice B8 r.f8.length d8)).set 3 rfl 9 (.slice B9 r.f9.length d9)) rfl rfl⟩⟩
        | exact ⟨B7, B8, B9, d7, d8, d9, rfl, ⟨Mem.sel (ps := [_, _, _, _, _, _, _]) (F := []) [3, 4, 5, 2, 1, 0, 6] 7 (((M.out.set 3 rfl 7 (.slice B7 r.f7.length d7)).set 3 rfl 8 (.slice B8 r.f8.length d8)).set 3 rfl 9 (.slice B9 r.f9.length d9)) rfl rfl⟩⟩
    case rest =>
      obtain ⟨B7, B8, B9, d7, d8, d9, rfl, M2⟩ := hcut
      have cB := blk_cell (M2.out.blk_at 0 rfl)
      have fC := blk_frozen (M2.out.blk_at 1 rfl)
      have cC := blk_cell (M2.out.blk_at 1 rfl)
      go_wp2
      have M3 := M2.out.setRow 1 rfl [(.int .i64 r.f0), (.int .i64 r.f1), (.int .i64 r.f2), (.int .i64 r.f3), (.int .i64 r.f4), (.slice B5 r.f5.length d5), (.int .i64 r.f6), (.slice B7 r.f7.length d7), (.slice B8 r.f8.length d8), (.slice B9 r.f9.length d9), (.slice B10 r.f10.length d10), (.int .i64 r.f11), (.int .i64 r.f12)] rfl
      have hg3 := M3.blk_at 1 rfl
      refine bodyPost_ret (results_cell_row rfl _ _ (w.heap.size + 1) 25 #[.int .i64 r.f0, .int .i64 r.f1, .int .i64 r.f2, .int .i64 r.f3, .int .i64 r.f4, .slice B5 r.f5.length d5, .int .i64 r.f6, .slice B7 r.f7.length d7, .slice B8 r.f8.length d8, .slice B9 r.f9.length d9, .slice B10 r.f10.length d10, .int .i64 r.f11, .int .i64 r.f12] (0, 0) _ rfl hg3 Tryz.underlying25 rfl (by kernel_rfl)) rfl ?_
      exact ⟨_, _, _, _, _, rfl, Mem.sel (ps := [_, _, _, _, _, _, _]) (F := []) [2, 3, 4, 5, 6] 7 M3 rfl rfl⟩
end Go.Proofs.YtggbjokhniigkaaGreat.Wd
/- Walks: a message to all others. -/
namespace Go.Proofs.YtggbjokhniigkaaGreat.We
open Go.Proofs.YtggbjokhniigkaaGreat.Ty Go.RowKit Go.Proofs.YtggbjokhniigkaaGreatW.PrintWords Go.Proofs.YtggbjokhniigkaaGreatW.PrintLast Go.Proofs.YtggbjokhniigkaaGreatW.PrintMore Go.Proofs.YtggbjokhniigkaaGreat.Mx Go.Proofs.YtggbjokhniigkaaGreat.Kx Go.Proofs.YtggbjokhniigkaaGreat.Wa
set_option linter.unusedVariables false
set_option linter.unusedSimpArgs false

set_option maxRecDepth 100000 in
set_option maxHeartbeats 2000000 in
theorem primary_calls (w : World) (g : Nat) (i n vw nr hw : Int) (vl : Value) (cm : Int) (va vv vo vb : Value) (bv bd : Int) (vout : Value) (view : Int)
    (hb : w.heap[g]? = some (.cells (wc i n vw nr hw vl cm va vv vo vb bv bd vout) 95 (0, 0))) (hv : 0 ≤ view) (hv2 : view ≤ 4611686018427387904) (hn : 0 < n) (hn2 : n ≤ 5) :
    Calls Tryz.prog 97 #[.pointer (some ⟨g, 0, none⟩), .int .i64 view] w fun e w' => e = .returned (.int .i64 (view % n)) ∧ Drawn0 w w' := by
  have cB := blk_cell hb
  unfold wc at cB
  clear hb
  have hz : (n == 0) = false := by simp; omega
  have hz2 : ¬ n = 0 := by omega
  go_enter Tryz.func97, Tryz.ntmps97
  go_wp2
  (try go_quiet (fail))
  (try go_wp2)
  go_ret
  exact ⟨rfl, by repeat (first | exact Drawn0.refl _ | apply Drawn0.step)⟩

theorem primary_quiet (w : World) (k : Nat) (g : Nat) (i n vw nr hw : Int) (vl : Value) (cm : Int) (va vv vo vb : Value) (bv bd : Int) (vout : Value) (view : Int)
    (hb : w.heap[g]? = some (.cells (wc i n vw nr hw vl cm va vv vo vb bv bd vout) 95 (0, 0))) (hv : 0 ≤ view) (hv2 : view ≤ 4611686018427387904) (hn : 0 < n) (hn2 : n ≤ 5) :
    Calls Tryz.prog 97 #[.pointer (some ⟨g, 0, none⟩), .int .i64 view] (w.drewN k) fun e w' => e = .returned (.int .i64 (view % n)) ∧ ∃ m, w' = w.drewN m :=
  (primary_calls (w.drewN k) g i n vw nr hw vl cm va vv vo vb bv bd vout view hb hv hv2 hn hn2).mono fun e w' h => ⟨h.1, by obtain ⟨m, h2⟩ := h.2.out; rw [h2]; exact (Drawn0.step (⟨⟨k, rfl⟩⟩ : Drawn0 w (w.drewN k)) m).out⟩
theorem allFrom_step (id n view : Int) (m : Msg) (k : Nat) (h : (k : Int) < n) : allFrom id n view m (n.toNat - k) k = if (k : Int) = id then allFrom id n view m (n.toNat - (k + 1)) ((k + 1 : Nat) : Int) else { m with f1 := id, f2 := k, f3 := view } :: allFrom id n view m (n.toNat - (k + 1)) ((k + 1 : Nat) : Int) := by
  obtain ⟨j, hj⟩ : ∃ j, n.toNat - k = j + 1 := ⟨n.toNat - k - 1, by omega⟩
  rw [hj, show n.toNat - (k + 1) = j by omega]
  simp only [allFrom]
  rw [if_pos h]
  push_cast
  rfl
set_option maxRecDepth 100000 in
set_option maxHeartbeats 4000000 in
theorem all_calls (w0 w : World) (R : Res) (F : List Res) (g : Nat) (i n vw nr hw : Int) (vl : Value) (cm : Int) (va vv vo vb : Value) (bv bd : Int) (vout : Value) (out : List Msg) (m0 m1 m2 m3 m4 m5 m6 : Int) (A : Option Addr) (c : Nat) (l : List Entry)
    (hM : Mem w0 w (R :: blk g 95 (wc i n vw nr hw vl cm va vv vo vb bv bd vout) :: row kM 27 vout out :: F)) (hl : Rd w0 R kE A l) (hn : l.length ≤ 1000000000) (hc : l.length ≤ c) (ho : out.length ≤ 1000000) (hn0 : 0 < n) (hn5 : n ≤ 5) :
    Calls Tryz.prog 98 #[.pointer (some ⟨g, 0, none⟩), .agg #[.int .i64 m0, .int .i64 m1, .int .i64 m2, .int .i64 m3, .int .i64 m4, .int .i64 m5, .int .i64 m6, .slice A l.length c]] w fun e w' =>
      ∃ vout' : Value, e = .returned (.tuple #[]) ∧ Mem w0 w' (R :: blk g 95 (wc i n vw nr hw vl cm va vv vo vb bv bd vout') :: row kM 27 vout' (out ++ allFrom i n vw ⟨m0, m1, m2, m3, m4, m5, m6, l⟩ n.toNat 0) :: F) := by
  have HN := Aside0.mk hn
  have HC := Aside0.mk hc
  have HO := Aside0.mk ho
  have HL := Aside0.mk hl
  have M0 := Aside0.mk (hM.allocAt #[.int .i64 m0, .int .i64 m1, .int .i64 m2, .int .i64 m3, .int .i64 m4, .int .i64 m5, .int .i64 m6, .slice A l.length c] 27 _ rfl)
  have cG := blk_cell (hM.blk_at 1 rfl)
  have hg : g < w.heap.size := blk_lt (hM.blk_at 1 rfl)
  unfold wc at cG
  clear hM hl hn hc ho
  go_enter Tryz.func98, Tryz.ntmps98
  go_wp2_with fail
  go_loopg [10] (n.toNat + 1) (fun kq v10 w' => ∃ (k : Nat) (vo' : Value) (out' : List Msg), v10 = .int .i64 k ∧ Aside0 ((k : Int) ≤ n ∧ kq = n.toNat + 1 - k ∧ out'.length ≤ out.length + k ∧ out' ++ allFrom i n vw ⟨m0, m1, m2, m3, m4, m5, m6, l⟩ (n.toNat - k) k = out ++ allFrom i n vw ⟨m0, m1, m2, m3, m4, m5, m6, l⟩ n.toNat 0) ∧ Aside0 (Mem w0 w' (blk w.heap.size 27 #[.int .i64 m0, .int .i64 m1, .int .i64 m2, .int .i64 m3, .int .i64 m4, .int .i64 m5, .int .i64 m6, .slice A l.length c] :: R :: blk g 95 (wc i n vw nr hw vl cm va vv vo vb bv bd vo') :: row kM 27 vo' out' :: F)))
  case atStart => exact ⟨0, vout, out, rfl, ⟨by omega, by omega, by omega, by simp⟩, M0⟩
  case round =>
    obtain ⟨k, vo', out', rfl, HK, M1⟩ := hrel
    clear cG M0
    have cG := blk_cell (M1.out.blk_at 2 rfl)
    have cB := blk_cell (M1.out.blk_at 0 rfl)
    unfold wc at cG
    have hgw : g < wr.heap.size := blk_lt (M1.out.blk_at 2 rfl)
    by_cases hlt : (k : Int) < n
    · have HS := Aside0.mk (allFrom_step i n vw ⟨m0, m1, m2, m3, m4, m5, m6, l⟩ k hlt)
      by_cases hid : (k : Int) = i
      · have HI := Aside0.mk hid
        have e1 : ((k : Int) == i) = true := by simpa using hid
        have e2 : ((k : Int) != i) = false := by simpa using hid
        clear hid
        go_wp2_with fail
        go_roundg (n.toNat - k)
        case measure => have := HK.out; omega
        case rel =>
          refine ⟨k + 1, vo', out', by go_num, ⟨by omega, by omega, by have := HK.out; omega, ?_⟩, M1⟩
          have h1 := HK.out.2.2.2
          rw [HS.out, if_pos HI.out] at h1
          exact h1
      · have HI := Aside0.mk hid
        have e1 : ((k : Int) == i) = false := by simpa using hid
        have e2 : ((k : Int) != i) = true := by simpa using hid
        clear hid
        go_wp2_with fail
        refine (send_calls w0 _ R (blk w.heap.size 27 #[.int .i64 m0, .int .i64 m1, .int .i64 m2, .int .i64 m3, .int .i64 m4, .int .i64 m5, .int .i64 m6, .slice A l.length c] :: F) g i n vw nr hw vl cm va vv vo vb bv bd vo' out' k m0 m1 m2 m3 m4 m5 m6 A c l (Mem.sel (ps := [_, _, _, _]) (F := F) [1, 2, 3, 0] 4 M1.out rfl rfl) HL.out HN.out HC.out (by have := HK.out; have := HO.out; omega)).mono ?_
        rintro e w1 ⟨vo2, rfl, hM⟩
        have M2 := Aside0.mk (Mem.sel (ps := [_, _, _, _]) (F := F) [3, 0, 1, 2] 4 hM rfl rfl)
        clear hM
        go_wp2_with fail
        go_roundg (n.toNat - k)
        case measure => have := HK.out; omega
        case rel =>
          refine ⟨k + 1, vo2, _, by go_num, ⟨by omega, by omega, ?_, ?_⟩, M2⟩
          · have := HK.out
            rw [List.length_append, List.length_singleton]
            omega
          · have h1 := HK.out.2.2.2
            rw [HS.out, if_neg HI.out] at h1
            rw [List.append_assoc]
            exact h1
    · have hk : (k : Int) = n := by have := HK.out.1; omega
      have HE := Aside0.mk hk
      clear hk
      go_wp2_with fail
      go_end0
      first | refine ⟨vo', rfl, ?_⟩ | refine ⟨rfl, vo', ?_⟩
      have h1 := HK.out.2.2.2
      have h2 : n.toNat - k = 0 := by have := HE.out; omega
      rw [h2] at h1
      simp only [allFrom, List.append_nil] at h1
      rw [← h1]
      exact Mem.sel (ps := [_, _, _, _]) (F := F) [1, 2, 3] 4 M1.out rfl rfl
end Go.Proofs.YtggbjokhniigkaaGreat.We
/- Walks: something new is laid behind the log. -/
namespace Go.Proofs.YtggbjokhniigkaaGreat.Wf
open Go.Proofs.YtggbjokhniigkaaGreat.Ty Go.RowKit Go.Proofs.YtggbjokhniigkaaGreatW.PrintWords Go.Proofs.YtggbjokhniigkaaGreatW.PrintLast Go.Proofs.YtggbjokhniigkaaGreatW.PrintMore Go.Proofs.YtggbjokhniigkaaGreat.Mx Go.Proofs.YtggbjokhniigkaaGreat.Kx Go.Proofs.YtggbjokhniigkaaGreat.Wa Go.Proofs.YtggbjokhniigkaaGreat.Wb Go.Proofs.YtggbjokhniigkaaGreat.Wc Go.Proofs.YtggbjokhniigkaaGreat.Wd Go.Proofs.YtggbjokhniigkaaGreat.We
set_option linter.unusedVariables false
set_option linter.unusedSimpArgs false

set_option maxRecDepth 100000 in
set_option maxHeartbeats 4000000 in
theorem Propose_e1 (r : Rep) (A5 A7 A8 A9 A10 : Option Addr) (c5 c7 c8 c9 c10 : Nat) (w : World) (h : RdRep w r A5 A7 A8 A9 A10) (hn : Small r) (time : Int) (data : ByteArray) (hs : data.size ≤ 1000000) (hx : (may r && below time && decide (data.size ≤ 20000)) = false) :
    Calls Tryz.prog 62 #[.agg (rc r (.slice A5 r.f5.length c5) (.slice A7 r.f7.length c7) (.slice A8 r.f8.length c8) (.slice A9 r.f9.length c9) (.slice A10 r.f10.length c10)), .int .i64 time, .string data] w fun e w' => ∃ v5 v7 v8 v9 v10 vout : Value, e = .returned (.tuple #[.agg (rc r v5 v7 v8 v9 v10), vout, .int .i64 0, .int .i64 1]) ∧ Mem w w' (rows r v5 v7 v8 v9 v10 ++ [row kM 27 vout []]) := by
  have H := Aside0.mk h
  have HN := Aside0.mk hn
  have M0 := Aside0.mk (Mem.nil w)
  have M1 := Aside0.mk ((M0.out.alloc #[.int .i64 r.f0, .int .i64 r.f1, .int .i64 r.f2, .int .i64 r.f3, .int .i64 r.f4, .slice A5 r.f5.length c5, .int .i64 r.f6, .slice A7 r.f7.length c7, .slice A8 r.f8.length c8, .slice A9 r.f9.length c9, .slice A10 r.f10.length c10, .int .i64 r.f11, .int .i64 r.f12] 25).allocAt #[.int .i64 0, .int .i64 0, .int .i64 0, .int .i64 0, .int .i64 0, .slice none 0 0, .int .i64 0, .slice none 0 0, .slice none 0 0, .slice none 0 0, .slice none 0 0, .int .i64 0, .int .i64 0] 25 (w.heap.size + 1) (by simp))
  clear h hn
  unfold rc
  obtain ⟨b1, e1⟩ : ∃ b, may r = b := ⟨_, rfl⟩
  obtain ⟨b2, e2⟩ : ∃ b, below time = b := ⟨_, rfl⟩
  rw [e1, e2] at hx
  have hw : b1 = false ∨ (b1 = true ∧ b2 = false) ∨ (b1 = true ∧ b2 = true ∧ 20000 < data.size) := by
    cases b1
    · exact .inl rfl
    · cases b2
      · exact .inr (.inl ⟨rfl, rfl⟩)
      · exact .inr (.inr ⟨rfl, rfl, by simpa using hx⟩)
  clear hx
  rcases hw with rfl | ⟨rfl, rfl⟩ | ⟨rfl, rfl, hsz⟩
  all_goals
    go_enter Tryz.func62, Tryz.ntmps62
    go_wp2_with fail
    refine (May_calls r A5 A7 A8 A9 A10 c5 c7 c8 c9 c10 _ (Kd.C_below H.out.h5 M1.out.below) (Kd.C_below H.out.h7 M1.out.below) (Kd.C_below H.out.h8 M1.out.below) (Kd.C_below H.out.h9 M1.out.below) (Kd.C_below H.out.h10 M1.out.below) HN.out).mono ?_
    rintro e w1 ⟨rfl, hM⟩
    have M2 := Aside0.mk (M1.out.trans hM)
    clear hM
    have cB := blk_cell (M2.out.blk_at 1 rfl)
    go_wp2_with (go_at_call 96; refine (below_calls _ _).mono ?_; rintro e w' ⟨rfl, rfl⟩)
    refine (copied_calls r A5 A7 A8 A9 A10 c5 c7 c8 c9 c10 _ (H.out.below M2.out.below) HN.out).mono ?_
    rintro e w2 ⟨v5, v7, v8, v9, v10, rfl, hM⟩
    unfold rc
    obtain ⟨B5, d5, rfl, _, _⟩ := hM.row_at 0 rfl
    obtain ⟨B7, d7, rfl, _, _⟩ := hM.row_at 1 rfl
    obtain ⟨B8, d8, rfl, _, _⟩ := hM.row_at 2 rfl
    obtain ⟨B9, d9, rfl, _, _⟩ := hM.row_at 3 rfl
    obtain ⟨B10, d10, rfl, _, _⟩ := hM.row_at 4 rfl
    have M3 := Aside0.mk (Mem.sel (ps := [_, _, _, _, _, _, _]) (F := []) [5, 6, 0, 1, 2, 3, 4] 7 (M2.out.trans hM) rfl rfl)
    clear hM
    clear cB
    have cC := blk_cell (M3.out.blk_at 0 rfl)
    have fC := blk_frozen (M3.out.blk_at 0 rfl)
    go_wp2
    have M4 := M3.out.setRow 0 rfl [(.int .i64 r.f0), (.int .i64 r.f1), (.int .i64 r.f2), (.int .i64 r.f3), (.int .i64 r.f4), (.slice B5 r.f5.length d5), (.int .i64 r.f6), (.slice B7 r.f7.length d7), (.slice B8 r.f8.length d8), (.slice B9 r.f9.length d9), (.slice B10 r.f10.length d10), (.int .i64 r.f11), (.int .i64 r.f12)] rfl
    have hg4 := M4.blk_at 0 rfl
    refine bodyPost_ret (results_list (rs := [.cell 6 25, .tmp 7, .tmp 8, .tmp 9]) rfl (by simp) (.cell (w.heap.size + 1) 25 #[.int .i64 r.f0, .int .i64 r.f1, .int .i64 r.f2, .int .i64 r.f3, .int .i64 r.f4, .slice B5 r.f5.length d5, .int .i64 r.f6, .slice B7 r.f7.length d7, .slice B8 r.f8.length d8, .slice B9 r.f9.length d9, .slice B10 r.f10.length d10, .int .i64 r.f11, .int .i64 r.f12] (0, 0) _ rfl hg4 Tryz.underlying25 rfl (by kernel_rfl) (.tmp (.tmp (.tmp .nil))))) rfl ?_
    exact ⟨_, _, _, _, _, _, rfl, Mem.sel (ps := [_, _, _, _, _, _, _, _]) (F := []) [3, 4, 5, 6, 7, 0] 8 (Mem.row_nil M4 kM 27) rfl rfl⟩

set_option maxRecDepth 100000 in
set_option maxHeartbeats 8000000 in
theorem Propose_e17 (r : Rep) (A5 A7 A8 A9 A10 : Option Addr) (c5 c7 c8 c9 c10 : Nat) (w : World) (h : RdRep w r A5 A7 A8 A9 A10) (hn : Small r) (time : Int) (data : ByteArray) (hs : data.size ≤ 20000) (h1 : may r = true) (h2 : below time = true) (hx : ¬ (r.f4 = 0 ∧ r.f2 % r.f1 = r.f0)) :
    Calls Tryz.prog 62 #[.agg (rc r (.slice A5 r.f5.length c5) (.slice A7 r.f7.length c7) (.slice A8 r.f8.length c8) (.slice A9 r.f9.length c9) (.slice A10 r.f10.length c10)), .int .i64 time, .string data] w fun e w' => ∃ v5 v7 v8 v9 v10 vout : Value, e = .returned (.tuple #[.agg (rc r v5 v7 v8 v9 v10), vout, .int .i64 0, .int .i64 17]) ∧ Mem w w' (rows r v5 v7 v8 v9 v10 ++ [row kM 27 vout []]) := by
  have hp := (may_iff r).1 h1
  have hn0 : 0 < r.f1 ∧ r.f1 ≤ 5 := by
    have := hp.1
    unfold size at this
    simp at this
    omega
  have hv : 0 ≤ r.f2 ∧ r.f2 < 1099511627776 := by
    have := hp.2.2.2.1
    unfold below maxTime at this
    simpa using this
  clear hp
  obtain ⟨hn1, hn5⟩ := hn0
  obtain ⟨hv1, hv2⟩ := hv
  have H := Aside0.mk h
  have HN := Aside0.mk hn
  have M0 := Aside0.mk (Mem.nil w)
  have M1 := Aside0.mk ((M0.out.alloc #[.int .i64 r.f0, .int .i64 r.f1, .int .i64 r.f2, .int .i64 r.f3, .int .i64 r.f4, .slice A5 r.f5.length c5, .int .i64 r.f6, .slice A7 r.f7.length c7, .slice A8 r.f8.length c8, .slice A9 r.f9.length c9, .slice A10 r.f10.length c10, .int .i64 r.f11, .int .i64 r.f12] 25).allocAt #[.int .i64 0, .int .i64 0, .int .i64 0, .int .i64 0, .int .i64 0, .slice none 0 0, .int .i64 0, .slice none 0 0, .slice none 0 0, .slice none 0 0, .slice none 0 0, .int .i64 0, .int .i64 0] 25 (w.heap.size + 1) (by simp))
  clear h hn
  unfold rc
  by_cases h4 : r.f4 = 0
  · have h5 : ¬ r.f2 % r.f1 = r.f0 := fun q => hx ⟨h4, q⟩
    have H4 := Aside0.mk h4
    have e4 : (r.f4 == 0) = true := by simpa using h4
    have e4' : (r.f4 != 0) = false := by simpa using h4
    have e5 : (r.f2 % r.f1 == r.f0) = false := by simpa using h5
    have e5' : (r.f2 % r.f1 != r.f0) = true := by simpa using h5
    clear hx h4 h5
    go_enter Tryz.func62, Tryz.ntmps62
    go_wp2_with fail
    refine (May_calls r A5 A7 A8 A9 A10 c5 c7 c8 c9 c10 _ (Kd.C_below H.out.h5 M1.out.below) (Kd.C_below H.out.h7 M1.out.below) (Kd.C_below H.out.h8 M1.out.below) (Kd.C_below H.out.h9 M1.out.below) (Kd.C_below H.out.h10 M1.out.below) HN.out).mono ?_
    rintro e w1 ⟨rfl, hM⟩
    have M2 := Aside0.mk (M1.out.trans hM)
    clear hM
    have cB := blk_cell (M2.out.blk_at 1 rfl)
    go_wp2_with (go_at_call 96; refine (below_calls _ _).mono ?_; rintro e w' ⟨rfl, rfl⟩)
    refine (copied_calls r A5 A7 A8 A9 A10 c5 c7 c8 c9 c10 _ (H.out.below M2.out.below) HN.out).mono ?_
    rintro e w2 ⟨v5, v7, v8, v9, v10, rfl, hM⟩
    unfold rc
    obtain ⟨B5, d5, rfl, _, _⟩ := hM.row_at 0 rfl
    obtain ⟨B7, d7, rfl, _, _⟩ := hM.row_at 1 rfl
    obtain ⟨B8, d8, rfl, _, _⟩ := hM.row_at 2 rfl
    obtain ⟨B9, d9, rfl, _, _⟩ := hM.row_at 3 rfl
    obtain ⟨B10, d10, rfl, _, _⟩ := hM.row_at 4 rfl
    have M3 := Aside0.mk (Mem.sel (ps := [_, _, _, _, _, _, _]) (F := []) [5, 6, 0, 1, 2, 3, 4] 7 (M2.out.trans hM) rfl rfl)
    clear hM
    clear cB
    have hb0 := blk_lt (M3.out.blk_at 1 rfl)
    have hb1 := blk_lt (M3.out.blk_at 0 rfl)
    have M4 := Aside0.mk (M3.out.alloc #[.int .i64 r.f0, .int .i64 r.f1, .int .i64 r.f2, .int .i64 r.f3, .int .i64 r.f4, .slice B5 r.f5.length d5, .int .i64 r.f6, .slice B7 r.f7.length d7, .slice B8 r.f8.length d8, .slice B9 r.f9.length d9, .slice B10 r.f10.length d10, .int .i64 r.f11, .int .i64 r.f12, .slice none 0 0] 95)
    have cR := fun j => blk_cell (M3.out.blk_at 1 rfl) j
    have cC := fun j => blk_cell (M3.out.blk_at 0 rfl) j
    have fC := fun j => blk_frozen (M3.out.blk_at 0 rfl) j
    go_wp2_with fail
    have hW := M4.out.blk_at 0 rfl
    go_quiet ((go_at_call 97; exact primary_quiet _ _ w2.heap.size r.f0 r.f1 r.f2 r.f3 r.f4 _ r.f6 _ _ _ _ r.f11 r.f12 _ r.f2 hW hv1 (by omega) hn1 hn5))
    clear hW
    go_wp2
    have M5 := fun n => (M4.out.drewN n).setRow 1 rfl [(.int .i64 r.f0), (.int .i64 r.f1), (.int .i64 r.f2), (.int .i64 r.f3), (.int .i64 r.f4), (.slice B5 r.f5.length d5), (.int .i64 r.f6), (.slice B7 r.f7.length d7), (.slice B8 r.f8.length d8), (.slice B9 r.f9.length d9), (.slice B10 r.f10.length d10), (.int .i64 r.f11), (.int .i64 r.f12)] rfl
    have hg5 := fun n => (M5 n).blk_at 1 rfl
    refine bodyPost_ret (results_list (rs := [.cell 6 25, .tmp 7, .tmp 8, .tmp 9]) rfl (by simp) (.cell (w.heap.size + 1) 25 #[.int .i64 r.f0, .int .i64 r.f1, .int .i64 r.f2, .int .i64 r.f3, .int .i64 r.f4, .slice B5 r.f5.length d5, .int .i64 r.f6, .slice B7 r.f7.length d7, .slice B8 r.f8.length d8, .slice B9 r.f9.length d9, .slice B10 r.f10.length d10, .int .i64 r.f11, .int .i64 r.f12] (0, 0) _ rfl (hg5 _) Tryz.underlying25 rfl (by kernel_rfl) (.tmp (.tmp (.tmp .nil))))) rfl ?_
    exact ⟨_, _, _, _, _, _, rfl, Mem.sel (ps := [_, _, _, _, _, _, _, _, _]) (F := []) [4, 5, 6, 7, 8, 0] 9 (Mem.row_nil (M5 _) kM 27) rfl rfl⟩
  · have h5 := h4
    have e4 : (r.f4 == 0) = false := by simpa using h4
    have e4' : (r.f4 != 0) = true := by simpa using h4
    clear hx h4 h5
    go_enter Tryz.func62, Tryz.ntmps62
    go_wp2_with fail
    refine (May_calls r A5 A7 A8 A9 A10 c5 c7 c8 c9 c10 _ (Kd.C_below H.out.h5 M1.out.below) (Kd.C_below H.out.h7 M1.out.below) (Kd.C_below H.out.h8 M1.out.below) (Kd.C_below H.out.h9 M1.out.below) (Kd.C_below H.out.h10 M1.out.below) HN.out).mono ?_
    rintro e w1 ⟨rfl, hM⟩
    have M2 := Aside0.mk (M1.out.trans hM)
    clear hM
    have cB := blk_cell (M2.out.blk_at 1 rfl)
    go_wp2_with (go_at_call 96; refine (below_calls _ _).mono ?_; rintro e w' ⟨rfl, rfl⟩)
    refine (copied_calls r A5 A7 A8 A9 A10 c5 c7 c8 c9 c10 _ (H.out.below M2.out.below) HN.out).mono ?_
    rintro e w2 ⟨v5, v7, v8, v9, v10, rfl, hM⟩
    unfold rc
    obtain ⟨B5, d5, rfl, _, _⟩ := hM.row_at 0 rfl
    obtain ⟨B7, d7, rfl, _, _⟩ := hM.row_at 1 rfl
    obtain ⟨B8, d8, rfl, _, _⟩ := hM.row_at 2 rfl
    obtain ⟨B9, d9, rfl, _, _⟩ := hM.row_at 3 rfl
    obtain ⟨B10, d10, rfl, _, _⟩ := hM.row_at 4 rfl
    have M3 := Aside0.mk (Mem.sel (ps := [_, _, _, _, _, _, _]) (F := []) [5, 6, 0, 1, 2, 3, 4] 7 (M2.out.trans hM) rfl rfl)
    clear hM
    clear cB
    have hb0 := blk_lt (M3.out.blk_at 1 rfl)
    have hb1 := blk_lt (M3.out.blk_at 0 rfl)
    have M4 := Aside0.mk (M3.out.alloc #[.int .i64 r.f0, .int .i64 r.f1, .int .i64 r.f2, .int .i64 r.f3, .int .i64 r.f4, .slice B5 r.f5.length d5, .int .i64 r.f6, .slice B7 r.f7.length d7, .slice B8 r.f8.length d8, .slice B9 r.f9.length d9, .slice B10 r.f10.length d10, .int .i64 r.f11, .int .i64 r.f12, .slice none 0 0] 95)
    have cR := fun j => blk_cell (M3.out.blk_at 1 rfl) j
    have cC := fun j => blk_cell (M3.out.blk_at 0 rfl) j
    have fC := fun j => blk_frozen (M3.out.blk_at 0 rfl) j
    go_wp2_with fail
    go_quiet (fail)
    go_wp2
    have M5 := fun n => (M4.out.drewN n).setRow 1 rfl [(.int .i64 r.f0), (.int .i64 r.f1), (.int .i64 r.f2), (.int .i64 r.f3), (.int .i64 r.f4), (.slice B5 r.f5.length d5), (.int .i64 r.f6), (.slice B7 r.f7.length d7), (.slice B8 r.f8.length d8), (.slice B9 r.f9.length d9), (.slice B10 r.f10.length d10), (.int .i64 r.f11), (.int .i64 r.f12)] rfl
    have hg5 := fun n => (M5 n).blk_at 1 rfl
    refine bodyPost_ret (results_list (rs := [.cell 6 25, .tmp 7, .tmp 8, .tmp 9]) rfl (by simp) (.cell (w.heap.size + 1) 25 #[.int .i64 r.f0, .int .i64 r.f1, .int .i64 r.f2, .int .i64 r.f3, .int .i64 r.f4, .slice B5 r.f5.length d5, .int .i64 r.f6, .slice B7 r.f7.length d7, .slice B8 r.f8.length d8, .slice B9 r.f9.length d9, .slice B10 r.f10.length d10, .int .i64 r.f11, .int .i64 r.f12] (0, 0) _ rfl (hg5 _) Tryz.underlying25 rfl (by kernel_rfl) (.tmp (.tmp (.tmp .nil))))) rfl ?_
    exact ⟨_, _, _, _, _, _, rfl, Mem.sel (ps := [_, _, _, _, _, _, _, _, _]) (F := []) [4, 5, 6, 7, 8, 0] 9 (Mem.row_nil (M5 _) kM 27) rfl rfl⟩
end Go.Proofs.YtggbjokhniigkaaGreat.Wf
