/- Walks: a replica in memory of its own. -/
import Derived.Test.YtggbjokhniigkaaWb
import Derived.Deep.RegionHeld3
import Derived.Deep.DeepCutAuto
import Derived.Deep.CutBlock
import Derived.Lib.SliceRun
namespace Go.Proofs.Ytggbjokhniigkaa.Wd
open Go.Proofs.Ytggbjokhniigkaa.Ty Go.RowKit Go.Proofs.YtggbjokhniigkaaW.PrintWords Go.Proofs.YtggbjokhniigkaaW.PrintLast Go.Proofs.YtggbjokhniigkaaW.PrintMore Go.Proofs.Ytggbjokhniigkaa.Mx Go.Proofs.Ytggbjokhniigkaa.Kx Go.Proofs.Ytggbjokhniigkaa.Wa
set_option linter.unusedVariables false
set_option linter.unusedSimpArgs false

theorem C_none {α : Type} {d : Kd α} {w : World} {n : Nat} {xs : List α} (h : d.C w none n xs) : n = 0 ∧ xs = [] := by
  have h0 : n = 0 := by
    rcases Nat.eq_zero_or_pos n with h0 | h0
    · exact h0
    · obtain ⟨ad, h, _⟩ := h.2.2 h0
      cases h
  exact ⟨h0, List.eq_nil_of_length_eq_zero (h.1.trans h0)⟩
theorem Mem.row_nil {w0 w : World} {rs : List Res} {α : Type} (h : Mem w0 w rs) (d : Kd α) (e : Nat) : Mem w0 w (row d e (.slice none 0 0) [] :: rs) :=
  h.cons (Below.refl _ _) (Kd.R_nil _ _ _ _ _)
/-! ### slices.Clone of numbers -/
set_option maxRecDepth 100000 in
set_option maxHeartbeats 2000000 in
theorem cloneI_calls (A : Option Addr) (c : Nat) (l : List Int) (w : World) (hl : Kd.C (Kd.int .i64) w A l.length l) (hn : l.length ≤ 1000000000) :
    Calls Try.prog 93 #[.slice A l.length c] w fun e w' => ∃ v : Value, e = .returned v ∧ Mem w w' [row (Kd.int .i64) 3 v l] := by
  have HL := Aside0.mk hl
  have HN := Aside0.mk hn
  have M0 := Aside0.mk (Mem.nil w)
  have hq := fun (w : World) (n c : Nat) => Lib.run_eql_slice_nil (P := Try.prog) w 43 3 A n c 0 0 Try.underlying43
  cases A with
  | none =>
    obtain ⟨_, rfl⟩ := C_none hl
    clear hl hn
    go_enter Try.func93, Try.ntmps93
    go_wp2
    go_ret
    exact ⟨_, rfl, Mem.row_nil M0.out _ _⟩
  | some ad =>
    clear hl hn
    go_enter Try.func93, Try.ntmps93
    go_wp2_with (((with_reducible refine gate_builtin (b := .append) (xs := #[.tmp 5, .tmp 6]) rfl ?_); at_builtin; refine Mem.app (Kd.int .i64) ((M0.out.alloc #[] 3).lit 0 (Kd.int .i64) [] rfl (Reps.none _ _) (by decide)) 0 _ [] l rfl (.tmp 5) (.tmp 6) 43 3 _ _ rfl Try.underlying43 infoInt rfl (by decide) (by omega) (some ad) _ c rfl rfl rfl (Kd.C_alloc HL.out _) (fun x cs h => h) (by have := HN.out; simp; omega) ?_; intro v1 w1 hM1; have M1 := Aside0.mk hM1; clear hM1))
    go_ret
    exact ⟨_, rfl, M1.out⟩

/-! ### copied -/
def rc (r : Rep) (v5 v7 v8 v9 v10 : Value) : Array Value := #[.int .i64 r.f0, .int .i64 r.f1, .int .i64 r.f2, .int .i64 r.f3, .int .i64 r.f4, v5, .int .i64 r.f6, v7, v8, v9, v10, .int .i64 r.f11, .int .i64 r.f12]
def rows (r : Rep) (v5 v7 v8 v9 v10 : Value) : List Res := [row kE 102 v5 r.f5, row (Kd.int .i64) 3 v7 r.f7, row (Kd.int .i64) 3 v8 r.f8, row (Kd.int .i64) 3 v9 r.f9, row kE 102 v10 r.f10]
def Small (r : Rep) : Prop := r.f5.length ≤ 1000000000 ∧ r.f7.length ≤ 1000000000 ∧ r.f8.length ≤ 1000000000 ∧ r.f9.length ≤ 1000000000 ∧ r.f10.length ≤ 1000000000
/-- The replica's slices, read. -/
structure RdRep (w : World) (r : Rep) (A5 A7 A8 A9 A10 : Option Addr) : Prop where
  h5 : Kd.C kE w A5 r.f5.length r.f5
  h7 : Kd.C (Kd.int .i64) w A7 r.f7.length r.f7
  h8 : Kd.C (Kd.int .i64) w A8 r.f8.length r.f8
  h9 : Kd.C (Kd.int .i64) w A9 r.f9.length r.f9
  h10 : Kd.C kE w A10 r.f10.length r.f10
theorem RdRep.below {w w1 : World} {r : Rep} {A5 A7 A8 A9 A10 : Option Addr} (h : RdRep w r A5 A7 A8 A9 A10) (hb : Below w.heap.size w w1) : RdRep w1 r A5 A7 A8 A9 A10 := ⟨Kd.C_below h.h5 hb, Kd.C_below h.h7 hb, Kd.C_below h.h8 hb, Kd.C_below h.h9 hb, Kd.C_below h.h10 hb⟩
set_option maxRecDepth 100000 in
set_option maxHeartbeats 8000000 in
theorem copied_calls (r : Rep) (A5 A7 A8 A9 A10 : Option Addr) (c5 c7 c8 c9 c10 : Nat) (w : World) (h : RdRep w r A5 A7 A8 A9 A10) (hn : Small r) :
    Calls Try.prog 73 #[.agg (rc r (.slice A5 r.f5.length c5) (.slice A7 r.f7.length c7) (.slice A8 r.f8.length c8) (.slice A9 r.f9.length c9) (.slice A10 r.f10.length c10))] w fun e w' =>
      ∃ v5 v7 v8 v9 v10 : Value, e = .returned (.agg (rc r v5 v7 v8 v9 v10)) ∧ Mem w w' (rows r v5 v7 v8 v9 v10) := by
  have H := Aside0.mk h
  obtain ⟨n5, n7, n8, n9, n10⟩ := hn
  have M0 := Aside0.mk (Mem.nil w)
  clear h
  unfold rc
  go_enter Try.func73, Try.ntmps73
  have M := Aside0.mk ((M0.out.alloc #[.int .i64 r.f0, .int .i64 r.f1, .int .i64 r.f2, .int .i64 r.f3, .int .i64 r.f4, .slice A5 r.f5.length c5, .int .i64 r.f6, .slice A7 r.f7.length c7, .slice A8 r.f8.length c8, .slice A9 r.f9.length c9, .slice A10 r.f10.length c10, .int .i64 r.f11, .int .i64 r.f12] 45).allocAt #[.int .i64 0, .int .i64 0, .int .i64 0, .int .i64 0, .int .i64 0, .slice none 0 0, .int .i64 0, .slice none 0 0, .slice none 0 0, .slice none 0 0, .slice none 0 0, .int .i64 0, .int .i64 0] 45 (w.heap.size + 1) (by simp))
  go_upto_region 1 with (fail)
  go_cut [1] (fun s1 wx => ∃ (B5 B10 : Option Addr) (d5 d10 : Nat), s1 = .pointer (some ⟨w.heap.size, 0, none⟩) ∧ Aside0 (Mem w wx [blk w.heap.size 45 #[.int .i64 r.f0, .int .i64 r.f1, .int .i64 r.f2, .int .i64 r.f3, .int .i64 r.f4, .slice B5 r.f5.length d5, .int .i64 r.f6, .slice A7 r.f7.length c7, .slice A8 r.f8.length c8, .slice A9 r.f9.length c9, .slice B10 r.f10.length d10, .int .i64 r.f11, .int .i64 r.f12], blk (w.heap.size + 1) 45 #[.int .i64 0, .int .i64 0, .int .i64 0, .int .i64 0, .int .i64 0, .slice none 0 0, .int .i64 0, .slice none 0 0, .slice none 0 0, .slice none 0 0, .slice none 0 0, .int .i64 0, .int .i64 0], row kE 102 (.slice B5 r.f5.length d5) r.f5, row kE 102 (.slice B10 r.f10.length d10) r.f10]))
  case first =>
    replace M := Aside0.mk M.out.drew
    have cB := blk_cell (M.out.blk_at (g := w.heap.size) 1 rfl)
    have fB := blk_frozen (M.out.blk_at (g := w.heap.size) 1 rfl)
    go_region_law (first
      | (go_simp; go_at_call_of 92 (Value.slice A5 r.f5.length c5); refine (entries_calls A5 c5 r.f5 _ (Kd.C_below H.out.h5 M.out.below) n5).mono ?_; rintro e w1 ⟨v, rfl, hM⟩; obtain ⟨B5, d5, rfl, _, _⟩ := hM.row_at 0 rfl; have M' := Aside0.mk (M.out.trans hM); clear hM M; have M := M'; clear M'; clear cB fB; (first | (have cB := blk_cell (M.out.blk_at (g := w.heap.size) 1 rfl); have fB := blk_frozen (M.out.blk_at (g := w.heap.size) 1 rfl)) | (have cB := blk_cell (M.out.blk_at (g := w.heap.size) 2 rfl); have fB := blk_frozen (M.out.blk_at (g := w.heap.size) 2 rfl)) | (have cB := blk_cell (M.out.blk_at (g := w.heap.size) 3 rfl); have fB := blk_frozen (M.out.blk_at (g := w.heap.size) 3 rfl))))
      | (go_simp; go_at_call_of 92 (Value.slice A10 r.f10.length c10); refine (entries_calls A10 c10 r.f10 _ (Kd.C_below H.out.h10 M.out.below) n10).mono ?_; rintro e w1 ⟨v, rfl, hM⟩; obtain ⟨B10, d10, rfl, _, _⟩ := hM.row_at 0 rfl; have M' := Aside0.mk (M.out.trans hM); clear hM M; have M := M'; clear M'; clear cB fB; (first | (have cB := blk_cell (M.out.blk_at (g := w.heap.size) 1 rfl); have fB := blk_frozen (M.out.blk_at (g := w.heap.size) 1 rfl)) | (have cB := blk_cell (M.out.blk_at (g := w.heap.size) 2 rfl); have fB := blk_frozen (M.out.blk_at (g := w.heap.size) 2 rfl)) | (have cB := blk_cell (M.out.blk_at (g := w.heap.size) 3 rfl); have fB := blk_frozen (M.out.blk_at (g := w.heap.size) 3 rfl)))))
    all_goals
      go_wp2_with fail
      go_meet
      case rel => first
        | exact ⟨B5, B10, d5, d10, rfl, ⟨Mem.sel (ps := [_, _, _, _]) (F := []) [3, 2, 0, 1] 4 ((M.out.set 3 rfl 5 (.slice B5 r.f5.length d5)).set 3 rfl 10 (.slice B10 r.f10.length d10)) rfl rfl⟩⟩
        | exact ⟨B5, B10, d5, d10, rfl, ⟨Mem.sel (ps := [_, _, _, _]) (F := []) [3, 2, 1, 0] 4 ((M.out.set 3 rfl 5 (.slice B5 r.f5.length d5)).set 3 rfl 10 (.slice B10 r.f10.length d10)) rfl rfl⟩⟩
  case rest =>
    obtain ⟨B5, B10, d5, d10, rfl, M1⟩ := hcut
    clear M
    go_upto_region 2 with (fail)
    go_cut [1] (fun s1 wx => ∃ (B7 B8 B9 : Option Addr) (d7 d8 d9 : Nat), s1 = .pointer (some ⟨w.heap.size, 0, none⟩) ∧ Aside0 (Mem w wx [blk w.heap.size 45 #[.int .i64 r.f0, .int .i64 r.f1, .int .i64 r.f2, .int .i64 r.f3, .int .i64 r.f4, .slice B5 r.f5.length d5, .int .i64 r.f6, .slice B7 r.f7.length d7, .slice B8 r.f8.length d8, .slice B9 r.f9.length d9, .slice B10 r.f10.length d10, .int .i64 r.f11, .int .i64 r.f12], blk (w.heap.size + 1) 45 #[.int .i64 0, .int .i64 0, .int .i64 0, .int .i64 0, .int .i64 0, .slice none 0 0, .int .i64 0, .slice none 0 0, .slice none 0 0, .slice none 0 0, .slice none 0 0, .int .i64 0, .int .i64 0], row kE 102 (.slice B5 r.f5.length d5) r.f5, row (Kd.int .i64) 3 (.slice B7 r.f7.length d7) r.f7, row (Kd.int .i64) 3 (.slice B8 r.f8.length d8) r.f8, row (Kd.int .i64) 3 (.slice B9 r.f9.length d9) r.f9, row kE 102 (.slice B10 r.f10.length d10) r.f10]))
    case first =>
      have M := Aside0.mk M1.out.drew
      have cB := blk_cell (M.out.blk_at (g := w.heap.size) 0 rfl)
      have fB := blk_frozen (M.out.blk_at (g := w.heap.size) 0 rfl)
      go_region_law (first
        | (go_simp; go_at_call_of 93 (Value.slice A7 r.f7.length c7); refine (cloneI_calls A7 c7 r.f7 _ (Kd.C_below H.out.h7 M.out.below) n7).mono ?_; rintro e w1 ⟨v, rfl, hM⟩; obtain ⟨B7, d7, rfl, _, _⟩ := hM.row_at 0 rfl; have M' := Aside0.mk (M.out.trans hM); clear hM M; have M := M'; clear M'; clear cB fB; (first | (have cB := blk_cell (M.out.blk_at (g := w.heap.size) 0 rfl); have fB := blk_frozen (M.out.blk_at (g := w.heap.size) 0 rfl)) | (have cB := blk_cell (M.out.blk_at (g := w.heap.size) 1 rfl); have fB := blk_frozen (M.out.blk_at (g := w.heap.size) 1 rfl)) | (have cB := blk_cell (M.out.blk_at (g := w.heap.size) 2 rfl); have fB := blk_frozen (M.out.blk_at (g := w.heap.size) 2 rfl)) | (have cB := blk_cell (M.out.blk_at (g := w.heap.size) 3 rfl); have fB := blk_frozen (M.out.blk_at (g := w.heap.size) 3 rfl))))
        | (go_simp; go_at_call_of 93 (Value.slice A8 r.f8.length c8); refine (cloneI_calls A8 c8 r.f8 _ (Kd.C_below H.out.h8 M.out.below) n8).mono ?_; rintro e w1 ⟨v, rfl, hM⟩; obtain ⟨B8, d8, rfl, _, _⟩ := hM.row_at 0 rfl; have M' := Aside0.mk (M.out.trans hM); clear hM M; have M := M'; clear M'; clear cB fB; (first | (have cB := blk_cell (M.out.blk_at (g := w.heap.size) 0 rfl); have fB := blk_frozen (M.out.blk_at (g := w.heap.size) 0 rfl)) | (have cB := blk_cell (M.out.blk_at (g := w.heap.size) 1 rfl); have fB := blk_frozen (M.out.blk_at (g := w.heap.size) 1 rfl)) | (have cB := blk_cell (M.out.blk_at (g := w.heap.size) 2 rfl); have fB := blk_frozen (M.out.blk_at (g := w.heap.size) 2 rfl)) | (have cB := blk_cell (M.out.blk_at (g := w.heap.size) 3 rfl); have fB := blk_frozen (M.out.blk_at (g := w.heap.size) 3 rfl))))
        | (go_simp; go_at_call_of 93 (Value.slice A9 r.f9.length c9); refine (cloneI_calls A9 c9 r.f9 _ (Kd.C_below H.out.h9 M.out.below) n9).mono ?_; rintro e w1 ⟨v, rfl, hM⟩; obtain ⟨B9, d9, rfl, _, _⟩ := hM.row_at 0 rfl; have M' := Aside0.mk (M.out.trans hM); clear hM M; have M := M'; clear M'; clear cB fB; (first | (have cB := blk_cell (M.out.blk_at (g := w.heap.size) 0 rfl); have fB := blk_frozen (M.out.blk_at (g := w.heap.size) 0 rfl)) | (have cB := blk_cell (M.out.blk_at (g := w.heap.size) 1 rfl); have fB := blk_frozen (M.out.blk_at (g := w.heap.size) 1 rfl)) | (have cB := blk_cell (M.out.blk_at (g := w.heap.size) 2 rfl); have fB := blk_frozen (M.out.blk_at (g := w.heap.size) 2 rfl)) | (have cB := blk_cell (M.out.blk_at (g := w.heap.size) 3 rfl); have fB := blk_frozen (M.out.blk_at (g := w.heap.size) 3 rfl)))))
      all_goals
        go_wp2_with fail
        go_meet
        case rel => first
        | exact ⟨B7, B8, B9, d7, d8, d9, rfl, ⟨Mem.sel (ps := [_, _, _, _, _, _, _]) (F := []) [3, 4, 5, 0, 1, 2, 6] 7 (((M.out.set 3 rfl 7 (.slice B7 r.f7.length d7)).set 3 rfl 8 (.slice B8 r.f8.length d8)).set 3 rfl 9 (.slice B9 r.f9.length d9)) rfl rfl⟩⟩
        | exact ⟨B7, B8, B9, d7, d8, d9, rfl, ⟨Mem.sel (ps := [_, _, _, _, _, _, _]) (F := []) [3, 4, 5, 0, 2, 1, 6] 7 (((M.out.set 3 rfl 7 (.slice B7 r.f7.length d7)).set 3 rfl 8 (.slice B8 r.f8.length d8)).set 3 rfl 9 (.slice B9 r.f9.length d9)) rfl rfl⟩⟩
        | exact ⟨B7, B8, B9, d7, d8, d9, rfl, ⟨Mem.sel (ps := [_, _, _, _, _, _, _]) (F := []) [3, 4, 5, 1, 0, 2, 6] 7 (((M.out.set 3 rfl 7 (.slice B7 r.f7.length d7)).set 3 rfl 8 (.slice B8 r.f8.length d8)).set 3 rfl 9 (.slice B9 r.f9.length d9)) rfl rfl⟩⟩
        | exact ⟨B7, B8, B9, d7, d8, d9, rfl, ⟨Mem.sel (ps := [_, _, _, _, _, _, _]) (F := []) [3, 4, 5, 1, 2, 0, 6] 7 (((M.out.set 3 rfl 7 (.slice B7 r.f7.length d7)).set 3 rfl 8 (.slice B8 r.f8.length d8)).set 3 rfl 9 (.slice B9 r.f9.length d9)) rfl rfl⟩⟩
        | exact ⟨B7, B8, B9, d7, d8, d9, rfl, ⟨Mem.sel (ps := [_, _, _, _, _, _, _]) (F := []) [3, 4, 5, 2, 0, 1, 6] 7 (((M.out.set 3 rfl 7 (.slice B7 r.f7.length d7)).set 3 rfl 8 (.slice B8 r.f8.length d8)).set 3 rfl 9 (.slice B9 r.f9.length d9)) rfl rfl⟩⟩
        | exact ⟨B7, B8, B9, d7, d8, d9, rfl, ⟨Mem.sel (ps := [_, _, _, _, _, _, _]) (F := []) [3, 4, 5, 2, 1, 0, 6] 7 (((M.out.set 3 rfl 7 (.slice B7 r.f7.length d7)).set 3 rfl 8 (.slice B8 r.f8.length d8)).set 3 rfl 9 (.slice B9 r.f9.length d9)) rfl rfl⟩⟩
    case rest =>
      obtain ⟨B7, B8, B9, d7, d8, d9, rfl, M2⟩ := hcut
      have cB := blk_cell (M2.out.blk_at 0 rfl)
      have fC := blk_frozen (M2.out.blk_at 1 rfl)
      have cC := blk_cell (M2.out.blk_at 1 rfl)
      go_wp2
      have M3 := M2.out.setRow 1 rfl [(.int .i64 r.f0), (.int .i64 r.f1), (.int .i64 r.f2), (.int .i64 r.f3), (.int .i64 r.f4), (.slice B5 r.f5.length d5), (.int .i64 r.f6), (.slice B7 r.f7.length d7), (.slice B8 r.f8.length d8), (.slice B9 r.f9.length d9), (.slice B10 r.f10.length d10), (.int .i64 r.f11), (.int .i64 r.f12)] rfl
      have hg3 := M3.blk_at 1 rfl
      refine bodyPost_ret (results_cell_row rfl _ _ (w.heap.size + 1) 45 #[.int .i64 r.f0, .int .i64 r.f1, .int .i64 r.f2, .int .i64 r.f3, .int .i64 r.f4, .slice B5 r.f5.length d5, .int .i64 r.f6, .slice B7 r.f7.length d7, .slice B8 r.f8.length d8, .slice B9 r.f9.length d9, .slice B10 r.f10.length d10, .int .i64 r.f11, .int .i64 r.f12] (0, 0) _ rfl hg3 Try.underlying45 rfl (by kernel_rfl)) rfl ?_
      exact ⟨_, _, _, _, _, rfl, Mem.sel (ps := [_, _, _, _, _, _, _]) (F := []) [2, 3, 4, 5, 6] 7 M3 rfl rfl⟩
end Go.Proofs.Ytggbjokhniigkaa.Wd
