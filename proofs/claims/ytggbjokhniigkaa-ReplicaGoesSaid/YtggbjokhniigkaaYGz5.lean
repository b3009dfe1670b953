/- Texts laid together: Wd, Wh0, Sa, Tl, To. No condition. -/
import Derived.Deep.RegionHeld3
import Derived.Deep.DeepCutAuto
import Derived.Deep.CutBlock
import Derived.Lib.SliceRun
import Derived.Test.YtggbjokhniigkaaYGz4
set_option linter.unusedVariables false
set_option linter.unusedSimpArgs false
set_option maxRecDepth 100000
set_option maxHeartbeats 8000000
namespace Go.Proofs.Ytggbjokhniigkaa.Wd
open Ty Go.RowKit YtggbjokhniigkaaW.PrintWords YtggbjokhniigkaaW.PrintLast YtggbjokhniigkaaW.PrintMore Mx Kx Wa
theorem C_none {α : Type} {d : Kd α} {w : World} {n : Nat} {xs : List α} (h : d.C w none n xs) : n = 0 ∧ xs = [] := by
  have h0 : n = 0 := by
    rcases Nat.eq_zero_or_pos n with h0 | h0
    · exact h0
    · obtain ⟨ad, h, _⟩ := h.2.2 h0
      cases h
  exact ⟨h0, List.eq_nil_of_length_eq_zero (h.1.trans h0)⟩
theorem Mem.row_nil {w0 w : World} {rs : List Res} {α : Type} (h : Mem w0 w rs) (d : Kd α) (e : Nat) : Mem w0 w (row d e (.slice none 0 0) [] :: rs) :=
  h.cons (Below.refl _ _) (Kd.R_nil _ _ _ _ _)
/-! ### slices.Clone of numbers -/
theorem cloneI_calls (A : Option Addr) (c : Nat) (l : List Int) (w : World) (hl : Kd.C (Kd.int .i64) w A l.length l) (hn : l.length ≤ 1000000000) :
    Calls Try.prog 93 #[.slice A l.length c] w fun e w' => ∃ v : Value, e = .returned v ∧ Mem w w' [row (Kd.int .i64) 3 v l] := by
  have HL := Aside0.mk hl
  have HN := Aside0.mk hn
  have M0 := Aside0.mk (Mem.nil w)
  have hq := fun (w : World) (n c : Nat) => Lib.run_eql_slice_nil (P := Try.prog) w 43 3 A n c 0 0 Try.underlying43
  cases A with
  | none =>
    obtain ⟨_, rfl⟩ := C_none hl
    clear hl hn
    go_enter Try.func93, Try.ntmps93
    go_wp2
    go_ret
    exact ⟨_, rfl, Mem.row_nil M0.out _ _⟩
  | some ad =>
    clear hl hn
    go_enter Try.func93, Try.ntmps93
    go_wp2_with (((with_reducible refine gate_builtin (b := .append) (xs := #[.tmp 5, .tmp 6]) rfl ?_); at_builtin; refine Mem.app (Kd.int .i64) ((M0.out.alloc #[] 3).lit 0 (Kd.int .i64) [] rfl (Reps.none _ _) (by decide)) 0 _ [] l rfl (.tmp 5) (.tmp 6) 43 3 _ _ rfl Try.underlying43 infoInt rfl (by decide) (by omega) (some ad) _ c rfl rfl rfl (Kd.C_alloc HL.out _) (fun x cs h => h) (by have := HN.out; simp; omega) ?_; intro v1 w1 hM1; have M1 := Aside0.mk hM1; clear hM1))
    go_ret
    exact ⟨_, rfl, M1.out⟩
/-! ### copied -/
def rc (r : Rep) (v5 v7 v8 v9 v10 : Value) : Array Value := #[.int .i64 r.f0, .int .i64 r.f1, .int .i64 r.f2, .int .i64 r.f3, .int .i64 r.f4, v5, .int .i64 r.f6, v7, v8, v9, v10, .int .i64 r.f11, .int .i64 r.f12]
def rows (r : Rep) (v5 v7 v8 v9 v10 : Value) : List Res := [row kE 102 v5 r.f5, row (Kd.int .i64) 3 v7 r.f7, row (Kd.int .i64) 3 v8 r.f8, row (Kd.int .i64) 3 v9 r.f9, row kE 102 v10 r.f10]
def Small (r : Rep) : Prop := r.f5.length ≤ 1000000000 ∧ r.f7.length ≤ 1000000000 ∧ r.f8.length ≤ 1000000000 ∧ r.f9.length ≤ 1000000000 ∧ r.f10.length ≤ 1000000000
/-- The replica's slices, read. -/
structure RdRep (w : World) (r : Rep) (A5 A7 A8 A9 A10 : Option Addr) : Prop where
  h5 : Kd.C kE w A5 r.f5.length r.f5
  h7 : Kd.C (Kd.int .i64) w A7 r.f7.length r.f7
  h8 : Kd.C (Kd.int .i64) w A8 r.f8.length r.f8
  h9 : Kd.C (Kd.int .i64) w A9 r.f9.length r.f9
  h10 : Kd.C kE w A10 r.f10.length r.f10
theorem RdRep.below {w w1 : World} {r : Rep} {A5 A7 A8 A9 A10 : Option Addr} (h : RdRep w r A5 A7 A8 A9 A10) (hb : Below w.heap.size w w1) : RdRep w1 r A5 A7 A8 A9 A10 := ⟨Kd.C_below h.h5 hb, Kd.C_below h.h7 hb, Kd.C_below h.h8 hb, Kd.C_below h.h9 hb, Kd.C_below h.h10 hb⟩
theorem copied_calls (r : Rep) (A5 A7 A8 A9 A10 : Option Addr) (c5 c7 c8 c9 c10 : Nat) (w : World) (h : RdRep w r A5 A7 A8 A9 A10) (hn : Small r) :
    Calls Try.prog 73 #[.agg (rc r (.slice A5 r.f5.length c5) (.slice A7 r.f7.length c7) (.slice A8 r.f8.length c8) (.slice A9 r.f9.length c9) (.slice A10 r.f10.length c10))] w fun e w' =>
      ∃ v5 v7 v8 v9 v10 : Value, e = .returned (.agg (rc r v5 v7 v8 v9 v10)) ∧ Mem w w' (rows r v5 v7 v8 v9 v10) := by
  have H := Aside0.mk h
  obtain ⟨n5, n7, n8, n9, n10⟩ := hn
  have M0 := Aside0.mk (Mem.nil w)
  clear h
  unfold rc
  go_enter Try.func73, Try.ntmps73
  have M := Aside0.mk ((M0.out.alloc (Kx.rA r A5 A7 A8 A9 A10 c5 c7 c8 c9 c10) 45).allocAt #[.int .i64 0, .int .i64 0, .int .i64 0, .int .i64 0, .int .i64 0, .slice none 0 0, .int .i64 0, .slice none 0 0, .slice none 0 0, .slice none 0 0, .slice none 0 0, .int .i64 0, .int .i64 0] 45 (w.heap.size + 1) (by simp))
  go_upto_region 1 with (fail)
  go_cut [1] (fun s1 wx => ∃ (B5 B10 : Option Addr) (d5 d10 : Nat), s1 = .pointer (some ⟨w.heap.size, 0, none⟩) ∧ Aside0 (Mem w wx [blk w.heap.size 45 #[.int .i64 r.f0, .int .i64 r.f1, .int .i64 r.f2, .int .i64 r.f3, .int .i64 r.f4, .slice B5 r.f5.length d5, .int .i64 r.f6, .slice A7 r.f7.length c7, .slice A8 r.f8.length c8, .slice A9 r.f9.length c9, .slice B10 r.f10.length d10, .int .i64 r.f11, .int .i64 r.f12], blk (w.heap.size + 1) 45 #[.int .i64 0, .int .i64 0, .int .i64 0, .int .i64 0, .int .i64 0, .slice none 0 0, .int .i64 0, .slice none 0 0, .slice none 0 0, .slice none 0 0, .slice none 0 0, .int .i64 0, .int .i64 0], row kE 102 (.slice B5 r.f5.length d5) r.f5, row kE 102 (.slice B10 r.f10.length d10) r.f10]))
  case first =>
    replace M := Aside0.mk M.out.drew
    have cB := blk_cell (M.out.blk_at (g := w.heap.size) 1 rfl)
    have fB := blk_frozen (M.out.blk_at (g := w.heap.size) 1 rfl)
    go_region_law (first
      | (go_simp; go_at_call_of 92 (Value.slice A5 r.f5.length c5); refine (entries_calls A5 c5 r.f5 _ (Kd.C_below H.out.h5 M.out.below) n5).mono ?_; rintro e w1 ⟨v, rfl, hM⟩; obtain ⟨B5, d5, rfl, _, _⟩ := hM.row_at 0 rfl; have M' := Aside0.mk (M.out.trans hM); clear hM M; have M := M'; clear M'; clear cB fB; (first | (have cB := blk_cell (M.out.blk_at (g := w.heap.size) 1 rfl); have fB := blk_frozen (M.out.blk_at (g := w.heap.size) 1 rfl)) | (have cB := blk_cell (M.out.blk_at (g := w.heap.size) 2 rfl); have fB := blk_frozen (M.out.blk_at (g := w.heap.size) 2 rfl)) | (have cB := blk_cell (M.out.blk_at (g := w.heap.size) 3 rfl); have fB := blk_frozen (M.out.blk_at (g := w.heap.size) 3 rfl))))
      | (go_simp; go_at_call_of 92 (Value.slice A10 r.f10.length c10); refine (entries_calls A10 c10 r.f10 _ (Kd.C_below H.out.h10 M.out.below) n10).mono ?_; rintro e w1 ⟨v, rfl, hM⟩; obtain ⟨B10, d10, rfl, _, _⟩ := hM.row_at 0 rfl; have M' := Aside0.mk (M.out.trans hM); clear hM M; have M := M'; clear M'; clear cB fB; (first | (have cB := blk_cell (M.out.blk_at (g := w.heap.size) 1 rfl); have fB := blk_frozen (M.out.blk_at (g := w.heap.size) 1 rfl)) | (have cB := blk_cell (M.out.blk_at (g := w.heap.size) 2 rfl); have fB := blk_frozen (M.out.blk_at (g := w.heap.size) 2 rfl)) | (have cB := blk_cell (M.out.blk_at (g := w.heap.size) 3 rfl); have fB := blk_frozen (M.out.blk_at (g := w.heap.size) 3 rfl)))))
    all_goals
      go_wp2_with fail
      go_meet
      case rel => first
        | exact ⟨B5, B10, d5, d10, rfl, ⟨Mem.sel (ps := [_, _, _, _]) (F := []) [3, 2, 0, 1] 4 ((M.out.set 3 rfl 5 (.slice B5 r.f5.length d5)).set 3 rfl 10 (.slice B10 r.f10.length d10)) rfl rfl⟩⟩
        | exact ⟨B5, B10, d5, d10, rfl, ⟨Mem.sel (ps := [_, _, _, _]) (F := []) [3, 2, 1, 0] 4 ((M.out.set 3 rfl 5 (.slice B5 r.f5.length d5)).set 3 rfl 10 (.slice B10 r.f10.length d10)) rfl rfl⟩⟩
  case rest =>
    obtain ⟨B5, B10, d5, d10, rfl, M1⟩ := hcut
    clear M
    go_upto_region 2 with (fail)
    go_cut [1] (fun s1 wx => ∃ (B7 B8 B9 : Option Addr) (d7 d8 d9 : Nat), s1 = .pointer (some ⟨w.heap.size, 0, none⟩) ∧ Aside0 (Mem w wx [blk w.heap.size 45 #[.int .i64 r.f0, .int .i64 r.f1, .int .i64 r.f2, .int .i64 r.f3, .int .i64 r.f4, .slice B5 r.f5.length d5, .int .i64 r.f6, .slice B7 r.f7.length d7, .slice B8 r.f8.length d8, .slice B9 r.f9.length d9, .slice B10 r.f10.length d10, .int .i64 r.f11, .int .i64 r.f12], blk (w.heap.size + 1) 45 #[.int .i64 0, .int .i64 0, .int .i64 0, .int .i64 0, .int .i64 0, .slice none 0 0, .int .i64 0, .slice none 0 0, .slice none 0 0, .slice none 0 0, .slice none 0 0, .int .i64 0, .int .i64 0], row kE 102 (.slice B5 r.f5.length d5) r.f5, row (Kd.int .i64) 3 (.slice B7 r.f7.length d7) r.f7, row (Kd.int .i64) 3 (.slice B8 r.f8.length d8) r.f8, row (Kd.int .i64) 3 (.slice B9 r.f9.length d9) r.f9, row kE 102 (.slice B10 r.f10.length d10) r.f10]))
    case first =>
      have M := Aside0.mk M1.out.drew
      have cB := blk_cell (M.out.blk_at (g := w.heap.size) 0 rfl)
      have fB := blk_frozen (M.out.blk_at (g := w.heap.size) 0 rfl)
      go_region_law (first
        | (go_simp; go_at_call_of 93 (Value.slice A7 r.f7.length c7); refine (cloneI_calls A7 c7 r.f7 _ (Kd.C_below H.out.h7 M.out.below) n7).mono ?_; rintro e w1 ⟨v, rfl, hM⟩; obtain ⟨B7, d7, rfl, _, _⟩ := hM.row_at 0 rfl; have M' := Aside0.mk (M.out.trans hM); clear hM M; have M := M'; clear M'; clear cB fB; (first | (have cB := blk_cell (M.out.blk_at (g := w.heap.size) 0 rfl); have fB := blk_frozen (M.out.blk_at (g := w.heap.size) 0 rfl)) | (have cB := blk_cell (M.out.blk_at (g := w.heap.size) 1 rfl); have fB := blk_frozen (M.out.blk_at (g := w.heap.size) 1 rfl)) | (have cB := blk_cell (M.out.blk_at (g := w.heap.size) 2 rfl); have fB := blk_frozen (M.out.blk_at (g := w.heap.size) 2 rfl)) | (have cB := blk_cell (M.out.blk_at (g := w.heap.size) 3 rfl); have fB := blk_frozen (M.out.blk_at (g := w.heap.size) 3 rfl))))
        | (go_simp; go_at_call_of 93 (Value.slice A8 r.f8.length c8); refine (cloneI_calls A8 c8 r.f8 _ (Kd.C_below H.out.h8 M.out.below) n8).mono ?_; rintro e w1 ⟨v, rfl, hM⟩; obtain ⟨B8, d8, rfl, _, _⟩ := hM.row_at 0 rfl; have M' := Aside0.mk (M.out.trans hM); clear hM M; have M := M'; clear M'; clear cB fB; (first | (have cB := blk_cell (M.out.blk_at (g := w.heap.size) 0 rfl); have fB := blk_frozen (M.out.blk_at (g := w.heap.size) 0 rfl)) | (have cB := blk_cell (M.out.blk_at (g := w.heap.size) 1 rfl); have fB := blk_frozen (M.out.blk_at (g := w.heap.size) 1 rfl)) | (have cB := blk_cell (M.out.blk_at (g := w.heap.size) 2 rfl); have fB := blk_frozen (M.out.blk_at (g := w.heap.size) 2 rfl)) | (have cB := blk_cell (M.out.blk_at (g := w.heap.size) 3 rfl); have fB := blk_frozen (M.out.blk_at (g := w.heap.size) 3 rfl))))
        | (go_simp; go_at_call_of 93 (Value.slice A9 r.f9.length c9); refine (cloneI_calls A9 c9 r.f9 _ (Kd.C_below H.out.h9 M.out.below) n9).mono ?_; rintro e w1 ⟨v, rfl, hM⟩; obtain ⟨B9, d9, rfl, _, _⟩ := hM.row_at 0 rfl; have M' := Aside0.mk (M.out.trans hM); clear hM M; have M := M'; clear M'; clear cB fB; (first | (have cB := blk_cell (M.out.blk_at (g := w.heap.size) 0 rfl); have fB := blk_frozen (M.out.blk_at (g := w.heap.size) 0 rfl)) | (have cB := blk_cell (M.out.blk_at (g := w.heap.size) 1 rfl); have fB := blk_frozen (M.out.blk_at (g := w.heap.size) 1 rfl)) | (have cB := blk_cell (M.out.blk_at (g := w.heap.size) 2 rfl); have fB := blk_frozen (M.out.blk_at (g := w.heap.size) 2 rfl)) | (have cB := blk_cell (M.out.blk_at (g := w.heap.size) 3 rfl); have fB := blk_frozen (M.out.blk_at (g := w.heap.size) 3 rfl)))))
      all_goals
        go_wp2_with fail
        go_meet
        case rel => first
        | exact ⟨B7, B8, B9, d7, d8, d9, rfl, ⟨Mem.sel (ps := [_, _, _, _, _, _, _]) (F := []) [3, 4, 5, 0, 1, 2, 6] 7 (((M.out.set 3 rfl 7 (.slice B7 r.f7.length d7)).set 3 rfl 8 (.slice B8 r.f8.length d8)).set 3 rfl 9 (.slice B9 r.f9.length d9)) rfl rfl⟩⟩
        | exact ⟨B7, B8, B9, d7, d8, d9, rfl, ⟨Mem.sel (ps := [_, _, _, _, _, _, _]) (F := []) [3, 4, 5, 0, 2, 1, 6] 7 (((M.out.set 3 rfl 7 (.slice B7 r.f7.length d7)).set 3 rfl 8 (.slice B8 r.f8.length d8)).set 3 rfl 9 (.slice B9 r.f9.length d9)) rfl rfl⟩⟩
        | exact ⟨B7, B8, B9, d7, d8, d9, rfl, ⟨Mem.sel (ps := [_, _, _, _, _, _, _]) (F := []) [3, 4, 5, 1, 0, 2, 6] 7 (((M.out.set 3 rfl 7 (.slice B7 r.f7.length d7)).set 3 rfl 8 (.slice B8 r.f8.length d8)).set 3 rfl 9 (.slice B9 r.f9.length d9)) rfl rfl⟩⟩
        | exact ⟨B7, B8, B9, d7, d8, d9, rfl, ⟨Mem.sel (ps := [_, _, _, _, _, _, _]) (F := []) [3, 4, 5, 1, 2, 0, 6] 7 (((M.out.set 3 rfl 7 (.slice B7 r.f7.length d7)).set 3 rfl 8 (.slice B8 r.f8.length d8)).set 3 rfl 9 (.slice B9 r.f9.length d9)) rfl rfl⟩⟩
        | exact ⟨B7, B8, B9, d7, d8, d9, rfl, ⟨Mem.sel (ps := [_, _, _, _, _, _, _]) (F := []) [3, 4, 5, 2, 0, 1, 6] 7 (((M.out.set 3 rfl 7 (.slice B7 r.f7.length d7)).set 3 rfl 8 (.slice B8 r.f8.length d8)).set 3 rfl 9 (.slice B9 r.f9.length d9)) rfl rfl⟩⟩
        | exact ⟨B7, B8, B9, d7, d8, d9, rfl, ⟨Mem.sel (ps := [_, _, _, _, _, _, _]) (F := []) [3, 4, 5, 2, 1, 0, 6] 7 (((M.out.set 3 rfl 7 (.slice B7 r.f7.length d7)).set 3 rfl 8 (.slice B8 r.f8.length d8)).set 3 rfl 9 (.slice B9 r.f9.length d9)) rfl rfl⟩⟩
    case rest =>
      obtain ⟨B7, B8, B9, d7, d8, d9, rfl, M2⟩ := hcut
      have cB := blk_cell (M2.out.blk_at 0 rfl)
      have fC := blk_frozen (M2.out.blk_at 1 rfl)
      have cC := blk_cell (M2.out.blk_at 1 rfl)
      go_wp2
      have M3 := M2.out.setRow 1 rfl [(.int .i64 r.f0), (.int .i64 r.f1), (.int .i64 r.f2), (.int .i64 r.f3), (.int .i64 r.f4), (.slice B5 r.f5.length d5), (.int .i64 r.f6), (.slice B7 r.f7.length d7), (.slice B8 r.f8.length d8), (.slice B9 r.f9.length d9), (.slice B10 r.f10.length d10), (.int .i64 r.f11), (.int .i64 r.f12)] rfl
      have hg3 := M3.blk_at 1 rfl
      refine bodyPost_ret (results_cell_row rfl _ _ (w.heap.size + 1) 45 #[.int .i64 r.f0, .int .i64 r.f1, .int .i64 r.f2, .int .i64 r.f3, .int .i64 r.f4, .slice B5 r.f5.length d5, .int .i64 r.f6, .slice B7 r.f7.length d7, .slice B8 r.f8.length d8, .slice B9 r.f9.length d9, .slice B10 r.f10.length d10, .int .i64 r.f11, .int .i64 r.f12] (0, 0) _ rfl hg3 Try.underlying45 rfl (by kernel_rfl)) rfl ?_
      exact ⟨_, _, _, _, _, rfl, Mem.sel (ps := [_, _, _, _, _, _, _]) (F := []) [2, 3, 4, 5, 6] 7 M3 rfl rfl⟩
end Go.Proofs.Ytggbjokhniigkaa.Wd
namespace Go.Proofs.Ytggbjokhniigkaa.Wh0
open Ty Go.RowKit YtggbjokhniigkaaW.PrintWords YtggbjokhniigkaaW.PrintLast YtggbjokhniigkaaW.PrintMore Mx Kx Wa Wb Wd We
theorem blk_ne {w0 w : World} {rs : List Res} (h : Mem w0 w rs) (i j : Nat) {g T g' T' : Nat} {cs cs' : Array Value} (hi : rs[i]? = some (blk g T cs)) (hj : rs[j]? = some (blk g' T' cs')) (hij : i ≠ j) : ¬ g = g' := by
  obtain ⟨f, q, h1, h2, _, _, h5, _⟩ := h.take2 hi hj hij
  intro e
  subst e
  exact h5 _ h1.2 h2.2
theorem Rd.ent {w0 : World} {g : Nat} {x : Entry} : Rd w0 (blk g 102 #[.int .i64 x.f0, .string x.f1]) kE (some ⟨g, 0, none⟩) [x] := fun w rs i hM hi =>
  (reads_one (d := kE) x (hM.blk_at i hi) rfl).imp_ (Below.refl _ _) (fun y c hx => by obtain ⟨rfl, rfl⟩ := hx; exact kE_mk w y)
theorem prop_all (r : Rep) (B8 B9 B10 C5 : Option Addr) (d7 d8 d9 d10 d5' g7 ge gw : Nat) (w wx : World) (tm cm : Int) (data : ByteArray) (A5 A7 A8 A9 A10 : Option Addr) (c5 c7 c8 c9 c10 : Nat)
    (M8 : Mem w wx [blk ge 102 #[.int .i64 tm, .string data], blk gw 99 #[.int .i64 r.f0, .int .i64 r.f1, .int .i64 r.f2, .int .i64 r.f3, .int .i64 r.f4, .slice C5 (r.f5.length + 1) d5', .int .i64 cm, .slice (some ⟨g7, 0, none⟩) r.f7.length d7, .slice B8 r.f8.length d8, .slice B9 r.f9.length d9, .slice B10 r.f10.length d10, .int .i64 r.f11, .int .i64 r.f12, .slice none 0 0], blk (w.heap.size + 1) 45 #[.int .i64 0, .int .i64 0, .int .i64 0, .int .i64 0, .int .i64 0, .slice none 0 0, .int .i64 0, .slice none 0 0, .slice none 0 0, .slice none 0 0, .slice none 0 0, .int .i64 0, .int .i64 0], blk w.heap.size 45 (Kx.rA r A5 A7 A8 A9 A10 c5 c7 c8 c9 c10), row kE 102 (.slice C5 (r.f5.length + 1) d5') (r.f5 ++ [⟨tm, data⟩]), row (Kd.int .i64) 3 (.slice (some ⟨g7, 0, none⟩) r.f7.length d7) (r.f7.set r.f0.toNat ((r.f5.length : Int) + 1)), row (Kd.int .i64) 3 (.slice B8 r.f8.length d8) r.f8, row (Kd.int .i64) 3 (.slice B9 r.f9.length d9) r.f9, row kE 102 (.slice B10 r.f10.length d10) r.f10]) (hn1 : 0 < r.f1) (hn5 : r.f1 ≤ 5) :
    Calls Try.prog 75 #[.pointer (some ⟨gw, 0, none⟩), .agg #[.int .i64 1, .int .i64 0, .int .i64 0, .int .i64 0, .int .i64 ((r.f5.length : Int) + 1), .int .i64 cm, .int .i64 0, .slice (some ⟨wx.heap.size, 0, none⟩) 1 1]] (wx.alloc (Obj.cells #[.int .i64 tm, .string data] 102)).drew fun e w' => ∃ vo : Value, e = .returned (.tuple #[]) ∧ Mem w w' [blk wx.heap.size 102 #[.int .i64 tm, .string data], blk gw 99 #[.int .i64 r.f0, .int .i64 r.f1, .int .i64 r.f2, .int .i64 r.f3, .int .i64 r.f4, .slice C5 (r.f5.length + 1) d5', .int .i64 cm, .slice (some ⟨g7, 0, none⟩) r.f7.length d7, .slice B8 r.f8.length d8, .slice B9 r.f9.length d9, .slice B10 r.f10.length d10, .int .i64 r.f11, .int .i64 r.f12, vo], row kM 29 vo (toAll r ⟨1, 0, 0, 0, (r.f5.length : Int) + 1, cm, 0, [⟨tm, data⟩]⟩), blk ge 102 #[.int .i64 tm, .string data], blk (w.heap.size + 1) 45 #[.int .i64 0, .int .i64 0, .int .i64 0, .int .i64 0, .int .i64 0, .slice none 0 0, .int .i64 0, .slice none 0 0, .slice none 0 0, .slice none 0 0, .slice none 0 0, .int .i64 0, .int .i64 0], blk w.heap.size 45 (Kx.rA r A5 A7 A8 A9 A10 c5 c7 c8 c9 c10), row kE 102 (.slice C5 (r.f5.length + 1) d5') (r.f5 ++ [⟨tm, data⟩]), row (Kd.int .i64) 3 (.slice (some ⟨g7, 0, none⟩) r.f7.length d7) (r.f7.set r.f0.toNat ((r.f5.length : Int) + 1)), row (Kd.int .i64) 3 (.slice B8 r.f8.length d8) r.f8, row (Kd.int .i64) 3 (.slice B9 r.f9.length d9) r.f9, row kE 102 (.slice B10 r.f10.length d10) r.f10] := by
  have M9 := Mem.row_nil ((M8.allocAt #[.int .i64 tm, .string data] 102 wx.heap.size rfl).drew) kM 29
  have MA := Mem.sel (ps := [_, _, _, _, _, _, _, _, _, _, _]) (F := []) [1, 3, 0, 2, 4, 5, 6, 7, 8, 9, 10] 11 M9 rfl rfl
  refine (all_calls w _ (blk wx.heap.size 102 #[.int .i64 tm, .string data]) [blk ge 102 #[.int .i64 tm, .string data], blk (w.heap.size + 1) 45 #[.int .i64 0, .int .i64 0, .int .i64 0, .int .i64 0, .int .i64 0, .slice none 0 0, .int .i64 0, .slice none 0 0, .slice none 0 0, .slice none 0 0, .slice none 0 0, .int .i64 0, .int .i64 0], blk w.heap.size 45 (Kx.rA r A5 A7 A8 A9 A10 c5 c7 c8 c9 c10), row kE 102 (.slice C5 (r.f5.length + 1) d5') (r.f5 ++ [⟨tm, data⟩]), row (Kd.int .i64) 3 (.slice (some ⟨g7, 0, none⟩) r.f7.length d7) (r.f7.set r.f0.toNat ((r.f5.length : Int) + 1)), row (Kd.int .i64) 3 (.slice B8 r.f8.length d8) r.f8, row (Kd.int .i64) 3 (.slice B9 r.f9.length d9) r.f9, row kE 102 (.slice B10 r.f10.length d10) r.f10] gw r.f0 r.f1 r.f2 r.f3 r.f4 (.slice C5 (r.f5.length + 1) d5') cm (.slice (some ⟨g7, 0, none⟩) r.f7.length d7) (.slice B8 r.f8.length d8) (.slice B9 r.f9.length d9) (.slice B10 r.f10.length d10) r.f11 r.f12 (.slice none 0 0) [] 1 0 0 0 ((r.f5.length : Int) + 1) cm 0 (some ⟨wx.heap.size, 0, none⟩) 1 [⟨tm, data⟩] MA (Rd.ent (x := ⟨tm, data⟩)) (by simp) (by simp) (by decide) hn1 hn5).mono ?_
  rintro e w' ⟨vo, rfl, hM⟩
  exact ⟨vo, rfl, hM⟩
end Go.Proofs.Ytggbjokhniigkaa.Wh0
namespace Go.Proofs.Ytggbjokhniigkaa.Sa
open Ty Go.RowKit YtggbjokhniigkaaW.PrintWords YtggbjokhniigkaaW.PrintLast YtggbjokhniigkaaW.PrintMore Mx Kx Wa Wb We Ra Rb
section
variable {P : Program} {ops : Array Oper} {rest : List Oper} {o : Oper} {a : Act} {Q : Exit → Act → World → Prop} {α : Type}
/-- make([]T, n). -/
theorem Mem.make (d : Kd α) {w0 W : World} {rs : List Res} (hM : Mem w0 W rs) (e : Nat) (hgd : o.guard = none) {N : Tmp} (hd : o.dst = some N) (t : TypeId) (x y : Operand) (ho : o.op = .makeSlice t x y) (n : Int) (hx : a.eval x = .int .i64 n) (hy : a.eval y = .int .i64 n)
    (ht : P.underlying t = some (.slice e)) (z : Value) (bytes : Nat) (hinfo : (P.info? e).map (fun i => (i.zero, i.size, i.bytes)) = some (some z, d.sz, bytes)) (hz : z.cells.size = d.sz) (hs0 : 0 < d.sz) (hb0 : 0 < bytes)
    (z0 : α) (hzero : ∀ w b, d.M w b (fun _ => False) z0 z.cells.toList) (h0 : 0 ≤ n) (hl : n.toNat * bytes ≤ 281474976710656) (ys : List α) (hys : List.replicate n.toNat z0 = ys)
    (h : ∀ v1 w1, Mem w0 w1 (row d e v1 ys :: rs) → wpList P ops Q rest (a.put o.dst v1) w1) : wpList P ops Q (o :: rest) a W := by
  subst hys
  refine Kd.R_make d (w0 := W) W.heap.size e hgd hd t x y ho n hx hy ht z bytes hinfo hz hs0 hb0 z0 (ok := fun k => W.heap.size ≤ k) (okp := fun _ => False) (hzero _ _) (fun _ hk => hk.elim) (Nat.le_refl _) h0 hl (Below.refl _ _) (Nat.le_refl _) ?_
  intro v1 w1 hr hb _ _
  exact h v1 w1 (hM.fresh hb hr)
end
theorem C_none {α : Type} {w : World} (d : Kd α) : Kd.C d w none ([] : List α).length [] := ⟨rfl, Nat.zero_le _, fun h => absurd h (Nat.lt_irrefl 0)⟩
theorem reps_int_one (i : Int) : Reps (fun (x : Int) c => ∀ w, (Kd.int .i64).M w 0 (fun _ => False) x c) (Kd.int .i64).sz [i] [.int .i64 i] := (Reps.none _ _).snoc (p := i) (c := [.int .i64 i]) (fun _ => rfl) rfl
theorem clear_calls (w0 w : World) (F : List Res) (g : Nat) (i n vw nr hw : Int) (vl : Value) (cm : Int) (va vv vo vb : Value) (bv bd : Int) (vout : Value)
    (hM : Mem w0 w (blk g 99 (Wa.wc i n vw nr hw vl cm va vv vo vb bv bd vout) :: F)) :
    Calls Try.prog 82 #[.pointer (some ⟨g, 0, none⟩)] w fun e w' => e = .returned (.tuple #[]) ∧ Mem w0 w' (blk g 99 (Wa.wc i n vw nr hw vl cm va (.slice none 0 0) (.slice none 0 0) (.slice none 0 0) (-1) 0 vout) :: F) := by
  have cG := blk_cell (hM.blk_at 0 rfl)
  have fG := blk_frozen (hM.blk_at 0 rfl)
  have hg := blk_lt (hM.blk_at 0 rfl)
  unfold Wa.wc at cG
  have M0 := Aside0.mk hM
  clear hM
  go_enter Try.func82, Try.ntmps82
  go_wp2
  go_end0
  exact ⟨rfl, ((((M0.out.set 0 rfl 8 (.slice none 0 0)).set 0 rfl 9 (.slice none 0 0)).set 0 rfl 10 (.slice none 0 0)).set 0 rfl 11 (.int .i64 (-1))).set 0 rfl 12 (.int .i64 0)⟩
theorem acked_calls (w0 w : World) (F : List Res) (g : Nat) (i n vw nr hw : Int) (A5 : Option Addr) (n5 c5 : Nat) (cm : Int) (va vv vo vb : Value) (bv bd : Int) (vout : Value)
    (hM : Mem w0 w (blk g 99 (Wa.wc i n vw nr hw (.slice A5 n5 c5) cm va vv vo vb bv bd vout) :: F)) (hi0 : 0 ≤ i) (hi1 : i < n) (hn5 : n ≤ 5) :
    Calls Try.prog 83 #[.pointer (some ⟨g, 0, none⟩)] w fun e w' => ∃ va' : Value, e = .returned (.tuple #[]) ∧ Mem w0 w' (blk g 99 (Wa.wc i n vw nr hw (.slice A5 n5 c5) cm va' vv vo vb bv bd vout) :: row (Kd.int .i64) 3 va' ((List.replicate n.toNat 0).set i.toNat (n5 : Int)) :: F) := by
  have cG := blk_cell (hM.blk_at 0 rfl)
  have fG := blk_frozen (hM.blk_at 0 rfl)
  have hg := blk_lt (hM.blk_at 0 rfl)
  unfold Wa.wc at cG
  have M0 := Aside0.mk hM
  clear hM
  obtain ⟨ys, hys⟩ : ∃ ys, List.replicate n.toNat (0 : Int) = ys := ⟨_, rfl⟩
  have hl : ys.length = n.toNat := by rw [← hys, List.length_replicate]
  have HL := Aside0.mk hl
  have HY := Aside0.mk hys
  clear hl hys
  go_enter Try.func83, Try.ntmps83
  go_upto_region 0 with (fail)
  go_cut [] (fun wx => ∃ (g7 k7 : Nat), Aside0 (Mem w0 wx (row (Kd.int .i64) 3 (.slice (some ⟨g7, 0, none⟩) ys.length k7) ys :: blk g 99 (Wa.wc i n vw nr hw (.slice A5 n5 c5) cm (.slice (some ⟨g7, 0, none⟩) ys.length k7) vv vo vb bv bd vout) :: F)))
  case first =>
    go_wp2_with ((with_reducible refine gate_dst (N := 8) rfl ?_); refine Mem.make (Kd.int .i64) M0.out 3 rfl (N := 8) rfl 43 (.tmp 7) (.tmp 7) rfl n rfl rfl Try.underlying43 (.int .i64 0) 8 infoInt rfl (by decide) (by omega) 0 (fun _ _ => rfl) (by omega) (by omega) ys HY.out ?_; intro v1 w1 hM1; obtain ⟨g7, k7, he, hg7⟩ := hM1.int_form 0 rfl (by have := HL.out; omega); subst he; have M1 := Aside0.mk hM1; clear hM1; have cG1 := blk_cell (M1.out.blk_at 1 rfl); have fG1 := blk_frozen (M1.out.blk_at 1 rfl); have hg1 := blk_lt (M1.out.blk_at 1 rfl); unfold Wa.wc at cG1)
    go_meet
    case rel => exact ⟨g7, k7, ⟨M1.out.set 1 rfl 7 (.slice (some ⟨g7, 0, none⟩) ys.length k7)⟩⟩
  case rest =>
    obtain ⟨g7, k7, M1⟩ := hcut
    clear cG fG hg M0
    have cG := blk_cell (M1.out.blk_at 1 rfl)
    unfold Wa.wc at cG
    have hi2 : i < (ys.length : Int) := by have := HL.out; omega
    have x7 := (M1.out.int_cell 0 rfl i hi0 hi2).1
    have y7 := (M1.out.int_cell 0 rfl i hi0 hi2).2
    have hi3 : (i < (ys.length : Int)) = True := eq_true hi2
    go_upto_region 1 with (fail)
    go_region
    all_goals
      go_end0
      first | refine ⟨.slice (some ⟨g7, 0, none⟩) ys.length k7, rfl, ?_⟩ | refine ⟨rfl, .slice (some ⟨g7, 0, none⟩) ys.length k7, ?_⟩
      rw [HY.out]
      exact Mem.sel (ps := [_, _]) (F := F) [1, 0] 2 (M1.out.drew.int_put 0 rfl i (n5 : Int)) rfl rfl
theorem normal_calls (w0 w : World) (F : List Res) (g : Nat) (i n vw nr hw : Int) (vl : Value) (cm : Int) (va vv vo vb : Value) (bv bd : Int) (vout : Value) (view commit : Int) (A : Option Addr) (c : Nat) (l : List Entry)
    (hM : Mem w0 w (blk g 99 (Wa.wc i n vw nr hw vl cm va vv vo vb bv bd vout) :: F)) (hl : ∀ (w' : World) (b : Res), Mem w0 w' (b :: F) → kE.C w' A l.length l) (hn : l.length ≤ 1000000000) (hi0 : 0 ≤ i) (hi1 : i < n) (hn5 : n ≤ 5) (cx : Int) (hcx : (if n = 1 then (l.length : Int) else min (max cm commit) (l.length : Int)) = cx) :
    Calls Try.prog 78 #[.pointer (some ⟨g, 0, none⟩), .int .i64 view, .slice A l.length c, .int .i64 commit] w fun e w' => ∃ vl' va' : Value, e = .returned (.tuple #[]) ∧ Mem w0 w' (blk g 99 (Wa.wc i n view view 0 vl' cx va' (.slice none 0 0) (.slice none 0 0) (.slice none 0 0) (-1) 0 vout) :: row (Kd.int .i64) 3 va' ((List.replicate n.toNat 0).set i.toNat (l.length : Int)) :: row kE 102 vl' l :: F) := by
  have cG := blk_cell (hM.blk_at 0 rfl)
  have fG := blk_frozen (hM.blk_at 0 rfl)
  have hg := blk_lt (hM.blk_at 0 rfl)
  unfold Wa.wc at cG
  have M0 := Aside0.mk hM
  have HL := Aside0.mk hl
  have HN := Aside0.mk hn
  have HX := Aside0.mk hcx
  clear hM hl hcx
  go_enter Try.func78, Try.ntmps78
  go_wp2_with fail
  refine (clear_calls w0 _ F g i n view view 0 vl cm va vv vo vb bv bd vout (((M0.out.set 0 rfl 2 (.int .i64 view)).set 0 rfl 3 (.int .i64 view)).set 0 rfl 4 (.int .i64 0))).mono ?_
  rintro e w1 ⟨rfl, hM⟩
  have M1 := Aside0.mk hM
  clear hM M0 cG fG hg
  have cG := blk_cell (M1.out.blk_at 0 rfl)
  have fG := blk_frozen (M1.out.blk_at 0 rfl)
  have hg := blk_lt (M1.out.blk_at 0 rfl)
  unfold Wa.wc at cG
  go_wp2_with fail
  refine (entries_calls A c l _ (HL.out _ _ M1.out) HN.out).mono ?_
  rintro e w2 ⟨v, rfl, hM⟩
  have M2 := Aside0.mk (M1.out.trans hM)
  clear hM
  obtain ⟨B, d, rfl, hcB, _⟩ := M2.out.row_at 0 rfl
  clear M1 cG fG hg
  have cG := blk_cell (M2.out.blk_at 1 rfl)
  have fG := blk_frozen (M2.out.blk_at 1 rfl)
  have hg := blk_lt (M2.out.blk_at 1 rfl)
  unfold Wa.wc at cG
  go_upto_region 3 with (fail)
  have M3 := Aside0.mk (M2.out.set 1 rfl 5 (.slice B l.length d))
  go_cut [] (fun wx => ∃ cm1 : Int, Aside0 (cm1 = min (max cm commit) (l.length : Int)) ∧ Aside0 (Mem w0 wx (row kE 102 (.slice B l.length d) l :: blk g 99 (Wa.wc i n view view 0 (.slice B l.length d) cm1 va (.slice none 0 0) (.slice none 0 0) (.slice none 0 0) (-1) 0 vout) :: F)))
  case first =>
    go_region
    all_goals
      go_wp2_with fail
      all_goals
        go_meet
        case rel => exact ⟨_, ⟨by first | omega | (split <;> omega) | (split <;> split <;> omega)⟩, ⟨M3.out.drew.set 1 rfl 6 _⟩⟩
  case rest =>
    obtain ⟨cm1, HC1, M4⟩ := hcut
    clear M3 M2 cG fG hg
    have cG := blk_cell (M4.out.blk_at 1 rfl)
    have fG := blk_frozen (M4.out.blk_at 1 rfl)
    have hg := blk_lt (M4.out.blk_at 1 rfl)
    unfold Wa.wc at cG
    go_upto_if 53 with (fail)
    go_cut [] (fun wx => ∃ cm2 : Int, Aside0 (cm2 = if n = 1 then (l.length : Int) else cm1) ∧ Aside0 (Mem w0 wx (row kE 102 (.slice B l.length d) l :: blk g 99 (Wa.wc i n view view 0 (.slice B l.length d) cm2 va (.slice none 0 0) (.slice none 0 0) (.slice none 0 0) (-1) 0 vout) :: F)))
    case first =>
      by_cases h1 : n = 1
      · have hq : (n == 1) = true := by simpa using h1
        go_wp2_with fail
        go_meet
        case rel => exact ⟨(l.length : Int), ⟨by rw [if_pos h1]⟩, ⟨M4.out.set 1 rfl 6 (.int .i64 (l.length : Int))⟩⟩
      · have hq : (n == 1) = false := by simpa using h1
        go_wp2_with fail
        go_meet
        case rel => exact ⟨cm1, ⟨by rw [if_neg h1]⟩, M4⟩
    case rest =>
      obtain ⟨cm2, HC2, M5⟩ := hcut
      have hc3 : cm2 = cx := by rw [HC2.out, HC1.out, HX.out]
      subst hc3
      clear M4 HC1 HC2 cG fG hg
      go_wp2_with fail
      refine (acked_calls w0 _ (row kE 102 (.slice B l.length d) l :: F) g i n view view 0 B l.length d cm2 va (.slice none 0 0) (.slice none 0 0) (.slice none 0 0) (-1) 0 vout (Mem.sel (ps := [_, _]) (F := F) [1, 0] 2 M5.out rfl rfl) hi0 hi1 hn5).mono ?_
      rintro e w4 ⟨va', rfl, hM⟩
      have M7 := Aside0.mk hM
      clear hM
      go_wp2
      go_end0
      first | refine ⟨.slice B l.length d, va', rfl, ?_⟩ | refine ⟨rfl, .slice B l.length d, va', ?_⟩
      exact M7.out
theorem change_calls (w0 w : World) (F : List Res) (g : Nat) (i n vw nr hw : Int) (vl : Value) (cm : Int) (va vv vo vb : Value) (bv bd : Int) (vout : Value) (out : List Msg) (view : Int)
    (hM : Mem w0 w (blk g 99 (Wa.wc i n vw nr hw vl cm va vv vo vb bv bd vout) :: row kM 29 vout out :: F)) (hn0 : 0 < n) (hn5 : n ≤ 5) (ho : out.length ≤ 1000000) :
    Calls Try.prog 79 #[.pointer (some ⟨g, 0, none⟩), .int .i64 view] w fun e w' => ∃ vv' vout' : Value, e = .returned (.tuple #[]) ∧ Mem w0 w' (blk g 99 (Wa.wc i n view nr 1 vl cm va vv' (.slice none 0 0) (.slice none 0 0) (-1) 0 vout') :: row kM 29 vout' (out ++ allFrom i n view ⟨4, 0, 0, 0, 0, 0, 0, []⟩ n.toNat 0) :: row (Kd.int .i64) 3 vv' [i] :: F) := by
  have cG := blk_cell (hM.blk_at 0 rfl)
  have fG := blk_frozen (hM.blk_at 0 rfl)
  have hg := blk_lt (hM.blk_at 0 rfl)
  unfold Wa.wc at cG
  have M0 := Aside0.mk hM
  clear hM
  go_enter Try.func79, Try.ntmps79
  go_wp2_with fail
  refine (clear_calls w0 _ (row kM 29 vout out :: F) g i n view nr 1 vl cm va vv vo vb bv bd vout ((M0.out.set 0 rfl 2 (.int .i64 view)).set 0 rfl 4 (.int .i64 1))).mono ?_
  rintro e w1 ⟨rfl, hM⟩
  have M1 := Aside0.mk hM
  have M1a := Aside0.mk hM
  clear hM M0 cG fG hg
  have cG := blk_cell (M1a.out.blk_at 0 rfl)
  have fG := blk_frozen (M1a.out.blk_at 0 rfl)
  have hg := blk_lt (M1a.out.blk_at 0 rfl)
  unfold Wa.wc at cG
  have M2 := Aside0.mk (((M1.out.set 0 rfl 8 (.slice (some ⟨w1.heap.size, 0, none⟩) 1 1)).allocAt #[.int .i64 i] 3 w1.heap.size (by simp)).lit 0 (Kd.int .i64) [i] rfl (reps_int_one i) (by simp))
  go_wp2_with fail
  refine (all_calls w0 _ emp (row (Kd.int .i64) 3 (.slice (some ⟨w1.heap.size, 0, none⟩) 1 1) [i] :: F) g i n view nr 1 vl cm va (.slice (some ⟨w1.heap.size, 0, none⟩) 1 1) (.slice none 0 0) (.slice none 0 0) (-1) 0 vout out 4 0 0 0 0 0 0 none 0 [] (Mem.sel (ps := [_, _, _, _]) (F := F) [0, 2, 3, 1] 4 M2.out.cons_emp rfl rfl) (Rd.old (C_none kE)) (by simp) (by simp) ho hn0 hn5).mono ?_
  rintro e w2 ⟨vout', rfl, hM⟩
  go_wp2
  go_end0
  exact ⟨_, vout', rfl, Mem.sel (ps := [_, _, _, _]) (F := F) [1, 2, 3] 4 hM rfl rfl⟩
end Go.Proofs.Ytggbjokhniigkaa.Sa
namespace Go.Proofs.Ytggbjokhniigkaa.Tl
open Go.RowKit
theorem wc_low (i n vw nr hw : Int) (vl : Value) (cm : Int) (va vv vo vb : Value) (bv bd : Int) (vout vout' : Value) (j : Nat) (hj : j < 13) : (Wa.wc i n vw nr hw vl cm va vv vo vb bv bd vout)[j]? = (Wa.wc i n vw nr hw vl cm va vv vo vb bv bd vout')[j]? := by
  unfold Wa.wc
  match j, hj with
  | 0, _ => rfl
  | 1, _ => rfl
  | 2, _ => rfl
  | 3, _ => rfl
  | 4, _ => rfl
  | 5, _ => rfl
  | 6, _ => rfl
  | 7, _ => rfl
  | 8, _ => rfl
  | 9, _ => rfl
  | 10, _ => rfl
  | 11, _ => rfl
  | 12, _ => rfl
end Go.Proofs.Ytggbjokhniigkaa.Tl
namespace Go.Proofs.Ytggbjokhniigkaa.To
end Go.Proofs.Ytggbjokhniigkaa.To
