/- Restart, the program's and the reference's. -/
import Derived.Test.YtggbjokhniigkaaSc
namespace Go.Proofs.Ytggbjokhniigkaa.Sd
open Go.Proofs.Ytggbjokhniigkaa.Ty Go.RowKit Go.Proofs.YtggbjokhniigkaaW.PrintWords Go.Proofs.YtggbjokhniigkaaW.PrintLast Go.Proofs.YtggbjokhniigkaaW.PrintMore Go.Proofs.Ytggbjokhniigkaa.Mx Go.Proofs.Ytggbjokhniigkaa.Kx Go.Proofs.Ytggbjokhniigkaa.Wa Go.Proofs.Ytggbjokhniigkaa.Wb Go.Proofs.Ytggbjokhniigkaa.Wc Go.Proofs.Ytggbjokhniigkaa.Wd Go.Proofs.Ytggbjokhniigkaa.We Go.Proofs.Ytggbjokhniigkaa.Sa Go.Proofs.Ytggbjokhniigkaa.Sb Go.Proofs.Ytggbjokhniigkaa.Sc Go.Proofs.Ytggbjokhniigkaa.Vc Go.Proofs.Ytggbjokhniigkaa.Rd Go.Proofs.Ytggbjokhniigkaa.Wj
set_option linter.unusedVariables false
set_option linter.unusedSimpArgs false
/-- What a new beginning makes of a replica. -/
def restart (r : Rep) : Rep × Int :=
  if may r then (acked (if r.f4 = 1 then { clear r with f8 := [r.f0] } else clear r), 0) else (r, 1)
def OutR (w w' : World) (e : Ending) (s : Rep) (code : Int) : Prop :=
  ∃ (B5 B7 B8 B9 B10 : Option Addr) (d5 d7 d8 d9 d10 : Nat), e = .returned (.tuple #[.agg #[.int .i64 s.f0, .int .i64 s.f1, .int .i64 s.f2, .int .i64 s.f3, .int .i64 s.f4, .slice B5 s.f5.length d5, .int .i64 s.f6, .slice B7 s.f7.length d7, .slice B8 s.f8.length d8, .slice B9 s.f9.length d9, .slice B10 s.f10.length d10, .int .i64 s.f11, .int .i64 s.f12], .int .i64 code]) ∧ RdRep w' s B5 B7 B8 B9 B10 ∧ Fit s d5 d7 d8 d9 d10 ∧ Below w.heap.size w w'
theorem OutR_of {w w' : World} {s : Rep} {code : Int} {v5 v7 v8 v9 v10 : Value} {F : List Res} (hM : Mem w w' (row kE 102 v5 s.f5 :: row (Kd.int .i64) 3 v7 s.f7 :: row (Kd.int .i64) 3 v8 s.f8 :: row (Kd.int .i64) 3 v9 s.f9 :: row kE 102 v10 s.f10 :: F)) :
    OutR w w' (.returned (.tuple #[.agg #[.int .i64 s.f0, .int .i64 s.f1, .int .i64 s.f2, .int .i64 s.f3, .int .i64 s.f4, v5, .int .i64 s.f6, v7, v8, v9, v10, .int .i64 s.f11, .int .i64 s.f12], .int .i64 code])) s code := by
  obtain ⟨B5, d5, rfl, h5, g5⟩ := hM.row_at 0 rfl
  obtain ⟨B7, d7, rfl, h7, g7⟩ := hM.row_at 1 rfl
  obtain ⟨B8, d8, rfl, h8, g8⟩ := hM.row_at 2 rfl
  obtain ⟨B9, d9, rfl, h9, g9⟩ := hM.row_at 3 rfl
  obtain ⟨B10, d10, rfl, h10, g10⟩ := hM.row_at 4 rfl
  exact ⟨B5, B7, B8, B9, B10, d5, d7, d8, d9, d10, rfl, ⟨g5, g7, g8, g9, g10⟩, ⟨h5, h7, h8, h9, h10⟩, hM.below⟩
set_option maxRecDepth 100000 in
set_option maxHeartbeats 8000000 in
theorem Restart_e1 (r : Rep) (A5 A7 A8 A9 A10 : Option Addr) (c5 c7 c8 c9 c10 : Nat) (w : World) (h : RdRep w r A5 A7 A8 A9 A10) (hn : Small r) (h1 : may r = false) :
    Calls Try.prog 38 #[.agg (rc r (.slice A5 r.f5.length c5) (.slice A7 r.f7.length c7) (.slice A8 r.f8.length c8) (.slice A9 r.f9.length c9) (.slice A10 r.f10.length c10))] w fun e w' => ∃ v5 v7 v8 v9 v10 : Value, e = .returned (.tuple #[.agg (rc r v5 v7 v8 v9 v10), .int .i64 1]) ∧ Mem w w' (rows r v5 v7 v8 v9 v10) := by
  have E1 := Aside0.mk h1
  clear h1
  have H := Aside0.mk h
  have HN := Aside0.mk hn
  have M1 := Aside0.mk (((Mem.nil w).alloc #[.int .i64 r.f0, .int .i64 r.f1, .int .i64 r.f2, .int .i64 r.f3, .int .i64 r.f4, .slice A5 r.f5.length c5, .int .i64 r.f6, .slice A7 r.f7.length c7, .slice A8 r.f8.length c8, .slice A9 r.f9.length c9, .slice A10 r.f10.length c10, .int .i64 r.f11, .int .i64 r.f12] 45).allocAt #[.int .i64 0, .int .i64 0, .int .i64 0, .int .i64 0, .int .i64 0, .slice none 0 0, .int .i64 0, .slice none 0 0, .slice none 0 0, .slice none 0 0, .slice none 0 0, .int .i64 0, .int .i64 0] 45 (w.heap.size + 1) (by simp))
  clear h hn
  unfold rc
  go_enter Try.func38, Try.ntmps38
  go_wp2_with fail
  refine (copied_calls r A5 A7 A8 A9 A10 c5 c7 c8 c9 c10 _ (H.out.below M1.out.below) HN.out).mono ?_
  rintro e w2 ⟨v5, v7, v8, v9, v10, rfl, hM⟩
  unfold rc
  obtain ⟨B5, d5, rfl, _, _⟩ := hM.row_at 0 rfl
  obtain ⟨B7, d7, rfl, _, _⟩ := hM.row_at 1 rfl
  obtain ⟨B8, d8, rfl, _, _⟩ := hM.row_at 2 rfl
  obtain ⟨B9, d9, rfl, _, _⟩ := hM.row_at 3 rfl
  obtain ⟨B10, d10, rfl, _, _⟩ := hM.row_at 4 rfl
  have M3 := Aside0.mk (Mem.sel (ps := [_, _, _, _, _, _, _]) (F := []) [5, 6, 0, 1, 2, 3, 4] 7 (M1.out.trans hM) rfl rfl)
  clear hM M1
  have hb0 := blk_lt (M3.out.blk_at 1 rfl)
  have hb1 := blk_lt (M3.out.blk_at 0 rfl)
  have M4 := Aside0.mk (M3.out.allocAt #[.int .i64 r.f0, .int .i64 r.f1, .int .i64 r.f2, .int .i64 r.f3, .int .i64 r.f4, .slice B5 r.f5.length d5, .int .i64 r.f6, .slice B7 r.f7.length d7, .slice B8 r.f8.length d8, .slice B9 r.f9.length d9, .slice B10 r.f10.length d10, .int .i64 r.f11, .int .i64 r.f12, .slice none 0 0] 99 w2.heap.size rfl)
  clear M3
  have cR := blk_cell (M4.out.blk_at 2 rfl)
  go_wp2_with fail
  refine (May_calls r A5 A7 A8 A9 A10 c5 c7 c8 c9 c10 _ (Kd.C_below H.out.h5 M4.out.below) (Kd.C_below H.out.h7 M4.out.below) (Kd.C_below H.out.h8 M4.out.below) (Kd.C_below H.out.h9 M4.out.below) (Kd.C_below H.out.h10 M4.out.below) HN.out).mono ?_
  rintro e w3 ⟨he, hM⟩
  rw [E1.out] at he
  subst he
  have M5 := Aside0.mk (M4.out.trans hM)
  clear hM M4 cR hb0 hb1
  have cR := blk_cell (M5.out.blk_at 2 rfl)
  have cW := blk_cell (M5.out.blk_at 0 rfl)
  have fW := blk_frozen (M5.out.blk_at 0 rfl)
  have cZ := blk_cell (M5.out.blk_at 1 rfl)
  have fZ := blk_frozen (M5.out.blk_at 1 rfl)
  have hbW := blk_lt (M5.out.blk_at 0 rfl)
  have hbZ := blk_lt (M5.out.blk_at 1 rfl)
  go_wp2_with fail
  all_goals
    have MF := (M5.out.setRow 1 rfl [.int .i64 r.f0, .int .i64 r.f1, .int .i64 r.f2, .int .i64 r.f3, .int .i64 r.f4, .slice B5 r.f5.length d5, .int .i64 r.f6, .slice B7 r.f7.length d7, .slice B8 r.f8.length d8, .slice B9 r.f9.length d9, .slice B10 r.f10.length d10, .int .i64 r.f11, .int .i64 r.f12] rfl)
    have hgF := MF.blk_at 1 rfl
    refine bodyPost_ret (results_list (rs := [.cell 2 45, .tmp 3]) rfl (by simp) (.cell (w.heap.size + 1) 45 #[.int .i64 r.f0, .int .i64 r.f1, .int .i64 r.f2, .int .i64 r.f3, .int .i64 r.f4, .slice B5 r.f5.length d5, .int .i64 r.f6, .slice B7 r.f7.length d7, .slice B8 r.f8.length d8, .slice B9 r.f9.length d9, .slice B10 r.f10.length d10, .int .i64 r.f11, .int .i64 r.f12] (0, 0) _ rfl hgF Try.underlying45 rfl (by kernel_rfl) (.tmp .nil))) rfl ?_
    exact ⟨_, _, _, _, _, rfl, Mem.sel (ps := [_, _, _, _, _, _, _, _]) (F := []) [3, 4, 5, 6, 7] 8 MF rfl rfl⟩
set_option maxRecDepth 100000 in
set_option maxHeartbeats 8000000 in
theorem Restart_b (r : Rep) (A5 A7 A8 A9 A10 : Option Addr) (c5 c7 c8 c9 c10 : Nat) (w : World) (h : RdRep w r A5 A7 A8 A9 A10) (hn : Small r) (h1 : may r = true) (h4 : r.f4 = 1) :
    Calls Try.prog 38 #[.agg (rc r (.slice A5 r.f5.length c5) (.slice A7 r.f7.length c7) (.slice A8 r.f8.length c8) (.slice A9 r.f9.length c9) (.slice A10 r.f10.length c10))] w fun e w' => ∃ v5 v7 v8 v9 v10 : Value, e = .returned (.tuple #[.agg (rc (acked { clear r with f8 := [r.f0] }) v5 v7 v8 v9 v10), .int .i64 0]) ∧ Mem w w' (rows (acked { clear r with f8 := [r.f0] }) v5 v7 v8 v9 v10) := by
  have hp := (may_iff r).1 h1
  have hn0 : 0 < r.f1 ∧ r.f1 ≤ 5 := by
    have := hp.1
    unfold size at this
    simp at this
    omega
  have hv : 0 ≤ r.f2 ∧ r.f2 < 1099511627776 := by
    have := hp.2.2.2.1
    unfold below maxTime at this
    simpa using this
  have hi : 0 ≤ r.f0 ∧ r.f0 < r.f1 := ⟨hp.2.1, hp.2.2.1⟩
  have HP := Aside0.mk hp
  clear hp
  obtain ⟨hn1, hn5⟩ := hn0
  obtain ⟨hv1, hv2⟩ := hv
  obtain ⟨hi1, hi2⟩ := hi
  have E1 := Aside0.mk h1
  have e4 : (r.f4 == 1) = true := by simpa using h4
  have H4 := Aside0.mk h4
  clear h1 h4
  have H := Aside0.mk h
  have HN := Aside0.mk hn
  have M1 := Aside0.mk (((Mem.nil w).alloc #[.int .i64 r.f0, .int .i64 r.f1, .int .i64 r.f2, .int .i64 r.f3, .int .i64 r.f4, .slice A5 r.f5.length c5, .int .i64 r.f6, .slice A7 r.f7.length c7, .slice A8 r.f8.length c8, .slice A9 r.f9.length c9, .slice A10 r.f10.length c10, .int .i64 r.f11, .int .i64 r.f12] 45).allocAt #[.int .i64 0, .int .i64 0, .int .i64 0, .int .i64 0, .int .i64 0, .slice none 0 0, .int .i64 0, .slice none 0 0, .slice none 0 0, .slice none 0 0, .slice none 0 0, .int .i64 0, .int .i64 0] 45 (w.heap.size + 1) (by simp))
  clear h hn
  unfold rc
  go_enter Try.func38, Try.ntmps38
  go_wp2_with fail
  refine (copied_calls r A5 A7 A8 A9 A10 c5 c7 c8 c9 c10 _ (H.out.below M1.out.below) HN.out).mono ?_
  rintro e w2 ⟨v5, v7, v8, v9, v10, rfl, hM⟩
  unfold rc
  obtain ⟨B5, d5, rfl, _, _⟩ := hM.row_at 0 rfl
  obtain ⟨B7, d7, rfl, _, _⟩ := hM.row_at 1 rfl
  obtain ⟨B8, d8, rfl, _, _⟩ := hM.row_at 2 rfl
  obtain ⟨B9, d9, rfl, _, _⟩ := hM.row_at 3 rfl
  obtain ⟨B10, d10, rfl, _, _⟩ := hM.row_at 4 rfl
  have M3 := Aside0.mk (Mem.sel (ps := [_, _, _, _, _, _, _]) (F := []) [5, 6, 0, 1, 2, 3, 4] 7 (M1.out.trans hM) rfl rfl)
  clear hM M1
  have hb0 := blk_lt (M3.out.blk_at 1 rfl)
  have hb1 := blk_lt (M3.out.blk_at 0 rfl)
  have M4 := Aside0.mk (M3.out.allocAt #[.int .i64 r.f0, .int .i64 r.f1, .int .i64 r.f2, .int .i64 r.f3, .int .i64 r.f4, .slice B5 r.f5.length d5, .int .i64 r.f6, .slice B7 r.f7.length d7, .slice B8 r.f8.length d8, .slice B9 r.f9.length d9, .slice B10 r.f10.length d10, .int .i64 r.f11, .int .i64 r.f12, .slice none 0 0] 99 w2.heap.size rfl)
  clear M3
  have cR := blk_cell (M4.out.blk_at 2 rfl)
  go_wp2_with fail
  refine (May_calls r A5 A7 A8 A9 A10 c5 c7 c8 c9 c10 _ (Kd.C_below H.out.h5 M4.out.below) (Kd.C_below H.out.h7 M4.out.below) (Kd.C_below H.out.h8 M4.out.below) (Kd.C_below H.out.h9 M4.out.below) (Kd.C_below H.out.h10 M4.out.below) HN.out).mono ?_
  rintro e w3 ⟨he, hM⟩
  rw [E1.out] at he
  subst he
  have M5 := Aside0.mk (M4.out.trans hM)
  clear hM M4 cR hb0 hb1
  have cR := blk_cell (M5.out.blk_at 2 rfl)
  have cW := blk_cell (M5.out.blk_at 0 rfl)
  have fW := blk_frozen (M5.out.blk_at 0 rfl)
  have cZ := blk_cell (M5.out.blk_at 1 rfl)
  have fZ := blk_frozen (M5.out.blk_at 1 rfl)
  have hbW := blk_lt (M5.out.blk_at 0 rfl)
  have hbZ := blk_lt (M5.out.blk_at 1 rfl)
  go_wp2_with fail
  refine (clear_calls w _ _ w2.heap.size r.f0 r.f1 r.f2 r.f3 r.f4 _ r.f6 _ _ _ _ r.f11 r.f12 (.slice none 0 0) M5.out).mono ?_
  rintro e w4 ⟨rfl, hM⟩
  have M6 := Aside0.mk hM
  clear hM M5 cR cW fW cZ fZ hbW hbZ
  have cR := blk_cell (M6.out.blk_at 2 rfl)
  have cW := blk_cell (M6.out.blk_at 0 rfl)
  have fW := blk_frozen (M6.out.blk_at 0 rfl)
  have hbW := blk_lt (M6.out.blk_at 0 rfl)
  unfold Wa.wc at cW
  go_wp2_with fail
  have M7 := Aside0.mk (Mem.sel (ps := [_, _, _, _, _, _, _, _, _]) (F := []) [1, 0, 2, 3, 4, 5, 6, 7, 8] 9 (((M6.out.set 0 rfl 8 (.slice (some ⟨w4.heap.size, 0, none⟩) 1 1)).allocAt #[.int .i64 r.f0] 3 w4.heap.size (by simp)).lit 0 (Kd.int .i64) [r.f0] rfl (reps_int_one _) (by simp)) rfl rfl)
  refine (acked_calls w _ _ w2.heap.size r.f0 r.f1 r.f2 r.f3 r.f4 _ _ _ r.f6 _ (.slice (some ⟨w4.heap.size, 0, none⟩) 1 1) (.slice none 0 0) (.slice none 0 0) (-1) 0 (.slice none 0 0) M7.out hi1 hi2 hn5).mono ?_
  rintro e w5 ⟨v7, rfl, hM⟩
  obtain ⟨C7, e7, rfl, _, _⟩ := hM.row_at 1 rfl
  obtain ⟨q7, hq7⟩ : ∃ q7, ((List.replicate r.f1.toNat (0 : Int)).set r.f0.toNat (r.f5.length : Int)).length = q7 := ⟨_, rfl⟩
  rw [hq7] at hM
  have M8 := Aside0.mk hM
  clear hM hq7 M6 M7 cR cW fW hbW
  have cW := blk_cell (M8.out.blk_at 0 rfl)
  have cZ := blk_cell (M8.out.blk_at 3 rfl)
  have fZ := blk_frozen (M8.out.blk_at 3 rfl)
  have hbZ := blk_lt (M8.out.blk_at 3 rfl)
  have nWZ := Wh0.blk_ne M8.out 0 3 rfl rfl (by decide)
  unfold Wa.wc at cW
  go_wp2_with fail
  all_goals
    have MF := (M8.out.setRow 3 rfl [.int .i64 r.f0, .int .i64 r.f1, .int .i64 r.f2, .int .i64 r.f3, .int .i64 r.f4, .slice B5 r.f5.length d5, .int .i64 r.f6, .slice C7 q7 e7, .slice (some ⟨w4.heap.size, 0, none⟩) 1 1, .slice none 0 0, .slice none 0 0, .int .i64 (-1), .int .i64 0] rfl)
    have hgF := MF.blk_at 3 rfl
    refine bodyPost_ret (results_list (rs := [.cell 2 45, .tmp 3]) rfl (by simp) (.cell (w.heap.size + 1) 45 #[.int .i64 r.f0, .int .i64 r.f1, .int .i64 r.f2, .int .i64 r.f3, .int .i64 r.f4, .slice B5 r.f5.length d5, .int .i64 r.f6, .slice C7 q7 e7, .slice (some ⟨w4.heap.size, 0, none⟩) 1 1, .slice none 0 0, .slice none 0 0, .int .i64 (-1), .int .i64 0] (0, 0) _ rfl hgF Try.underlying45 rfl (by kernel_rfl) (.tmp .nil))) rfl ?_
    have MH := Mem.row_nil (Mem.row_nil MF (Kd.int .i64) 3) kE 102
    exact ⟨_, _, _, _, _, rfl, Mem.sel (ps := [_, _, _, _, _, _, _, _, _, _, _, _]) (F := []) [7, 3, 4, 1, 0] 12 MH rfl rfl⟩
set_option maxRecDepth 100000 in
set_option maxHeartbeats 8000000 in
theorem Restart_c (r : Rep) (A5 A7 A8 A9 A10 : Option Addr) (c5 c7 c8 c9 c10 : Nat) (w : World) (h : RdRep w r A5 A7 A8 A9 A10) (hn : Small r) (h1 : may r = true) (h4 : ¬ r.f4 = 1) :
    Calls Try.prog 38 #[.agg (rc r (.slice A5 r.f5.length c5) (.slice A7 r.f7.length c7) (.slice A8 r.f8.length c8) (.slice A9 r.f9.length c9) (.slice A10 r.f10.length c10))] w fun e w' => ∃ v5 v7 v8 v9 v10 : Value, e = .returned (.tuple #[.agg (rc (acked (clear r)) v5 v7 v8 v9 v10), .int .i64 0]) ∧ Mem w w' (rows (acked (clear r)) v5 v7 v8 v9 v10) := by
  have hp := (may_iff r).1 h1
  have hn0 : 0 < r.f1 ∧ r.f1 ≤ 5 := by
    have := hp.1
    unfold size at this
    simp at this
    omega
  have hv : 0 ≤ r.f2 ∧ r.f2 < 1099511627776 := by
    have := hp.2.2.2.1
    unfold below maxTime at this
    simpa using this
  have hi : 0 ≤ r.f0 ∧ r.f0 < r.f1 := ⟨hp.2.1, hp.2.2.1⟩
  have HP := Aside0.mk hp
  clear hp
  obtain ⟨hn1, hn5⟩ := hn0
  obtain ⟨hv1, hv2⟩ := hv
  obtain ⟨hi1, hi2⟩ := hi
  have E1 := Aside0.mk h1
  have e4 : (r.f4 == 1) = false := by simpa using h4
  have H4 := Aside0.mk h4
  clear h1 h4
  have H := Aside0.mk h
  have HN := Aside0.mk hn
  have M1 := Aside0.mk (((Mem.nil w).alloc #[.int .i64 r.f0, .int .i64 r.f1, .int .i64 r.f2, .int .i64 r.f3, .int .i64 r.f4, .slice A5 r.f5.length c5, .int .i64 r.f6, .slice A7 r.f7.length c7, .slice A8 r.f8.length c8, .slice A9 r.f9.length c9, .slice A10 r.f10.length c10, .int .i64 r.f11, .int .i64 r.f12] 45).allocAt #[.int .i64 0, .int .i64 0, .int .i64 0, .int .i64 0, .int .i64 0, .slice none 0 0, .int .i64 0, .slice none 0 0, .slice none 0 0, .slice none 0 0, .slice none 0 0, .int .i64 0, .int .i64 0] 45 (w.heap.size + 1) (by simp))
  clear h hn
  unfold rc
  go_enter Try.func38, Try.ntmps38
  go_wp2_with fail
  refine (copied_calls r A5 A7 A8 A9 A10 c5 c7 c8 c9 c10 _ (H.out.below M1.out.below) HN.out).mono ?_
  rintro e w2 ⟨v5, v7, v8, v9, v10, rfl, hM⟩
  unfold rc
  obtain ⟨B5, d5, rfl, _, _⟩ := hM.row_at 0 rfl
  obtain ⟨B7, d7, rfl, _, _⟩ := hM.row_at 1 rfl
  obtain ⟨B8, d8, rfl, _, _⟩ := hM.row_at 2 rfl
  obtain ⟨B9, d9, rfl, _, _⟩ := hM.row_at 3 rfl
  obtain ⟨B10, d10, rfl, _, _⟩ := hM.row_at 4 rfl
  have M3 := Aside0.mk (Mem.sel (ps := [_, _, _, _, _, _, _]) (F := []) [5, 6, 0, 1, 2, 3, 4] 7 (M1.out.trans hM) rfl rfl)
  clear hM M1
  have hb0 := blk_lt (M3.out.blk_at 1 rfl)
  have hb1 := blk_lt (M3.out.blk_at 0 rfl)
  have M4 := Aside0.mk (M3.out.allocAt #[.int .i64 r.f0, .int .i64 r.f1, .int .i64 r.f2, .int .i64 r.f3, .int .i64 r.f4, .slice B5 r.f5.length d5, .int .i64 r.f6, .slice B7 r.f7.length d7, .slice B8 r.f8.length d8, .slice B9 r.f9.length d9, .slice B10 r.f10.length d10, .int .i64 r.f11, .int .i64 r.f12, .slice none 0 0] 99 w2.heap.size rfl)
  clear M3
  have cR := blk_cell (M4.out.blk_at 2 rfl)
  go_wp2_with fail
  refine (May_calls r A5 A7 A8 A9 A10 c5 c7 c8 c9 c10 _ (Kd.C_below H.out.h5 M4.out.below) (Kd.C_below H.out.h7 M4.out.below) (Kd.C_below H.out.h8 M4.out.below) (Kd.C_below H.out.h9 M4.out.below) (Kd.C_below H.out.h10 M4.out.below) HN.out).mono ?_
  rintro e w3 ⟨he, hM⟩
  rw [E1.out] at he
  subst he
  have M5 := Aside0.mk (M4.out.trans hM)
  clear hM M4 cR hb0 hb1
  have cR := blk_cell (M5.out.blk_at 2 rfl)
  have cW := blk_cell (M5.out.blk_at 0 rfl)
  have fW := blk_frozen (M5.out.blk_at 0 rfl)
  have cZ := blk_cell (M5.out.blk_at 1 rfl)
  have fZ := blk_frozen (M5.out.blk_at 1 rfl)
  have hbW := blk_lt (M5.out.blk_at 0 rfl)
  have hbZ := blk_lt (M5.out.blk_at 1 rfl)
  go_wp2_with fail
  refine (clear_calls w _ _ w2.heap.size r.f0 r.f1 r.f2 r.f3 r.f4 _ r.f6 _ _ _ _ r.f11 r.f12 (.slice none 0 0) M5.out).mono ?_
  rintro e w4 ⟨rfl, hM⟩
  have M6 := Aside0.mk hM
  clear hM M5 cR cW fW cZ fZ hbW hbZ
  have cR := blk_cell (M6.out.blk_at 2 rfl)
  have cW := blk_cell (M6.out.blk_at 0 rfl)
  have fW := blk_frozen (M6.out.blk_at 0 rfl)
  have hbW := blk_lt (M6.out.blk_at 0 rfl)
  unfold Wa.wc at cW
  go_wp2_with fail
  have M7 := M6
  refine (acked_calls w _ _ w2.heap.size r.f0 r.f1 r.f2 r.f3 r.f4 _ _ _ r.f6 _ (.slice none 0 0) (.slice none 0 0) (.slice none 0 0) (-1) 0 (.slice none 0 0) M7.out hi1 hi2 hn5).mono ?_
  rintro e w5 ⟨v7, rfl, hM⟩
  obtain ⟨C7, e7, rfl, _, _⟩ := hM.row_at 1 rfl
  obtain ⟨q7, hq7⟩ : ∃ q7, ((List.replicate r.f1.toNat (0 : Int)).set r.f0.toNat (r.f5.length : Int)).length = q7 := ⟨_, rfl⟩
  rw [hq7] at hM
  have M8 := Aside0.mk hM
  clear hM hq7 M6 M7 cR cW fW hbW
  have cW := blk_cell (M8.out.blk_at 0 rfl)
  have cZ := blk_cell (M8.out.blk_at 2 rfl)
  have fZ := blk_frozen (M8.out.blk_at 2 rfl)
  have hbZ := blk_lt (M8.out.blk_at 2 rfl)
  have nWZ := Wh0.blk_ne M8.out 0 2 rfl rfl (by decide)
  unfold Wa.wc at cW
  go_wp2_with fail
  all_goals
    have MF := (M8.out.setRow 2 rfl [.int .i64 r.f0, .int .i64 r.f1, .int .i64 r.f2, .int .i64 r.f3, .int .i64 r.f4, .slice B5 r.f5.length d5, .int .i64 r.f6, .slice C7 q7 e7, .slice none 0 0, .slice none 0 0, .slice none 0 0, .int .i64 (-1), .int .i64 0] rfl)
    have hgF := MF.blk_at 2 rfl
    refine bodyPost_ret (results_list (rs := [.cell 2 45, .tmp 3]) rfl (by simp) (.cell (w.heap.size + 1) 45 #[.int .i64 r.f0, .int .i64 r.f1, .int .i64 r.f2, .int .i64 r.f3, .int .i64 r.f4, .slice B5 r.f5.length d5, .int .i64 r.f6, .slice C7 q7 e7, .slice none 0 0, .slice none 0 0, .slice none 0 0, .int .i64 (-1), .int .i64 0] (0, 0) _ rfl hgF Try.underlying45 rfl (by kernel_rfl) (.tmp .nil))) rfl ?_
    have MH := Mem.row_nil (Mem.row_nil (Mem.row_nil MF (Kd.int .i64) 3) (Kd.int .i64) 3) kE 102
    exact ⟨_, _, _, _, _, rfl, Mem.sel (ps := [_, _, _, _, _, _, _, _, _, _, _, _]) (F := []) [7, 4, 2, 1, 0] 12 MH rfl rfl⟩
set_option maxRecDepth 100000 in
set_option maxHeartbeats 8000000 in
theorem Restart11_e1 (r : Rep) (A5 A7 A8 A9 A10 : Option Addr) (c5 c7 c8 c9 c10 : Nat) (w : World) (h : RdRep w r A5 A7 A8 A9 A10) (hc : Fit r c5 c7 c8 c9 c10) (hs : r.f5.length ≤ 1200 ∧ r.f7.length ≤ 20 ∧ r.f8.length ≤ 20 ∧ r.f9.length ≤ 20 ∧ r.f10.length ≤ 1200) (h1 : may r = false) :
    Calls Try.prog 39 #[.agg #[.int .i64 r.f0, .int .i64 r.f1, .int .i64 r.f2, .int .i64 r.f3, .int .i64 r.f4, .slice A5 r.f5.length c5, .int .i64 r.f6, .slice A7 r.f7.length c7, .slice A8 r.f8.length c8, .slice A9 r.f9.length c9, .slice A10 r.f10.length c10, .int .i64 r.f11, .int .i64 r.f12]] w fun e w' => OutR w w' e r 1 := by
  have E1 := Aside0.mk h1
  clear h1
  have H := Aside0.mk h
  have HC := Aside0.mk hc
  have HS := Aside0.mk hs
  have M1 := Aside0.mk (((Mem.nil w).alloc #[.int .i64 r.f0, .int .i64 r.f1, .int .i64 r.f2, .int .i64 r.f3, .int .i64 r.f4, .slice A5 r.f5.length c5, .int .i64 r.f6, .slice A7 r.f7.length c7, .slice A8 r.f8.length c8, .slice A9 r.f9.length c9, .slice A10 r.f10.length c10, .int .i64 r.f11, .int .i64 r.f12] 45).allocAt #[.int .i64 0, .int .i64 0, .int .i64 0, .int .i64 0, .int .i64 0, .slice none 0 0, .int .i64 0, .slice none 0 0, .slice none 0 0, .slice none 0 0, .slice none 0 0, .int .i64 0, .int .i64 0] 45 (w.heap.size + 1) (by simp))
  clear h hc hs
  go_enter Try.func39, Try.ntmps39
  go_wp2_with fail
  refine (May11_calls r A5 A7 A8 A9 A10 c5 c7 c8 c9 c10 _ (H.out.below M1.out.below) HC.out HS.out).mono ?_
  rintro e w1 ⟨he, hb⟩
  rw [E1.out] at he
  subst he
  have M2 := Aside0.mk (M1.out.grow hb)
  clear hb M1
  have cB := blk_cell (M2.out.blk_at 1 rfl)
  have cZ := blk_cell (M2.out.blk_at 0 rfl)
  have fZ := blk_frozen (M2.out.blk_at 0 rfl)
  go_wp2_with fail
  all_goals
    have MF := (M2.out.setRow 0 rfl [.int .i64 r.f0, .int .i64 r.f1, .int .i64 r.f2, .int .i64 r.f3, .int .i64 r.f4, .slice A5 r.f5.length c5, .int .i64 r.f6, .slice A7 r.f7.length c7, .slice A8 r.f8.length c8, .slice A9 r.f9.length c9, .slice A10 r.f10.length c10, .int .i64 r.f11, .int .i64 r.f12] rfl)
    have hgF := MF.blk_at 0 rfl
    refine bodyPost_ret (results_list (rs := [.cell 2 45, .tmp 3]) rfl (by simp) (.cell (w.heap.size + 1) 45 #[.int .i64 r.f0, .int .i64 r.f1, .int .i64 r.f2, .int .i64 r.f3, .int .i64 r.f4, .slice A5 r.f5.length c5, .int .i64 r.f6, .slice A7 r.f7.length c7, .slice A8 r.f8.length c8, .slice A9 r.f9.length c9, .slice A10 r.f10.length c10, .int .i64 r.f11, .int .i64 r.f12] (0, 0) _ rfl hgF Try.underlying45 rfl (by kernel_rfl) (.tmp .nil))) rfl ?_
    exact ⟨A5, A7, A8, A9, A10, c5, c7, c8, c9, c10, rfl, H.out.below MF.below, HC.out, MF.below⟩
set_option maxRecDepth 100000 in
set_option maxHeartbeats 8000000 in
theorem Restart11_b (r : Rep) (A5 A7 A8 A9 A10 : Option Addr) (c5 c7 c8 c9 c10 : Nat) (w : World) (h : RdRep w r A5 A7 A8 A9 A10) (hc : Fit r c5 c7 c8 c9 c10) (hs : r.f5.length ≤ 1200 ∧ r.f7.length ≤ 20 ∧ r.f8.length ≤ 20 ∧ r.f9.length ≤ 20 ∧ r.f10.length ≤ 1200) (h1 : may r = true) (h4 : r.f4 = 1) :
    Calls Try.prog 39 #[.agg #[.int .i64 r.f0, .int .i64 r.f1, .int .i64 r.f2, .int .i64 r.f3, .int .i64 r.f4, .slice A5 r.f5.length c5, .int .i64 r.f6, .slice A7 r.f7.length c7, .slice A8 r.f8.length c8, .slice A9 r.f9.length c9, .slice A10 r.f10.length c10, .int .i64 r.f11, .int .i64 r.f12]] w fun e w' => OutR w w' e (acked { clear r with f8 := [r.f0] }) 0 := by
  have hp := (may_iff r).1 h1
  have hn0 : 0 < r.f1 ∧ r.f1 ≤ 5 := by
    have := hp.1
    unfold size at this
    simp at this
    omega
  have hv : 0 ≤ r.f2 ∧ r.f2 < 1099511627776 := by
    have := hp.2.2.2.1
    unfold below maxTime at this
    simpa using this
  have hi : 0 ≤ r.f0 ∧ r.f0 < r.f1 := ⟨hp.2.1, hp.2.2.1⟩
  have HP := Aside0.mk hp
  clear hp
  obtain ⟨hn1, hn5⟩ := hn0
  obtain ⟨hv1, hv2⟩ := hv
  obtain ⟨hi1, hi2⟩ := hi
  have E1 := Aside0.mk h1
  have e4 : (r.f4 == 1) = true := by simpa using h4
  have H4 := Aside0.mk h4
  clear h1 h4
  have H := Aside0.mk h
  have HC := Aside0.mk hc
  have HS := Aside0.mk hs
  have M1 := Aside0.mk (((Mem.nil w).alloc #[.int .i64 r.f0, .int .i64 r.f1, .int .i64 r.f2, .int .i64 r.f3, .int .i64 r.f4, .slice A5 r.f5.length c5, .int .i64 r.f6, .slice A7 r.f7.length c7, .slice A8 r.f8.length c8, .slice A9 r.f9.length c9, .slice A10 r.f10.length c10, .int .i64 r.f11, .int .i64 r.f12] 45).allocAt #[.int .i64 0, .int .i64 0, .int .i64 0, .int .i64 0, .int .i64 0, .slice none 0 0, .int .i64 0, .slice none 0 0, .slice none 0 0, .slice none 0 0, .slice none 0 0, .int .i64 0, .int .i64 0] 45 (w.heap.size + 1) (by simp))
  clear h hc hs
  go_enter Try.func39, Try.ntmps39
  go_wp2_with fail
  refine (May11_calls r A5 A7 A8 A9 A10 c5 c7 c8 c9 c10 _ (H.out.below M1.out.below) HC.out HS.out).mono ?_
  rintro e w1 ⟨he, hb⟩
  rw [E1.out] at he
  subst he
  have M2 := Aside0.mk (M1.out.grow hb)
  clear hb M1
  have cB := blk_cell (M2.out.blk_at 1 rfl)
  have cZ := blk_cell (M2.out.blk_at 0 rfl)
  have fZ := blk_frozen (M2.out.blk_at 0 rfl)
  go_wp2_with fail
  refine (Copy11_calls r A5 A7 A8 A9 A10 c5 c7 c8 c9 c10 _ (H.out.below M2.out.below) ⟨Nat.le_trans HS.out.1 (by decide), Nat.le_trans HS.out.2.1 (by decide), Nat.le_trans HS.out.2.2.1 (by decide), Nat.le_trans HS.out.2.2.2.1 (by decide), Nat.le_trans HS.out.2.2.2.2 (by decide)⟩).mono ?_
  rintro e w2 ⟨v5, v7, v8, v9, v10, rfl, hM⟩
  unfold rc
  obtain ⟨B5, d5, rfl, _, _⟩ := hM.row_at 0 rfl
  obtain ⟨B7, d7, rfl, _, _⟩ := hM.row_at 1 rfl
  obtain ⟨B8, d8, rfl, _, _⟩ := hM.row_at 2 rfl
  obtain ⟨B9, d9, rfl, _, _⟩ := hM.row_at 3 rfl
  obtain ⟨B10, d10, rfl, _, _⟩ := hM.row_at 4 rfl
  have M3 := Aside0.mk (M2.out.trans hM)
  clear hM M2 cB cZ fZ
  have M4 := Aside0.mk (M3.out.allocAt #[.int .i64 r.f0, .int .i64 r.f1, .int .i64 r.f2, .int .i64 r.f3, .int .i64 r.f4, .slice B5 r.f5.length d5, .int .i64 r.f6, .slice B7 r.f7.length d7, .slice B8 r.f8.length d8, .slice B9 r.f9.length d9, .slice B10 r.f10.length d10, .int .i64 r.f11, .int .i64 r.f12] 45 w2.heap.size rfl)
  go_wp2_with fail
  refine (clear11_calls w _ _ w2.heap.size r.f0 r.f1 r.f2 r.f3 r.f4 _ r.f6 _ _ _ _ r.f11 r.f12 M4.out).mono ?_
  rintro e w4 ⟨rfl, hM⟩
  have M6 := Aside0.mk hM
  clear hM M4 M3
  have cW := blk_cell (M6.out.blk_at 0 rfl)
  have fW := blk_frozen (M6.out.blk_at 0 rfl)
  have hbW := blk_lt (M6.out.blk_at 0 rfl)
  unfold qc at cW
  go_wp2_with fail
  have M7 := Aside0.mk (Mem.sel (ps := [_, _, _, _, _, _, _, _, _]) (F := []) [1, 0, 2, 3, 4, 5, 6, 7, 8] 9 (((M6.out.set 0 rfl 8 (.slice (some ⟨w4.heap.size, 0, none⟩) 1 1)).allocAt #[.int .i64 r.f0] 3 w4.heap.size (by simp)).lit 0 (Kd.int .i64) [r.f0] rfl (reps_int_one _) (by simp)) rfl rfl)
  refine (acked11_calls w _ _ w2.heap.size r.f0 r.f1 r.f2 r.f3 r.f4 _ _ _ r.f6 _ (.slice (some ⟨w4.heap.size, 0, none⟩) 1 1) (.slice none 0 0) (.slice none 0 0) (-1) 0 M7.out hi1 hi2 hn5).mono ?_
  rintro e w5 ⟨v7, rfl, hM⟩
  obtain ⟨C7, e7, rfl, _, _⟩ := hM.row_at 1 rfl
  obtain ⟨q7, hq7⟩ : ∃ q7, ((List.replicate r.f1.toNat (0 : Int)).set r.f0.toNat (r.f5.length : Int)).length = q7 := ⟨_, rfl⟩
  rw [hq7] at hM
  have M8 := Aside0.mk hM
  clear hM hq7 M6 M7 cW fW hbW
  have cW := blk_cell (M8.out.blk_at 0 rfl)
  have cZ := blk_cell (M8.out.blk_at 8 rfl)
  have fZ := blk_frozen (M8.out.blk_at 8 rfl)
  have hbZ := blk_lt (M8.out.blk_at 8 rfl)
  have nWZ := Wh0.blk_ne M8.out 0 8 rfl rfl (by decide)
  unfold qc at cW
  go_wp2_with fail
  all_goals
    have MF := (M8.out.setRow 8 rfl [.int .i64 r.f0, .int .i64 r.f1, .int .i64 r.f2, .int .i64 r.f3, .int .i64 r.f4, .slice B5 r.f5.length d5, .int .i64 r.f6, .slice C7 q7 e7, .slice (some ⟨w4.heap.size, 0, none⟩) 1 1, .slice none 0 0, .slice none 0 0, .int .i64 (-1), .int .i64 0] rfl)
    have hgF := MF.blk_at 8 rfl
    refine bodyPost_ret (results_list (rs := [.cell 2 45, .tmp 3]) rfl (by simp) (.cell (w.heap.size + 1) 45 #[.int .i64 r.f0, .int .i64 r.f1, .int .i64 r.f2, .int .i64 r.f3, .int .i64 r.f4, .slice B5 r.f5.length d5, .int .i64 r.f6, .slice C7 q7 e7, .slice (some ⟨w4.heap.size, 0, none⟩) 1 1, .slice none 0 0, .slice none 0 0, .int .i64 (-1), .int .i64 0] (0, 0) _ rfl hgF Try.underlying45 rfl (by kernel_rfl) (.tmp .nil))) rfl ?_
    have MH := Mem.row_nil (Mem.row_nil MF (Kd.int .i64) 3) kE 102
    exact OutR_of (s := (acked { clear r with f8 := [r.f0] })) (Mem.sel (ps := [_, _, _, _, _, _, _, _, _, _, _, _]) (F := []) [5, 3, 4, 1, 0] 12 MH rfl rfl)
set_option maxRecDepth 100000 in
set_option maxHeartbeats 8000000 in
theorem Restart11_c (r : Rep) (A5 A7 A8 A9 A10 : Option Addr) (c5 c7 c8 c9 c10 : Nat) (w : World) (h : RdRep w r A5 A7 A8 A9 A10) (hc : Fit r c5 c7 c8 c9 c10) (hs : r.f5.length ≤ 1200 ∧ r.f7.length ≤ 20 ∧ r.f8.length ≤ 20 ∧ r.f9.length ≤ 20 ∧ r.f10.length ≤ 1200) (h1 : may r = true) (h4 : ¬ r.f4 = 1) :
    Calls Try.prog 39 #[.agg #[.int .i64 r.f0, .int .i64 r.f1, .int .i64 r.f2, .int .i64 r.f3, .int .i64 r.f4, .slice A5 r.f5.length c5, .int .i64 r.f6, .slice A7 r.f7.length c7, .slice A8 r.f8.length c8, .slice A9 r.f9.length c9, .slice A10 r.f10.length c10, .int .i64 r.f11, .int .i64 r.f12]] w fun e w' => OutR w w' e (acked (clear r)) 0 := by
  have hp := (may_iff r).1 h1
  have hn0 : 0 < r.f1 ∧ r.f1 ≤ 5 := by
    have := hp.1
    unfold size at this
    simp at this
    omega
  have hv : 0 ≤ r.f2 ∧ r.f2 < 1099511627776 := by
    have := hp.2.2.2.1
    unfold below maxTime at this
    simpa using this
  have hi : 0 ≤ r.f0 ∧ r.f0 < r.f1 := ⟨hp.2.1, hp.2.2.1⟩
  have HP := Aside0.mk hp
  clear hp
  obtain ⟨hn1, hn5⟩ := hn0
  obtain ⟨hv1, hv2⟩ := hv
  obtain ⟨hi1, hi2⟩ := hi
  have E1 := Aside0.mk h1
  have e4 : (r.f4 == 1) = false := by simpa using h4
  have H4 := Aside0.mk h4
  clear h1 h4
  have H := Aside0.mk h
  have HC := Aside0.mk hc
  have HS := Aside0.mk hs
  have M1 := Aside0.mk (((Mem.nil w).alloc #[.int .i64 r.f0, .int .i64 r.f1, .int .i64 r.f2, .int .i64 r.f3, .int .i64 r.f4, .slice A5 r.f5.length c5, .int .i64 r.f6, .slice A7 r.f7.length c7, .slice A8 r.f8.length c8, .slice A9 r.f9.length c9, .slice A10 r.f10.length c10, .int .i64 r.f11, .int .i64 r.f12] 45).allocAt #[.int .i64 0, .int .i64 0, .int .i64 0, .int .i64 0, .int .i64 0, .slice none 0 0, .int .i64 0, .slice none 0 0, .slice none 0 0, .slice none 0 0, .slice none 0 0, .int .i64 0, .int .i64 0] 45 (w.heap.size + 1) (by simp))
  clear h hc hs
  go_enter Try.func39, Try.ntmps39
  go_wp2_with fail
  refine (May11_calls r A5 A7 A8 A9 A10 c5 c7 c8 c9 c10 _ (H.out.below M1.out.below) HC.out HS.out).mono ?_
  rintro e w1 ⟨he, hb⟩
  rw [E1.out] at he
  subst he
  have M2 := Aside0.mk (M1.out.grow hb)
  clear hb M1
  have cB := blk_cell (M2.out.blk_at 1 rfl)
  have cZ := blk_cell (M2.out.blk_at 0 rfl)
  have fZ := blk_frozen (M2.out.blk_at 0 rfl)
  go_wp2_with fail
  refine (Copy11_calls r A5 A7 A8 A9 A10 c5 c7 c8 c9 c10 _ (H.out.below M2.out.below) ⟨Nat.le_trans HS.out.1 (by decide), Nat.le_trans HS.out.2.1 (by decide), Nat.le_trans HS.out.2.2.1 (by decide), Nat.le_trans HS.out.2.2.2.1 (by decide), Nat.le_trans HS.out.2.2.2.2 (by decide)⟩).mono ?_
  rintro e w2 ⟨v5, v7, v8, v9, v10, rfl, hM⟩
  unfold rc
  obtain ⟨B5, d5, rfl, _, _⟩ := hM.row_at 0 rfl
  obtain ⟨B7, d7, rfl, _, _⟩ := hM.row_at 1 rfl
  obtain ⟨B8, d8, rfl, _, _⟩ := hM.row_at 2 rfl
  obtain ⟨B9, d9, rfl, _, _⟩ := hM.row_at 3 rfl
  obtain ⟨B10, d10, rfl, _, _⟩ := hM.row_at 4 rfl
  have M3 := Aside0.mk (M2.out.trans hM)
  clear hM M2 cB cZ fZ
  have M4 := Aside0.mk (M3.out.allocAt #[.int .i64 r.f0, .int .i64 r.f1, .int .i64 r.f2, .int .i64 r.f3, .int .i64 r.f4, .slice B5 r.f5.length d5, .int .i64 r.f6, .slice B7 r.f7.length d7, .slice B8 r.f8.length d8, .slice B9 r.f9.length d9, .slice B10 r.f10.length d10, .int .i64 r.f11, .int .i64 r.f12] 45 w2.heap.size rfl)
  go_wp2_with fail
  refine (clear11_calls w _ _ w2.heap.size r.f0 r.f1 r.f2 r.f3 r.f4 _ r.f6 _ _ _ _ r.f11 r.f12 M4.out).mono ?_
  rintro e w4 ⟨rfl, hM⟩
  have M6 := Aside0.mk hM
  clear hM M4 M3
  have cW := blk_cell (M6.out.blk_at 0 rfl)
  have fW := blk_frozen (M6.out.blk_at 0 rfl)
  have hbW := blk_lt (M6.out.blk_at 0 rfl)
  unfold qc at cW
  go_wp2_with fail
  have M7 := M6
  refine (acked11_calls w _ _ w2.heap.size r.f0 r.f1 r.f2 r.f3 r.f4 _ _ _ r.f6 _ (.slice none 0 0) (.slice none 0 0) (.slice none 0 0) (-1) 0 M7.out hi1 hi2 hn5).mono ?_
  rintro e w5 ⟨v7, rfl, hM⟩
  obtain ⟨C7, e7, rfl, _, _⟩ := hM.row_at 1 rfl
  obtain ⟨q7, hq7⟩ : ∃ q7, ((List.replicate r.f1.toNat (0 : Int)).set r.f0.toNat (r.f5.length : Int)).length = q7 := ⟨_, rfl⟩
  rw [hq7] at hM
  have M8 := Aside0.mk hM
  clear hM hq7 M6 M7 cW fW hbW
  have cW := blk_cell (M8.out.blk_at 0 rfl)
  have cZ := blk_cell (M8.out.blk_at 7 rfl)
  have fZ := blk_frozen (M8.out.blk_at 7 rfl)
  have hbZ := blk_lt (M8.out.blk_at 7 rfl)
  have nWZ := Wh0.blk_ne M8.out 0 7 rfl rfl (by decide)
  unfold qc at cW
  go_wp2_with fail
  all_goals
    have MF := (M8.out.setRow 7 rfl [.int .i64 r.f0, .int .i64 r.f1, .int .i64 r.f2, .int .i64 r.f3, .int .i64 r.f4, .slice B5 r.f5.length d5, .int .i64 r.f6, .slice C7 q7 e7, .slice none 0 0, .slice none 0 0, .slice none 0 0, .int .i64 (-1), .int .i64 0] rfl)
    have hgF := MF.blk_at 7 rfl
    refine bodyPost_ret (results_list (rs := [.cell 2 45, .tmp 3]) rfl (by simp) (.cell (w.heap.size + 1) 45 #[.int .i64 r.f0, .int .i64 r.f1, .int .i64 r.f2, .int .i64 r.f3, .int .i64 r.f4, .slice B5 r.f5.length d5, .int .i64 r.f6, .slice C7 q7 e7, .slice none 0 0, .slice none 0 0, .slice none 0 0, .int .i64 (-1), .int .i64 0] (0, 0) _ rfl hgF Try.underlying45 rfl (by kernel_rfl) (.tmp .nil))) rfl ?_
    have MH := Mem.row_nil (Mem.row_nil (Mem.row_nil MF (Kd.int .i64) 3) (Kd.int .i64) 3) kE 102
    exact OutR_of (s := (acked (clear r))) (Mem.sel (ps := [_, _, _, _, _, _, _, _, _, _, _, _]) (F := []) [5, 4, 2, 1, 0] 12 MH rfl rfl)
theorem Restart_calls (r : Rep) (A5 A7 A8 A9 A10 : Option Addr) (c5 c7 c8 c9 c10 : Nat) (w : World) (h : RdRep w r A5 A7 A8 A9 A10) (hn : Small r) (s : Rep) (code : Int) (hs : restart r = (s, code)) :
    Calls Try.prog 38 #[.agg (rc r (.slice A5 r.f5.length c5) (.slice A7 r.f7.length c7) (.slice A8 r.f8.length c8) (.slice A9 r.f9.length c9) (.slice A10 r.f10.length c10))] w fun e w' => ∃ v5 v7 v8 v9 v10 : Value, e = .returned (.tuple #[.agg (rc s v5 v7 v8 v9 v10), .int .i64 code]) ∧ Mem w w' (rows s v5 v7 v8 v9 v10) := by
  unfold restart at hs
  cases h1 : may r with
  | false =>
    rw [h1, if_neg (by simp)] at hs
    cases hs
    exact Restart_e1 r A5 A7 A8 A9 A10 c5 c7 c8 c9 c10 w h hn h1
  | true =>
    rw [h1, if_pos rfl] at hs
    by_cases h4 : r.f4 = 1
    · rw [if_pos h4] at hs
      cases hs
      exact Restart_b r A5 A7 A8 A9 A10 c5 c7 c8 c9 c10 w h hn h1 h4
    · rw [if_neg h4] at hs
      cases hs
      exact Restart_c r A5 A7 A8 A9 A10 c5 c7 c8 c9 c10 w h hn h1 h4
theorem Restart11_calls (r : Rep) (A5 A7 A8 A9 A10 : Option Addr) (c5 c7 c8 c9 c10 : Nat) (w : World) (h : RdRep w r A5 A7 A8 A9 A10) (hc : Fit r c5 c7 c8 c9 c10) (hs : r.f5.length ≤ 1200 ∧ r.f7.length ≤ 20 ∧ r.f8.length ≤ 20 ∧ r.f9.length ≤ 20 ∧ r.f10.length ≤ 1200) (s : Rep) (code : Int) (hp : restart r = (s, code)) :
    Calls Try.prog 39 #[.agg #[.int .i64 r.f0, .int .i64 r.f1, .int .i64 r.f2, .int .i64 r.f3, .int .i64 r.f4, .slice A5 r.f5.length c5, .int .i64 r.f6, .slice A7 r.f7.length c7, .slice A8 r.f8.length c8, .slice A9 r.f9.length c9, .slice A10 r.f10.length c10, .int .i64 r.f11, .int .i64 r.f12]] w fun e w' => OutR w w' e s code := by
  unfold restart at hp
  cases h1 : may r with
  | false =>
    rw [h1, if_neg (by simp)] at hp
    cases hp
    exact Restart11_e1 r A5 A7 A8 A9 A10 c5 c7 c8 c9 c10 w h hc hs h1
  | true =>
    rw [h1, if_pos rfl] at hp
    by_cases h4 : r.f4 = 1
    · rw [if_pos h4] at hp
      cases hp
      exact Restart11_b r A5 A7 A8 A9 A10 c5 c7 c8 c9 c10 w h hc hs h1 h4
    · rw [if_neg h4] at hp
      cases hp
      exact Restart11_c r A5 A7 A8 A9 A10 c5 c7 c8 c9 c10 w h hc hs h1 h4
end Go.Proofs.Ytggbjokhniigkaa.Sd
