/- Texts laid together: Tx, Tl. No condition. -/
import Derived.Test.YtggbjokhniigkaaGreatWcq
import Derived.Test.YtggbjokhniigkaaGreatGd
import Derived.Test.YtggbjokhniigkaaGreatWh0q
import Derived.Test.YtggbjokhniigkaaGreatGc
/- Walks: replica.Take, over what worker.takes makes. -/
namespace Go.Proofs.YtggbjokhniigkaaGreat.Tx
open Go.Proofs.YtggbjokhniigkaaGreat.Ty Go.RowKit Go.Proofs.YtggbjokhniigkaaGreatW.PrintWords Go.Proofs.YtggbjokhniigkaaGreatW.PrintLast Go.Proofs.YtggbjokhniigkaaGreatW.PrintMore Go.Proofs.YtggbjokhniigkaaGreat.Mx Go.Proofs.YtggbjokhniigkaaGreat.Kx Go.Proofs.YtggbjokhniigkaaGreat.Wa Go.Proofs.YtggbjokhniigkaaGreat.Wb Go.Proofs.YtggbjokhniigkaaGreat.Wc Go.Proofs.YtggbjokhniigkaaGreat.Wd
set_option linter.unusedVariables false
set_option linter.unusedSimpArgs false
set_option maxRecDepth 100000 in
set_option maxHeartbeats 8000000 in
theorem Take_e1 (r : Rep) (m : Msg) (A5 A7 A8 A9 A10 A : Option Addr) (c5 c7 c8 c9 c10 c : Nat) (w : World) (h : RdRep w r A5 A7 A8 A9 A10) (hn : Small r) (hl : Kd.C kE w A m.f7.length m.f7) (h1 : may r = false) :
    Calls Tryz.prog 34 #[.agg (rc r (.slice A5 r.f5.length c5) (.slice A7 r.f7.length c7) (.slice A8 r.f8.length c8) (.slice A9 r.f9.length c9) (.slice A10 r.f10.length c10)), .agg #[.int .i64 m.f0, .int .i64 m.f1, .int .i64 m.f2, .int .i64 m.f3, .int .i64 m.f4, .int .i64 m.f5, .int .i64 m.f6, .slice A m.f7.length c]] w fun e w' => ∃ v5 v7 v8 v9 v10 vout : Value, e = .returned (.tuple #[.agg (rc r v5 v7 v8 v9 v10), vout, .int .i64 1]) ∧ Mem w w' (rows r v5 v7 v8 v9 v10 ++ [row kM 27 vout []]) := by
  have E1 := Aside0.mk h1
  clear h1
  have H := Aside0.mk h
  have HN := Aside0.mk hn
  have HL := Aside0.mk hl
  have M1 := Aside0.mk ((((Mem.nil w).alloc #[.int .i64 r.f0, .int .i64 r.f1, .int .i64 r.f2, .int .i64 r.f3, .int .i64 r.f4, .slice A5 r.f5.length c5, .int .i64 r.f6, .slice A7 r.f7.length c7, .slice A8 r.f8.length c8, .slice A9 r.f9.length c9, .slice A10 r.f10.length c10, .int .i64 r.f11, .int .i64 r.f12] 25).allocAt #[.int .i64 m.f0, .int .i64 m.f1, .int .i64 m.f2, .int .i64 m.f3, .int .i64 m.f4, .int .i64 m.f5, .int .i64 m.f6, .slice A m.f7.length c] 27 (w.heap.size + 1) (by simp)).allocAt #[.int .i64 0, .int .i64 0, .int .i64 0, .int .i64 0, .int .i64 0, .slice none 0 0, .int .i64 0, .slice none 0 0, .slice none 0 0, .slice none 0 0, .slice none 0 0, .int .i64 0, .int .i64 0] 25 (w.heap.size + 2) (by simp))
  clear h hn hl
  unfold rc
  go_enter Tryz.func34, Tryz.ntmps34
  go_wp2_with fail
  refine (copied_calls r A5 A7 A8 A9 A10 c5 c7 c8 c9 c10 _ (H.out.below M1.out.below) HN.out).mono ?_
  rintro e w2 ⟨v5, v7, v8, v9, v10, rfl, hM⟩
  unfold rc
  obtain ⟨B5, d5, rfl, _, _⟩ := hM.row_at 0 rfl
  obtain ⟨B7, d7, rfl, _, _⟩ := hM.row_at 1 rfl
  obtain ⟨B8, d8, rfl, _, _⟩ := hM.row_at 2 rfl
  obtain ⟨B9, d9, rfl, _, _⟩ := hM.row_at 3 rfl
  obtain ⟨B10, d10, rfl, _, _⟩ := hM.row_at 4 rfl
  have M3 := Aside0.mk (Mem.sel (ps := [_, _, _, _, _, _, _, _]) (F := []) [0, 1, 2, 3, 4, 5, 6, 7] 8 (M1.out.trans hM) rfl rfl)
  clear hM M1
  have hb0 := blk_lt (M3.out.blk_at 5 rfl)
  have hb1 := blk_lt (M3.out.blk_at 6 rfl)
  have hb2 := blk_lt (M3.out.blk_at 7 rfl)
  have M4 := Aside0.mk (M3.out.allocAt #[.int .i64 r.f0, .int .i64 r.f1, .int .i64 r.f2, .int .i64 r.f3, .int .i64 r.f4, .slice B5 r.f5.length d5, .int .i64 r.f6, .slice B7 r.f7.length d7, .slice B8 r.f8.length d8, .slice B9 r.f9.length d9, .slice B10 r.f10.length d10, .int .i64 r.f11, .int .i64 r.f12, .slice none 0 0] 95 w2.heap.size rfl)
  clear M3
  have cR := blk_cell (M4.out.blk_at 8 rfl)
  go_wp2_with fail
  refine (May_calls r A5 A7 A8 A9 A10 c5 c7 c8 c9 c10 _ (Kd.C_below H.out.h5 M4.out.below) (Kd.C_below H.out.h7 M4.out.below) (Kd.C_below H.out.h8 M4.out.below) (Kd.C_below H.out.h9 M4.out.below) (Kd.C_below H.out.h10 M4.out.below) HN.out).mono ?_
  rintro e w3 ⟨he, hM⟩
  rw [E1.out] at he
  subst he
  have M5 := Aside0.mk (Mem.sel (ps := [_, _, _, _, _, _, _, _, _]) (F := []) [0, 1, 2, 3, 4, 5, 6, 7, 8] 9 (M4.out.trans hM) rfl rfl)
  clear hM M4 cR hb0 hb1 hb2
  have cR := blk_cell (M5.out.blk_at 8 rfl)
  have cM := blk_cell (M5.out.blk_at 7 rfl)
  have cZ := blk_cell (M5.out.blk_at 6 rfl)
  have fZ := blk_frozen (M5.out.blk_at 6 rfl)
  have hbW := blk_lt (M5.out.blk_at 0 rfl)
  have hbZ := blk_lt (M5.out.blk_at 6 rfl)
  go_wp2_with fail
  refine (copied_calls r A5 A7 A8 A9 A10 c5 c7 c8 c9 c10 _ (H.out.below M5.out.below) HN.out).mono ?_
  rintro e w5 ⟨v5, v7, v8, v9, v10, rfl, hM⟩
  unfold rc
  obtain ⟨C5, e5, rfl, _, _⟩ := hM.row_at 0 rfl
  obtain ⟨C7, e7, rfl, _, _⟩ := hM.row_at 1 rfl
  obtain ⟨C8, e8, rfl, _, _⟩ := hM.row_at 2 rfl
  obtain ⟨C9, e9, rfl, _, _⟩ := hM.row_at 3 rfl
  obtain ⟨C10, e10, rfl, _, _⟩ := hM.row_at 4 rfl
  have M6 := Aside0.mk (M5.out.trans hM)
  clear hM M5
  have cZ := blk_cell (M6.out.blk_at 11 rfl)
  have fZ := blk_frozen (M6.out.blk_at 11 rfl)
  have hbZ := blk_lt (M6.out.blk_at 11 rfl)
  go_wp2_with fail
  all_goals
    have MF := (M6.out.setRow 11 rfl [.int .i64 r.f0, .int .i64 r.f1, .int .i64 r.f2, .int .i64 r.f3, .int .i64 r.f4, .slice C5 r.f5.length e5, .int .i64 r.f6, .slice C7 r.f7.length e7, .slice C8 r.f8.length e8, .slice C9 r.f9.length e9, .slice C10 r.f10.length e10, .int .i64 r.f11, .int .i64 r.f12] rfl)
    have hgF := MF.blk_at 11 rfl
    refine bodyPost_ret (results_list (rs := [.cell 4 25, .tmp 5, .tmp 6]) rfl (by simp) (.cell (w.heap.size + 2) 25 #[.int .i64 r.f0, .int .i64 r.f1, .int .i64 r.f2, .int .i64 r.f3, .int .i64 r.f4, .slice C5 r.f5.length e5, .int .i64 r.f6, .slice C7 r.f7.length e7, .slice C8 r.f8.length e8, .slice C9 r.f9.length e9, .slice C10 r.f10.length e10, .int .i64 r.f11, .int .i64 r.f12] (0, 0) _ rfl hgF Tryz.underlying25 rfl (by kernel_rfl) (.tmp (.tmp .nil)))) rfl ?_
    exact ⟨_, _, _, _, _, _, rfl, Mem.sel (ps := [_, _, _, _, _, _, _, _, _, _, _, _, _, _, _]) (F := []) [1, 2, 3, 4, 5, 0] 15 (Mem.row_nil MF kM 27) rfl rfl⟩
set_option maxRecDepth 100000 in
set_option maxHeartbeats 8000000 in
theorem Take_e2 (r : Rep) (m : Msg) (A5 A7 A8 A9 A10 A : Option Addr) (c5 c7 c8 c9 c10 c : Nat) (w : World) (h : RdRep w r A5 A7 A8 A9 A10) (hn : Small r) (hl : Kd.C kE w A m.f7.length m.f7) (h1 : may r = true) (hT : ∀ (w0 w : World) (F : List Res) (g : Nat) (v5 v7 v8 v9 v10 : Value), Mem w0 w (blk g 95 (Wa.wc r.f0 r.f1 r.f2 r.f3 r.f4 v5 r.f6 v7 v8 v9 v10 r.f11 r.f12 (.slice none 0 0)) :: row kM 27 (.slice none 0 0) [] :: row kE 68 v5 r.f5 :: row (Kd.int .i64) 3 v7 r.f7 :: row (Kd.int .i64) 3 v8 r.f8 :: row (Kd.int .i64) 3 v9 r.f9 :: row kE 68 v10 r.f10 :: F) → Kd.C kE w0 A m.f7.length m.f7 → Calls Tryz.prog 65 #[.pointer (some ⟨g, 0, none⟩), .agg #[.int .i64 m.f0, .int .i64 m.f1, .int .i64 m.f2, .int .i64 m.f3, .int .i64 m.f4, .int .i64 m.f5, .int .i64 m.f6, .slice A m.f7.length c]] w fun e w' => e = .returned (.bool false) ∧ Mem w0 w' (blk g 95 (Wa.wc r.f0 r.f1 r.f2 r.f3 r.f4 v5 r.f6 v7 v8 v9 v10 r.f11 r.f12 (.slice none 0 0)) :: row kM 27 (.slice none 0 0) [] :: row kE 68 v5 r.f5 :: row (Kd.int .i64) 3 v7 r.f7 :: row (Kd.int .i64) 3 v8 r.f8 :: row (Kd.int .i64) 3 v9 r.f9 :: row kE 68 v10 r.f10 :: F)) :
    Calls Tryz.prog 34 #[.agg (rc r (.slice A5 r.f5.length c5) (.slice A7 r.f7.length c7) (.slice A8 r.f8.length c8) (.slice A9 r.f9.length c9) (.slice A10 r.f10.length c10)), .agg #[.int .i64 m.f0, .int .i64 m.f1, .int .i64 m.f2, .int .i64 m.f3, .int .i64 m.f4, .int .i64 m.f5, .int .i64 m.f6, .slice A m.f7.length c]] w fun e w' => ∃ v5 v7 v8 v9 v10 vout : Value, e = .returned (.tuple #[.agg (rc r v5 v7 v8 v9 v10), vout, .int .i64 1]) ∧ Mem w w' (rows r v5 v7 v8 v9 v10 ++ [row kM 27 vout []]) := by
  have E1 := Aside0.mk h1
  replace hT := Aside0.mk hT
  clear h1
  have H := Aside0.mk h
  have HN := Aside0.mk hn
  have HL := Aside0.mk hl
  have M1 := Aside0.mk ((((Mem.nil w).alloc #[.int .i64 r.f0, .int .i64 r.f1, .int .i64 r.f2, .int .i64 r.f3, .int .i64 r.f4, .slice A5 r.f5.length c5, .int .i64 r.f6, .slice A7 r.f7.length c7, .slice A8 r.f8.length c8, .slice A9 r.f9.length c9, .slice A10 r.f10.length c10, .int .i64 r.f11, .int .i64 r.f12] 25).allocAt #[.int .i64 m.f0, .int .i64 m.f1, .int .i64 m.f2, .int .i64 m.f3, .int .i64 m.f4, .int .i64 m.f5, .int .i64 m.f6, .slice A m.f7.length c] 27 (w.heap.size + 1) (by simp)).allocAt #[.int .i64 0, .int .i64 0, .int .i64 0, .int .i64 0, .int .i64 0, .slice none 0 0, .int .i64 0, .slice none 0 0, .slice none 0 0, .slice none 0 0, .slice none 0 0, .int .i64 0, .int .i64 0] 25 (w.heap.size + 2) (by simp))
  clear h hn hl
  unfold rc
  go_enter Tryz.func34, Tryz.ntmps34
  go_wp2_with fail
  refine (copied_calls r A5 A7 A8 A9 A10 c5 c7 c8 c9 c10 _ (H.out.below M1.out.below) HN.out).mono ?_
  rintro e w2 ⟨v5, v7, v8, v9, v10, rfl, hM⟩
  unfold rc
  obtain ⟨B5, d5, rfl, _, _⟩ := hM.row_at 0 rfl
  obtain ⟨B7, d7, rfl, _, _⟩ := hM.row_at 1 rfl
  obtain ⟨B8, d8, rfl, _, _⟩ := hM.row_at 2 rfl
  obtain ⟨B9, d9, rfl, _, _⟩ := hM.row_at 3 rfl
  obtain ⟨B10, d10, rfl, _, _⟩ := hM.row_at 4 rfl
  have M3 := Aside0.mk (Mem.sel (ps := [_, _, _, _, _, _, _, _]) (F := []) [0, 1, 2, 3, 4, 5, 6, 7] 8 (M1.out.trans hM) rfl rfl)
  clear hM M1
  have hb0 := blk_lt (M3.out.blk_at 5 rfl)
  have hb1 := blk_lt (M3.out.blk_at 6 rfl)
  have hb2 := blk_lt (M3.out.blk_at 7 rfl)
  have M4 := Aside0.mk (M3.out.allocAt #[.int .i64 r.f0, .int .i64 r.f1, .int .i64 r.f2, .int .i64 r.f3, .int .i64 r.f4, .slice B5 r.f5.length d5, .int .i64 r.f6, .slice B7 r.f7.length d7, .slice B8 r.f8.length d8, .slice B9 r.f9.length d9, .slice B10 r.f10.length d10, .int .i64 r.f11, .int .i64 r.f12, .slice none 0 0] 95 w2.heap.size rfl)
  clear M3
  have cR := blk_cell (M4.out.blk_at 8 rfl)
  go_wp2_with fail
  refine (May_calls r A5 A7 A8 A9 A10 c5 c7 c8 c9 c10 _ (Kd.C_below H.out.h5 M4.out.below) (Kd.C_below H.out.h7 M4.out.below) (Kd.C_below H.out.h8 M4.out.below) (Kd.C_below H.out.h9 M4.out.below) (Kd.C_below H.out.h10 M4.out.below) HN.out).mono ?_
  rintro e w3 ⟨he, hM⟩
  rw [E1.out] at he
  subst he
  have M5 := Aside0.mk (Mem.sel (ps := [_, _, _, _, _, _, _, _, _]) (F := []) [0, 1, 2, 3, 4, 5, 6, 7, 8] 9 (M4.out.trans hM) rfl rfl)
  clear hM M4 cR hb0 hb1 hb2
  have cR := blk_cell (M5.out.blk_at 8 rfl)
  have cM := blk_cell (M5.out.blk_at 7 rfl)
  have cZ := blk_cell (M5.out.blk_at 6 rfl)
  have fZ := blk_frozen (M5.out.blk_at 6 rfl)
  have hbW := blk_lt (M5.out.blk_at 0 rfl)
  have hbZ := blk_lt (M5.out.blk_at 6 rfl)
  go_wp2_with fail
  refine (hT.out w _ [_, _, _] w2.heap.size _ _ _ _ _ (Mem.sel (ps := [_, _, _, _, _, _, _, _, _, _]) (F := []) [1, 0, 2, 3, 4, 5, 6, 7, 8, 9] 10 (Mem.row_nil M5.out kM 27) rfl rfl) HL.out).mono ?_
  rintro e w4 ⟨rfl, hM⟩
  have M7 := Aside0.mk hM
  clear hM M5 cR cM cZ fZ hbW hbZ
  have cR := blk_cell (M7.out.blk_at 9 rfl)
  go_wp2_with fail
  refine (copied_calls r A5 A7 A8 A9 A10 c5 c7 c8 c9 c10 _ (H.out.below M7.out.below) HN.out).mono ?_
  rintro e w5 ⟨v5, v7, v8, v9, v10, rfl, hM⟩
  unfold rc
  obtain ⟨C5, e5, rfl, _, _⟩ := hM.row_at 0 rfl
  obtain ⟨C7, e7, rfl, _, _⟩ := hM.row_at 1 rfl
  obtain ⟨C8, e8, rfl, _, _⟩ := hM.row_at 2 rfl
  obtain ⟨C9, e9, rfl, _, _⟩ := hM.row_at 3 rfl
  obtain ⟨C10, e10, rfl, _, _⟩ := hM.row_at 4 rfl
  have M6 := Aside0.mk (M7.out.trans hM)
  clear hM M7
  have cZ := blk_cell (M6.out.blk_at 12 rfl)
  have fZ := blk_frozen (M6.out.blk_at 12 rfl)
  have hbZ := blk_lt (M6.out.blk_at 12 rfl)
  go_wp2_with fail
  all_goals
    have MF := (M6.out.setRow 12 rfl [.int .i64 r.f0, .int .i64 r.f1, .int .i64 r.f2, .int .i64 r.f3, .int .i64 r.f4, .slice C5 r.f5.length e5, .int .i64 r.f6, .slice C7 r.f7.length e7, .slice C8 r.f8.length e8, .slice C9 r.f9.length e9, .slice C10 r.f10.length e10, .int .i64 r.f11, .int .i64 r.f12] rfl)
    have hgF := MF.blk_at 12 rfl
    refine bodyPost_ret (results_list (rs := [.cell 4 25, .tmp 5, .tmp 6]) rfl (by simp) (.cell (w.heap.size + 2) 25 #[.int .i64 r.f0, .int .i64 r.f1, .int .i64 r.f2, .int .i64 r.f3, .int .i64 r.f4, .slice C5 r.f5.length e5, .int .i64 r.f6, .slice C7 r.f7.length e7, .slice C8 r.f8.length e8, .slice C9 r.f9.length e9, .slice C10 r.f10.length e10, .int .i64 r.f11, .int .i64 r.f12] (0, 0) _ rfl hgF Tryz.underlying25 rfl (by kernel_rfl) (.tmp (.tmp .nil)))) rfl ?_
    exact ⟨_, _, _, _, _, _, rfl, Mem.sel (ps := [_, _, _, _, _, _, _, _, _, _, _, _, _, _, _, _]) (F := []) [1, 2, 3, 4, 5, 0] 16 (Mem.row_nil MF kM 27) rfl rfl⟩
set_option maxRecDepth 100000 in
set_option maxHeartbeats 8000000 in
theorem Take_ok (r : Rep) (m : Msg) (A5 A7 A8 A9 A10 A : Option Addr) (c5 c7 c8 c9 c10 c : Nat) (w : World) (h : RdRep w r A5 A7 A8 A9 A10) (hn : Small r) (hl : Kd.C kE w A m.f7.length m.f7) (h1 : may r = true) (s : Rep) (out : List Msg) (hT : ∀ (w0 w : World) (F : List Res) (g : Nat) (v5 v7 v8 v9 v10 : Value), Mem w0 w (blk g 95 (Wa.wc r.f0 r.f1 r.f2 r.f3 r.f4 v5 r.f6 v7 v8 v9 v10 r.f11 r.f12 (.slice none 0 0)) :: row kM 27 (.slice none 0 0) [] :: row kE 68 v5 r.f5 :: row (Kd.int .i64) 3 v7 r.f7 :: row (Kd.int .i64) 3 v8 r.f8 :: row (Kd.int .i64) 3 v9 r.f9 :: row kE 68 v10 r.f10 :: F) → Kd.C kE w0 A m.f7.length m.f7 → Calls Tryz.prog 65 #[.pointer (some ⟨g, 0, none⟩), .agg #[.int .i64 m.f0, .int .i64 m.f1, .int .i64 m.f2, .int .i64 m.f3, .int .i64 m.f4, .int .i64 m.f5, .int .i64 m.f6, .slice A m.f7.length c]] w fun e w' => e = .returned (.bool true) ∧ ∃ v5' v7' v8' v9' v10' vout' : Value, Mem w0 w' (blk g 95 (Wa.wc s.f0 s.f1 s.f2 s.f3 s.f4 v5' s.f6 v7' v8' v9' v10' s.f11 s.f12 vout') :: row kM 27 vout' out :: row kE 68 v5' s.f5 :: row (Kd.int .i64) 3 v7' s.f7 :: row (Kd.int .i64) 3 v8' s.f8 :: row (Kd.int .i64) 3 v9' s.f9 :: row kE 68 v10' s.f10 :: F)) :
    Calls Tryz.prog 34 #[.agg (rc r (.slice A5 r.f5.length c5) (.slice A7 r.f7.length c7) (.slice A8 r.f8.length c8) (.slice A9 r.f9.length c9) (.slice A10 r.f10.length c10)), .agg #[.int .i64 m.f0, .int .i64 m.f1, .int .i64 m.f2, .int .i64 m.f3, .int .i64 m.f4, .int .i64 m.f5, .int .i64 m.f6, .slice A m.f7.length c]] w fun e w' => ∃ v5 v7 v8 v9 v10 vout : Value, e = .returned (.tuple #[.agg (rc s v5 v7 v8 v9 v10), vout, .int .i64 0]) ∧ Mem w w' (rows s v5 v7 v8 v9 v10 ++ [row kM 27 vout out]) := by
  have E1 := Aside0.mk h1
  replace hT := Aside0.mk hT
  clear h1
  have H := Aside0.mk h
  have HN := Aside0.mk hn
  have HL := Aside0.mk hl
  have M1 := Aside0.mk ((((Mem.nil w).alloc #[.int .i64 r.f0, .int .i64 r.f1, .int .i64 r.f2, .int .i64 r.f3, .int .i64 r.f4, .slice A5 r.f5.length c5, .int .i64 r.f6, .slice A7 r.f7.length c7, .slice A8 r.f8.length c8, .slice A9 r.f9.length c9, .slice A10 r.f10.length c10, .int .i64 r.f11, .int .i64 r.f12] 25).allocAt #[.int .i64 m.f0, .int .i64 m.f1, .int .i64 m.f2, .int .i64 m.f3, .int .i64 m.f4, .int .i64 m.f5, .int .i64 m.f6, .slice A m.f7.length c] 27 (w.heap.size + 1) (by simp)).allocAt #[.int .i64 0, .int .i64 0, .int .i64 0, .int .i64 0, .int .i64 0, .slice none 0 0, .int .i64 0, .slice none 0 0, .slice none 0 0, .slice none 0 0, .slice none 0 0, .int .i64 0, .int .i64 0] 25 (w.heap.size + 2) (by simp))
  clear h hn hl
  unfold rc
  go_enter Tryz.func34, Tryz.ntmps34
  go_wp2_with fail
  refine (copied_calls r A5 A7 A8 A9 A10 c5 c7 c8 c9 c10 _ (H.out.below M1.out.below) HN.out).mono ?_
  rintro e w2 ⟨v5, v7, v8, v9, v10, rfl, hM⟩
  unfold rc
  obtain ⟨B5, d5, rfl, _, _⟩ := hM.row_at 0 rfl
  obtain ⟨B7, d7, rfl, _, _⟩ := hM.row_at 1 rfl
  obtain ⟨B8, d8, rfl, _, _⟩ := hM.row_at 2 rfl
  obtain ⟨B9, d9, rfl, _, _⟩ := hM.row_at 3 rfl
  obtain ⟨B10, d10, rfl, _, _⟩ := hM.row_at 4 rfl
  have M3 := Aside0.mk (Mem.sel (ps := [_, _, _, _, _, _, _, _]) (F := []) [0, 1, 2, 3, 4, 5, 6, 7] 8 (M1.out.trans hM) rfl rfl)
  clear hM M1
  have hb0 := blk_lt (M3.out.blk_at 5 rfl)
  have hb1 := blk_lt (M3.out.blk_at 6 rfl)
  have hb2 := blk_lt (M3.out.blk_at 7 rfl)
  have M4 := Aside0.mk (M3.out.allocAt #[.int .i64 r.f0, .int .i64 r.f1, .int .i64 r.f2, .int .i64 r.f3, .int .i64 r.f4, .slice B5 r.f5.length d5, .int .i64 r.f6, .slice B7 r.f7.length d7, .slice B8 r.f8.length d8, .slice B9 r.f9.length d9, .slice B10 r.f10.length d10, .int .i64 r.f11, .int .i64 r.f12, .slice none 0 0] 95 w2.heap.size rfl)
  clear M3
  have cR := blk_cell (M4.out.blk_at 8 rfl)
  go_wp2_with fail
  refine (May_calls r A5 A7 A8 A9 A10 c5 c7 c8 c9 c10 _ (Kd.C_below H.out.h5 M4.out.below) (Kd.C_below H.out.h7 M4.out.below) (Kd.C_below H.out.h8 M4.out.below) (Kd.C_below H.out.h9 M4.out.below) (Kd.C_below H.out.h10 M4.out.below) HN.out).mono ?_
  rintro e w3 ⟨he, hM⟩
  rw [E1.out] at he
  subst he
  have M5 := Aside0.mk (Mem.sel (ps := [_, _, _, _, _, _, _, _, _]) (F := []) [0, 1, 2, 3, 4, 5, 6, 7, 8] 9 (M4.out.trans hM) rfl rfl)
  clear hM M4 cR hb0 hb1 hb2
  have cR := blk_cell (M5.out.blk_at 8 rfl)
  have cM := blk_cell (M5.out.blk_at 7 rfl)
  have cZ := blk_cell (M5.out.blk_at 6 rfl)
  have fZ := blk_frozen (M5.out.blk_at 6 rfl)
  have hbW := blk_lt (M5.out.blk_at 0 rfl)
  have hbZ := blk_lt (M5.out.blk_at 6 rfl)
  go_wp2_with fail
  refine (hT.out w _ [_, _, _] w2.heap.size _ _ _ _ _ (Mem.sel (ps := [_, _, _, _, _, _, _, _, _, _]) (F := []) [1, 0, 2, 3, 4, 5, 6, 7, 8, 9] 10 (Mem.row_nil M5.out kM 27) rfl rfl) HL.out).mono ?_
  rintro e w4 ⟨rfl, v5, v7, v8, v9, v10, vo, hM⟩
  obtain ⟨Co, eo, rfl, _, _⟩ := hM.row_at 1 rfl
  obtain ⟨C5, e5, rfl, _, _⟩ := hM.row_at 2 rfl
  obtain ⟨C7, e7, rfl, _, _⟩ := hM.row_at 3 rfl
  obtain ⟨C8, e8, rfl, _, _⟩ := hM.row_at 4 rfl
  obtain ⟨C9, e9, rfl, _, _⟩ := hM.row_at 5 rfl
  obtain ⟨C10, e10, rfl, _, _⟩ := hM.row_at 6 rfl
  have M6 := Aside0.mk hM
  clear hM M5 cR cM cZ fZ hbW hbZ
  have cW := blk_cell (M6.out.blk_at 0 rfl)
  have cZ := blk_cell (M6.out.blk_at 7 rfl)
  have fZ := blk_frozen (M6.out.blk_at 7 rfl)
  have hbZ := blk_lt (M6.out.blk_at 7 rfl)
  have nWZ := Wh0.blk_ne M6.out 0 7 rfl rfl (by decide)
  unfold Wa.wc at cW
  go_upto_region 4 with (fail)
  go_region
  all_goals
    go_wp2
    have MF := (M6.out.setRow 7 rfl [.int .i64 s.f0, .int .i64 s.f1, .int .i64 s.f2, .int .i64 s.f3, .int .i64 s.f4, .slice C5 s.f5.length e5, .int .i64 s.f6, .slice C7 s.f7.length e7, .slice C8 s.f8.length e8, .slice C9 s.f9.length e9, .slice C10 s.f10.length e10, .int .i64 s.f11, .int .i64 s.f12] rfl).drew
    have hgF := MF.blk_at 7 rfl
    refine bodyPost_ret (results_list (rs := [.cell 4 25, .tmp 5, .tmp 6]) rfl (by simp) (.cell (w.heap.size + 2) 25 #[.int .i64 s.f0, .int .i64 s.f1, .int .i64 s.f2, .int .i64 s.f3, .int .i64 s.f4, .slice C5 s.f5.length e5, .int .i64 s.f6, .slice C7 s.f7.length e7, .slice C8 s.f8.length e8, .slice C9 s.f9.length e9, .slice C10 s.f10.length e10, .int .i64 s.f11, .int .i64 s.f12] (0, 0) _ rfl hgF Tryz.underlying25 rfl (by kernel_rfl) (.tmp (.tmp .nil)))) rfl ?_
    exact ⟨_, _, _, _, _, _, rfl, Mem.sel (ps := [_, _, _, _, _, _, _, _, _, _]) (F := []) [2, 3, 4, 5, 6, 1] 10 MF rfl rfl⟩
end Go.Proofs.YtggbjokhniigkaaGreat.Tx
/- The worker's cells but the last. No condition. -/
namespace Go.Proofs.YtggbjokhniigkaaGreat.Tl
open Go.RowKit
theorem wc_low (i n vw nr hw : Int) (vl : Value) (cm : Int) (va vv vo vb : Value) (bv bd : Int) (vout vout' : Value) (j : Nat) (hj : j < 13) : (Wa.wc i n vw nr hw vl cm va vv vo vb bv bd vout)[j]? = (Wa.wc i n vw nr hw vl cm va vv vo vb bv bd vout')[j]? := by
  unfold Wa.wc
  match j, hj with
  | 0, _ => rfl
  | 1, _ => rfl
  | 2, _ => rfl
  | 3, _ => rfl
  | 4, _ => rfl
  | 5, _ => rfl
  | 6, _ => rfl
  | 7, _ => rfl
  | 8, _ => rfl
  | 9, _ => rfl
  | 10, _ => rfl
  | 11, _ => rfl
  | 12, _ => rfl
end Go.Proofs.YtggbjokhniigkaaGreat.Tl
