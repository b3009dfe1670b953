/- Suspect, the program's. -/
import Derived.Test.YtggbjokhniigkaaWc
import Derived.Test.YtggbjokhniigkaaWd
import Derived.Test.YtggbjokhniigkaaSa
namespace Go.Proofs.Ytggbjokhniigkaa.Sb
open Go.Proofs.Ytggbjokhniigkaa.Ty Go.RowKit Go.Proofs.YtggbjokhniigkaaW.PrintWords Go.Proofs.YtggbjokhniigkaaW.PrintLast Go.Proofs.YtggbjokhniigkaaW.PrintMore Go.Proofs.Ytggbjokhniigkaa.Mx Go.Proofs.Ytggbjokhniigkaa.Kx Go.Proofs.Ytggbjokhniigkaa.Wa Go.Proofs.Ytggbjokhniigkaa.Wb Go.Proofs.Ytggbjokhniigkaa.Wc Go.Proofs.Ytggbjokhniigkaa.Wd Go.Proofs.Ytggbjokhniigkaa.We Go.Proofs.Ytggbjokhniigkaa.Sa
set_option linter.unusedVariables false
set_option linter.unusedSimpArgs false
/-- What a doubt makes of a replica. -/
def suspect (r : Rep) : Rep × List Msg × Int :=
  if may r then
    if maxTime ≤ r.f2 + 1 then (r, [], 4)
    else if r.f1 = 1 then (normal r (r.f2 + 1) r.f5 r.f6, [], 0)
    else (change r (r.f2 + 1), allFrom r.f0 r.f1 (r.f2 + 1) ⟨4, 0, 0, 0, 0, 0, 0, []⟩ r.f1.toNat 0, 0)
  else (r, [], 1)
set_option maxRecDepth 100000 in
set_option maxHeartbeats 8000000 in
theorem Suspect_e1 (r : Rep) (A5 A7 A8 A9 A10 : Option Addr) (c5 c7 c8 c9 c10 : Nat) (w : World) (h : RdRep w r A5 A7 A8 A9 A10) (hn : Small r) (h1 : may r = false) :
    Calls Try.prog 36 #[.agg (rc r (.slice A5 r.f5.length c5) (.slice A7 r.f7.length c7) (.slice A8 r.f8.length c8) (.slice A9 r.f9.length c9) (.slice A10 r.f10.length c10))] w fun e w' => ∃ v5 v7 v8 v9 v10 vout : Value, e = .returned (.tuple #[.agg (rc r v5 v7 v8 v9 v10), vout, .int .i64 1]) ∧ Mem w w' (rows r v5 v7 v8 v9 v10 ++ [row kM 29 vout []]) := by
  have E1 := Aside0.mk h1
  clear h1
  have H := Aside0.mk h
  have HN := Aside0.mk hn
  have M1 := Aside0.mk (((Mem.nil w).alloc #[.int .i64 r.f0, .int .i64 r.f1, .int .i64 r.f2, .int .i64 r.f3, .int .i64 r.f4, .slice A5 r.f5.length c5, .int .i64 r.f6, .slice A7 r.f7.length c7, .slice A8 r.f8.length c8, .slice A9 r.f9.length c9, .slice A10 r.f10.length c10, .int .i64 r.f11, .int .i64 r.f12] 45).allocAt #[.int .i64 0, .int .i64 0, .int .i64 0, .int .i64 0, .int .i64 0, .slice none 0 0, .int .i64 0, .slice none 0 0, .slice none 0 0, .slice none 0 0, .slice none 0 0, .int .i64 0, .int .i64 0] 45 (w.heap.size + 1) (by simp))
  clear h hn
  unfold rc
  go_enter Try.func36, Try.ntmps36
  go_wp2_with fail
  refine (copied_calls r A5 A7 A8 A9 A10 c5 c7 c8 c9 c10 _ (H.out.below M1.out.below) HN.out).mono ?_
  rintro e w2 ⟨v5, v7, v8, v9, v10, rfl, hM⟩
  unfold rc
  obtain ⟨B5, d5, rfl, _, _⟩ := hM.row_at 0 rfl
  obtain ⟨B7, d7, rfl, _, _⟩ := hM.row_at 1 rfl
  obtain ⟨B8, d8, rfl, _, _⟩ := hM.row_at 2 rfl
  obtain ⟨B9, d9, rfl, _, _⟩ := hM.row_at 3 rfl
  obtain ⟨B10, d10, rfl, _, _⟩ := hM.row_at 4 rfl
  have M3 := Aside0.mk (Mem.sel (ps := [_, _, _, _, _, _, _]) (F := []) [5, 6, 0, 1, 2, 3, 4] 7 (M1.out.trans hM) rfl rfl)
  clear hM M1
  have hb0 := blk_lt (M3.out.blk_at 1 rfl)
  have hb1 := blk_lt (M3.out.blk_at 0 rfl)
  have M4 := Aside0.mk (M3.out.allocAt #[.int .i64 r.f0, .int .i64 r.f1, .int .i64 r.f2, .int .i64 r.f3, .int .i64 r.f4, .slice B5 r.f5.length d5, .int .i64 r.f6, .slice B7 r.f7.length d7, .slice B8 r.f8.length d8, .slice B9 r.f9.length d9, .slice B10 r.f10.length d10, .int .i64 r.f11, .int .i64 r.f12, .slice none 0 0] 99 w2.heap.size rfl)
  clear M3
  have cR := blk_cell (M4.out.blk_at 2 rfl)
  go_wp2_with fail
  refine (May_calls r A5 A7 A8 A9 A10 c5 c7 c8 c9 c10 _ (Kd.C_below H.out.h5 M4.out.below) (Kd.C_below H.out.h7 M4.out.below) (Kd.C_below H.out.h8 M4.out.below) (Kd.C_below H.out.h9 M4.out.below) (Kd.C_below H.out.h10 M4.out.below) HN.out).mono ?_
  rintro e w3 ⟨he, hM⟩
  rw [E1.out] at he
  subst he
  have M5 := Aside0.mk (M4.out.trans hM)
  clear hM M4 cR hb0 hb1
  have cR := blk_cell (M5.out.blk_at 2 rfl)
  have cW := blk_cell (M5.out.blk_at 0 rfl)
  have fW := blk_frozen (M5.out.blk_at 0 rfl)
  have cZ := blk_cell (M5.out.blk_at 1 rfl)
  have fZ := blk_frozen (M5.out.blk_at 1 rfl)
  have hbW := blk_lt (M5.out.blk_at 0 rfl)
  have hbZ := blk_lt (M5.out.blk_at 1 rfl)
  go_wp2_with fail
  all_goals
    have MF := (M5.out.setRow 1 rfl [.int .i64 r.f0, .int .i64 r.f1, .int .i64 r.f2, .int .i64 r.f3, .int .i64 r.f4, .slice B5 r.f5.length d5, .int .i64 r.f6, .slice B7 r.f7.length d7, .slice B8 r.f8.length d8, .slice B9 r.f9.length d9, .slice B10 r.f10.length d10, .int .i64 r.f11, .int .i64 r.f12] rfl)
    have hgF := MF.blk_at 1 rfl
    refine bodyPost_ret (results_list (rs := [.cell 2 45, .tmp 3, .tmp 4]) rfl (by simp) (.cell (w.heap.size + 1) 45 #[.int .i64 r.f0, .int .i64 r.f1, .int .i64 r.f2, .int .i64 r.f3, .int .i64 r.f4, .slice B5 r.f5.length d5, .int .i64 r.f6, .slice B7 r.f7.length d7, .slice B8 r.f8.length d8, .slice B9 r.f9.length d9, .slice B10 r.f10.length d10, .int .i64 r.f11, .int .i64 r.f12] (0, 0) _ rfl hgF Try.underlying45 rfl (by kernel_rfl) (.tmp (.tmp .nil)))) rfl ?_
    exact ⟨_, _, _, _, _, _, rfl, Mem.sel (ps := [_, _, _, _, _, _, _, _, _]) (F := []) [4, 5, 6, 7, 8, 0] 9 (Mem.row_nil MF kM 29) rfl rfl⟩
set_option maxRecDepth 100000 in
set_option maxHeartbeats 8000000 in
theorem Suspect_e4 (r : Rep) (A5 A7 A8 A9 A10 : Option Addr) (c5 c7 c8 c9 c10 : Nat) (w : World) (h : RdRep w r A5 A7 A8 A9 A10) (hn : Small r) (h1 : may r = true) (h2 : maxTime ≤ r.f2 + 1) :
    Calls Try.prog 36 #[.agg (rc r (.slice A5 r.f5.length c5) (.slice A7 r.f7.length c7) (.slice A8 r.f8.length c8) (.slice A9 r.f9.length c9) (.slice A10 r.f10.length c10))] w fun e w' => ∃ v5 v7 v8 v9 v10 vout : Value, e = .returned (.tuple #[.agg (rc r v5 v7 v8 v9 v10), vout, .int .i64 4]) ∧ Mem w w' (rows r v5 v7 v8 v9 v10 ++ [row kM 29 vout []]) := by
  have hp := (may_iff r).1 h1
  have hn0 : 0 < r.f1 ∧ r.f1 ≤ 5 := by
    have := hp.1
    unfold size at this
    simp at this
    omega
  have hv : 0 ≤ r.f2 ∧ r.f2 < 1099511627776 := by
    have := hp.2.2.2.1
    unfold below maxTime at this
    simpa using this
  have hi : 0 ≤ r.f0 ∧ r.f0 < r.f1 := ⟨hp.2.1, hp.2.2.1⟩
  have HP := Aside0.mk hp
  clear hp
  obtain ⟨hn1, hn5⟩ := hn0
  obtain ⟨hv1, hv2⟩ := hv
  obtain ⟨hi1, hi2⟩ := hi
  have E1 := Aside0.mk h1
  have e2 : decide (1099511627776 ≤ r.f2 + 1) = true := decide_eq_true h2
  clear h1 h2
  have H := Aside0.mk h
  have HN := Aside0.mk hn
  have M1 := Aside0.mk (((Mem.nil w).alloc #[.int .i64 r.f0, .int .i64 r.f1, .int .i64 r.f2, .int .i64 r.f3, .int .i64 r.f4, .slice A5 r.f5.length c5, .int .i64 r.f6, .slice A7 r.f7.length c7, .slice A8 r.f8.length c8, .slice A9 r.f9.length c9, .slice A10 r.f10.length c10, .int .i64 r.f11, .int .i64 r.f12] 45).allocAt #[.int .i64 0, .int .i64 0, .int .i64 0, .int .i64 0, .int .i64 0, .slice none 0 0, .int .i64 0, .slice none 0 0, .slice none 0 0, .slice none 0 0, .slice none 0 0, .int .i64 0, .int .i64 0] 45 (w.heap.size + 1) (by simp))
  clear h hn
  unfold rc
  go_enter Try.func36, Try.ntmps36
  go_wp2_with fail
  refine (copied_calls r A5 A7 A8 A9 A10 c5 c7 c8 c9 c10 _ (H.out.below M1.out.below) HN.out).mono ?_
  rintro e w2 ⟨v5, v7, v8, v9, v10, rfl, hM⟩
  unfold rc
  obtain ⟨B5, d5, rfl, _, _⟩ := hM.row_at 0 rfl
  obtain ⟨B7, d7, rfl, _, _⟩ := hM.row_at 1 rfl
  obtain ⟨B8, d8, rfl, _, _⟩ := hM.row_at 2 rfl
  obtain ⟨B9, d9, rfl, _, _⟩ := hM.row_at 3 rfl
  obtain ⟨B10, d10, rfl, _, _⟩ := hM.row_at 4 rfl
  have M3 := Aside0.mk (Mem.sel (ps := [_, _, _, _, _, _, _]) (F := []) [5, 6, 0, 1, 2, 3, 4] 7 (M1.out.trans hM) rfl rfl)
  clear hM M1
  have hb0 := blk_lt (M3.out.blk_at 1 rfl)
  have hb1 := blk_lt (M3.out.blk_at 0 rfl)
  have M4 := Aside0.mk (M3.out.allocAt #[.int .i64 r.f0, .int .i64 r.f1, .int .i64 r.f2, .int .i64 r.f3, .int .i64 r.f4, .slice B5 r.f5.length d5, .int .i64 r.f6, .slice B7 r.f7.length d7, .slice B8 r.f8.length d8, .slice B9 r.f9.length d9, .slice B10 r.f10.length d10, .int .i64 r.f11, .int .i64 r.f12, .slice none 0 0] 99 w2.heap.size rfl)
  clear M3
  have cR := blk_cell (M4.out.blk_at 2 rfl)
  go_wp2_with fail
  refine (May_calls r A5 A7 A8 A9 A10 c5 c7 c8 c9 c10 _ (Kd.C_below H.out.h5 M4.out.below) (Kd.C_below H.out.h7 M4.out.below) (Kd.C_below H.out.h8 M4.out.below) (Kd.C_below H.out.h9 M4.out.below) (Kd.C_below H.out.h10 M4.out.below) HN.out).mono ?_
  rintro e w3 ⟨he, hM⟩
  rw [E1.out] at he
  subst he
  have M5 := Aside0.mk (M4.out.trans hM)
  clear hM M4 cR hb0 hb1
  have cR := blk_cell (M5.out.blk_at 2 rfl)
  have cW := blk_cell (M5.out.blk_at 0 rfl)
  have fW := blk_frozen (M5.out.blk_at 0 rfl)
  have cZ := blk_cell (M5.out.blk_at 1 rfl)
  have fZ := blk_frozen (M5.out.blk_at 1 rfl)
  have hbW := blk_lt (M5.out.blk_at 0 rfl)
  have hbZ := blk_lt (M5.out.blk_at 1 rfl)
  go_wp2_with fail
  all_goals
    have MF := (M5.out.setRow 1 rfl [.int .i64 r.f0, .int .i64 r.f1, .int .i64 r.f2, .int .i64 r.f3, .int .i64 r.f4, .slice B5 r.f5.length d5, .int .i64 r.f6, .slice B7 r.f7.length d7, .slice B8 r.f8.length d8, .slice B9 r.f9.length d9, .slice B10 r.f10.length d10, .int .i64 r.f11, .int .i64 r.f12] rfl)
    have hgF := MF.blk_at 1 rfl
    refine bodyPost_ret (results_list (rs := [.cell 2 45, .tmp 3, .tmp 4]) rfl (by simp) (.cell (w.heap.size + 1) 45 #[.int .i64 r.f0, .int .i64 r.f1, .int .i64 r.f2, .int .i64 r.f3, .int .i64 r.f4, .slice B5 r.f5.length d5, .int .i64 r.f6, .slice B7 r.f7.length d7, .slice B8 r.f8.length d8, .slice B9 r.f9.length d9, .slice B10 r.f10.length d10, .int .i64 r.f11, .int .i64 r.f12] (0, 0) _ rfl hgF Try.underlying45 rfl (by kernel_rfl) (.tmp (.tmp .nil)))) rfl ?_
    exact ⟨_, _, _, _, _, _, rfl, Mem.sel (ps := [_, _, _, _, _, _, _, _, _]) (F := []) [4, 5, 6, 7, 8, 0] 9 (Mem.row_nil MF kM 29) rfl rfl⟩
set_option maxRecDepth 100000 in
set_option maxHeartbeats 8000000 in
theorem Suspect_n1 (r : Rep) (A5 A7 A8 A9 A10 : Option Addr) (c5 c7 c8 c9 c10 : Nat) (w : World) (h : RdRep w r A5 A7 A8 A9 A10) (hn : Small r) (h1 : may r = true) (h2 : ¬ maxTime ≤ r.f2 + 1) (h3 : r.f1 = 1) :
    Calls Try.prog 36 #[.agg (rc r (.slice A5 r.f5.length c5) (.slice A7 r.f7.length c7) (.slice A8 r.f8.length c8) (.slice A9 r.f9.length c9) (.slice A10 r.f10.length c10))] w fun e w' => ∃ v5 v7 v8 v9 v10 vout : Value, e = .returned (.tuple #[.agg (rc (normal r (r.f2 + 1) r.f5 r.f6) v5 v7 v8 v9 v10), vout, .int .i64 0]) ∧ Mem w w' (rows (normal r (r.f2 + 1) r.f5 r.f6) v5 v7 v8 v9 v10 ++ [row kM 29 vout []]) := by
  have hp := (may_iff r).1 h1
  have hn0 : 0 < r.f1 ∧ r.f1 ≤ 5 := by
    have := hp.1
    unfold size at this
    simp at this
    omega
  have hv : 0 ≤ r.f2 ∧ r.f2 < 1099511627776 := by
    have := hp.2.2.2.1
    unfold below maxTime at this
    simpa using this
  have hi : 0 ≤ r.f0 ∧ r.f0 < r.f1 := ⟨hp.2.1, hp.2.2.1⟩
  have HP := Aside0.mk hp
  clear hp
  obtain ⟨hn1, hn5⟩ := hn0
  obtain ⟨hv1, hv2⟩ := hv
  obtain ⟨hi1, hi2⟩ := hi
  have E1 := Aside0.mk h1
  have e2 : decide (1099511627776 ≤ r.f2 + 1) = false := decide_eq_false h2
  have e3 : (r.f1 == 1) = true := by simpa using h3
  clear h1 h2 h3
  have H := Aside0.mk h
  have HN := Aside0.mk hn
  have M1 := Aside0.mk (((Mem.nil w).alloc #[.int .i64 r.f0, .int .i64 r.f1, .int .i64 r.f2, .int .i64 r.f3, .int .i64 r.f4, .slice A5 r.f5.length c5, .int .i64 r.f6, .slice A7 r.f7.length c7, .slice A8 r.f8.length c8, .slice A9 r.f9.length c9, .slice A10 r.f10.length c10, .int .i64 r.f11, .int .i64 r.f12] 45).allocAt #[.int .i64 0, .int .i64 0, .int .i64 0, .int .i64 0, .int .i64 0, .slice none 0 0, .int .i64 0, .slice none 0 0, .slice none 0 0, .slice none 0 0, .slice none 0 0, .int .i64 0, .int .i64 0] 45 (w.heap.size + 1) (by simp))
  clear h hn
  unfold rc
  go_enter Try.func36, Try.ntmps36
  go_wp2_with fail
  refine (copied_calls r A5 A7 A8 A9 A10 c5 c7 c8 c9 c10 _ (H.out.below M1.out.below) HN.out).mono ?_
  rintro e w2 ⟨v5, v7, v8, v9, v10, rfl, hM⟩
  unfold rc
  obtain ⟨B5, d5, rfl, _, _⟩ := hM.row_at 0 rfl
  obtain ⟨B7, d7, rfl, _, _⟩ := hM.row_at 1 rfl
  obtain ⟨B8, d8, rfl, _, _⟩ := hM.row_at 2 rfl
  obtain ⟨B9, d9, rfl, _, _⟩ := hM.row_at 3 rfl
  obtain ⟨B10, d10, rfl, _, _⟩ := hM.row_at 4 rfl
  have M3 := Aside0.mk (Mem.sel (ps := [_, _, _, _, _, _, _]) (F := []) [5, 6, 0, 1, 2, 3, 4] 7 (M1.out.trans hM) rfl rfl)
  clear hM M1
  have hb0 := blk_lt (M3.out.blk_at 1 rfl)
  have hb1 := blk_lt (M3.out.blk_at 0 rfl)
  have M4 := Aside0.mk (M3.out.allocAt #[.int .i64 r.f0, .int .i64 r.f1, .int .i64 r.f2, .int .i64 r.f3, .int .i64 r.f4, .slice B5 r.f5.length d5, .int .i64 r.f6, .slice B7 r.f7.length d7, .slice B8 r.f8.length d8, .slice B9 r.f9.length d9, .slice B10 r.f10.length d10, .int .i64 r.f11, .int .i64 r.f12, .slice none 0 0] 99 w2.heap.size rfl)
  clear M3
  have cR := blk_cell (M4.out.blk_at 2 rfl)
  go_wp2_with fail
  refine (May_calls r A5 A7 A8 A9 A10 c5 c7 c8 c9 c10 _ (Kd.C_below H.out.h5 M4.out.below) (Kd.C_below H.out.h7 M4.out.below) (Kd.C_below H.out.h8 M4.out.below) (Kd.C_below H.out.h9 M4.out.below) (Kd.C_below H.out.h10 M4.out.below) HN.out).mono ?_
  rintro e w3 ⟨he, hM⟩
  rw [E1.out] at he
  subst he
  have M5 := Aside0.mk (M4.out.trans hM)
  clear hM M4 cR hb0 hb1
  have cR := blk_cell (M5.out.blk_at 2 rfl)
  have cW := blk_cell (M5.out.blk_at 0 rfl)
  have fW := blk_frozen (M5.out.blk_at 0 rfl)
  have cZ := blk_cell (M5.out.blk_at 1 rfl)
  have fZ := blk_frozen (M5.out.blk_at 1 rfl)
  have hbW := blk_lt (M5.out.blk_at 0 rfl)
  have hbZ := blk_lt (M5.out.blk_at 1 rfl)
  go_wp2_with fail
  obtain ⟨cm, hcm⟩ : ∃ cm, (if r.f1 = 1 then (r.f5.length : Int) else min (max r.f6 r.f6) (r.f5.length : Int)) = cm := ⟨_, rfl⟩
  have HCM := Aside0.mk hcm
  clear hcm
  refine (normal_calls w _ _ w2.heap.size r.f0 r.f1 r.f2 r.f3 r.f4 _ r.f6 _ _ _ _ r.f11 r.f12 _ (r.f2 + 1) r.f6 A5 c5 r.f5 M5.out (fun w' b hM => Kd.C_below H.out.h5 hM.below) HN.out.1 hi1 hi2 hn5 cm HCM.out).mono ?_
  rintro e w4 ⟨v5, v7, rfl, hM⟩
  obtain ⟨C5, e5, rfl, _, _⟩ := hM.row_at 2 rfl
  obtain ⟨C7, e7, rfl, _, _⟩ := hM.row_at 1 rfl
  obtain ⟨q7, hq7⟩ : ∃ q7, ((List.replicate r.f1.toNat (0 : Int)).set r.f0.toNat (r.f5.length : Int)).length = q7 := ⟨_, rfl⟩
  rw [hq7] at hM
  have M6 := Aside0.mk hM
  clear hM hq7 M5 cR cW fW cZ fZ hbW hbZ
  have cW := blk_cell (M6.out.blk_at 0 rfl)
  have cZ := blk_cell (M6.out.blk_at 3 rfl)
  have fZ := blk_frozen (M6.out.blk_at 3 rfl)
  have hbZ := blk_lt (M6.out.blk_at 3 rfl)
  have nWZ := Wh0.blk_ne M6.out 0 3 rfl rfl (by decide)
  unfold Wa.wc at cW
  go_upto_region 9 with (fail)
  go_region
  all_goals
    go_wp2
    have MF := (M6.out.setRow 3 rfl [.int .i64 r.f0, .int .i64 r.f1, .int .i64 (r.f2 + 1), .int .i64 (r.f2 + 1), .int .i64 0, .slice C5 r.f5.length e5, .int .i64 cm, .slice C7 q7 e7, .slice none 0 0, .slice none 0 0, .slice none 0 0, .int .i64 (-1), .int .i64 0] rfl).drew
    have hgF := MF.blk_at 3 rfl
    refine bodyPost_ret (results_list (rs := [.cell 2 45, .tmp 3, .tmp 4]) rfl (by simp) (.cell (w.heap.size + 1) 45 #[.int .i64 r.f0, .int .i64 r.f1, .int .i64 (r.f2 + 1), .int .i64 (r.f2 + 1), .int .i64 0, .slice C5 r.f5.length e5, .int .i64 cm, .slice C7 q7 e7, .slice none 0 0, .slice none 0 0, .slice none 0 0, .int .i64 (-1), .int .i64 0] (0, 0) _ rfl hgF Try.underlying45 rfl (by kernel_rfl) (.tmp (.tmp .nil)))) rfl ?_
    have hcm := HCM.out
    subst hcm
    refine ⟨_, _, _, _, _, _, rfl, ?_⟩
    have MH := Mem.row_nil (Mem.row_nil (Mem.row_nil (Mem.row_nil MF (Kd.int .i64) 3) (Kd.int .i64) 3) kE 102) kM 29
    exact Mem.sel (ps := [_, _, _, _, _, _, _, _, _, _, _, _, _, _]) (F := []) [6, 5, 3, 2, 1, 0] 14 MH rfl rfl
set_option maxRecDepth 100000 in
set_option maxHeartbeats 8000000 in
theorem Suspect_nn (r : Rep) (A5 A7 A8 A9 A10 : Option Addr) (c5 c7 c8 c9 c10 : Nat) (w : World) (h : RdRep w r A5 A7 A8 A9 A10) (hn : Small r) (h1 : may r = true) (h2 : ¬ maxTime ≤ r.f2 + 1) (h3 : ¬ r.f1 = 1) (ms : List Msg) (hms : (allFrom r.f0 r.f1 (r.f2 + 1) ⟨4, 0, 0, 0, 0, 0, 0, []⟩ r.f1.toNat 0) = ms) :
    Calls Try.prog 36 #[.agg (rc r (.slice A5 r.f5.length c5) (.slice A7 r.f7.length c7) (.slice A8 r.f8.length c8) (.slice A9 r.f9.length c9) (.slice A10 r.f10.length c10))] w fun e w' => ∃ v5 v7 v8 v9 v10 vout : Value, e = .returned (.tuple #[.agg (rc (change r (r.f2 + 1)) v5 v7 v8 v9 v10), vout, .int .i64 0]) ∧ Mem w w' (rows (change r (r.f2 + 1)) v5 v7 v8 v9 v10 ++ [row kM 29 vout ms]) := by
  have hp := (may_iff r).1 h1
  have hn0 : 0 < r.f1 ∧ r.f1 ≤ 5 := by
    have := hp.1
    unfold size at this
    simp at this
    omega
  have hv : 0 ≤ r.f2 ∧ r.f2 < 1099511627776 := by
    have := hp.2.2.2.1
    unfold below maxTime at this
    simpa using this
  have hi : 0 ≤ r.f0 ∧ r.f0 < r.f1 := ⟨hp.2.1, hp.2.2.1⟩
  have HP := Aside0.mk hp
  clear hp
  obtain ⟨hn1, hn5⟩ := hn0
  obtain ⟨hv1, hv2⟩ := hv
  obtain ⟨hi1, hi2⟩ := hi
  have E1 := Aside0.mk h1
  have e2 : decide (1099511627776 ≤ r.f2 + 1) = false := decide_eq_false h2
  have e3 : (r.f1 == 1) = false := by simpa using h3
  have HMS := Aside0.mk hms
  clear h1 h2 h3 hms
  have H := Aside0.mk h
  have HN := Aside0.mk hn
  have M1 := Aside0.mk (((Mem.nil w).alloc #[.int .i64 r.f0, .int .i64 r.f1, .int .i64 r.f2, .int .i64 r.f3, .int .i64 r.f4, .slice A5 r.f5.length c5, .int .i64 r.f6, .slice A7 r.f7.length c7, .slice A8 r.f8.length c8, .slice A9 r.f9.length c9, .slice A10 r.f10.length c10, .int .i64 r.f11, .int .i64 r.f12] 45).allocAt #[.int .i64 0, .int .i64 0, .int .i64 0, .int .i64 0, .int .i64 0, .slice none 0 0, .int .i64 0, .slice none 0 0, .slice none 0 0, .slice none 0 0, .slice none 0 0, .int .i64 0, .int .i64 0] 45 (w.heap.size + 1) (by simp))
  clear h hn
  unfold rc
  go_enter Try.func36, Try.ntmps36
  go_wp2_with fail
  refine (copied_calls r A5 A7 A8 A9 A10 c5 c7 c8 c9 c10 _ (H.out.below M1.out.below) HN.out).mono ?_
  rintro e w2 ⟨v5, v7, v8, v9, v10, rfl, hM⟩
  unfold rc
  obtain ⟨B5, d5, rfl, _, _⟩ := hM.row_at 0 rfl
  obtain ⟨B7, d7, rfl, _, _⟩ := hM.row_at 1 rfl
  obtain ⟨B8, d8, rfl, _, _⟩ := hM.row_at 2 rfl
  obtain ⟨B9, d9, rfl, _, _⟩ := hM.row_at 3 rfl
  obtain ⟨B10, d10, rfl, _, _⟩ := hM.row_at 4 rfl
  have M3 := Aside0.mk (Mem.sel (ps := [_, _, _, _, _, _, _]) (F := []) [5, 6, 0, 1, 2, 3, 4] 7 (M1.out.trans hM) rfl rfl)
  clear hM M1
  have hb0 := blk_lt (M3.out.blk_at 1 rfl)
  have hb1 := blk_lt (M3.out.blk_at 0 rfl)
  have M4 := Aside0.mk (M3.out.allocAt #[.int .i64 r.f0, .int .i64 r.f1, .int .i64 r.f2, .int .i64 r.f3, .int .i64 r.f4, .slice B5 r.f5.length d5, .int .i64 r.f6, .slice B7 r.f7.length d7, .slice B8 r.f8.length d8, .slice B9 r.f9.length d9, .slice B10 r.f10.length d10, .int .i64 r.f11, .int .i64 r.f12, .slice none 0 0] 99 w2.heap.size rfl)
  clear M3
  have cR := blk_cell (M4.out.blk_at 2 rfl)
  go_wp2_with fail
  refine (May_calls r A5 A7 A8 A9 A10 c5 c7 c8 c9 c10 _ (Kd.C_below H.out.h5 M4.out.below) (Kd.C_below H.out.h7 M4.out.below) (Kd.C_below H.out.h8 M4.out.below) (Kd.C_below H.out.h9 M4.out.below) (Kd.C_below H.out.h10 M4.out.below) HN.out).mono ?_
  rintro e w3 ⟨he, hM⟩
  rw [E1.out] at he
  subst he
  have M5 := Aside0.mk (M4.out.trans hM)
  clear hM M4 cR hb0 hb1
  have cR := blk_cell (M5.out.blk_at 2 rfl)
  have cW := blk_cell (M5.out.blk_at 0 rfl)
  have fW := blk_frozen (M5.out.blk_at 0 rfl)
  have cZ := blk_cell (M5.out.blk_at 1 rfl)
  have fZ := blk_frozen (M5.out.blk_at 1 rfl)
  have hbW := blk_lt (M5.out.blk_at 0 rfl)
  have hbZ := blk_lt (M5.out.blk_at 1 rfl)
  go_wp2_with fail
  refine (change_calls w _ _ w2.heap.size r.f0 r.f1 r.f2 r.f3 r.f4 _ r.f6 _ _ _ _ r.f11 r.f12 (.slice none 0 0) [] (r.f2 + 1) (Mem.sel (ps := [_, _, _, _, _, _, _, _, _]) (F := []) [1, 0, 2, 3, 4, 5, 6, 7, 8] 9 (Mem.row_nil M5.out kM 29) rfl rfl) hn1 hn5 (by simp)).mono ?_
  rintro e w4 ⟨v8, vout, rfl, hM⟩
  obtain ⟨Co, eo, rfl, _, _⟩ := hM.row_at 1 rfl
  obtain ⟨C8, e8, rfl, _, _⟩ := hM.row_at 2 rfl
  rw [HMS.out, List.nil_append] at hM
  have M6 := Aside0.mk hM
  clear hM M5 cR cW fW cZ fZ hbW hbZ
  have cW := blk_cell (M6.out.blk_at 0 rfl)
  have cZ := blk_cell (M6.out.blk_at 3 rfl)
  have fZ := blk_frozen (M6.out.blk_at 3 rfl)
  have hbZ := blk_lt (M6.out.blk_at 3 rfl)
  have nWZ := Wh0.blk_ne M6.out 0 3 rfl rfl (by decide)
  unfold Wa.wc at cW
  simp only [List.length_singleton, List.length_cons, List.length_nil, Nat.zero_add] at cW
  go_upto_region 9 with (fail)
  go_region
  all_goals
    go_wp2
    have MF := (M6.out.setRow 3 rfl [.int .i64 r.f0, .int .i64 r.f1, .int .i64 (r.f2 + 1), .int .i64 r.f3, .int .i64 1, .slice B5 r.f5.length d5, .int .i64 r.f6, .slice B7 r.f7.length d7, .slice C8 1 e8, .slice none 0 0, .slice none 0 0, .int .i64 (-1), .int .i64 0] rfl).drew
    have hgF := MF.blk_at 3 rfl
    refine bodyPost_ret (results_list (rs := [.cell 2 45, .tmp 3, .tmp 4]) rfl (by simp) (.cell (w.heap.size + 1) 45 #[.int .i64 r.f0, .int .i64 r.f1, .int .i64 (r.f2 + 1), .int .i64 r.f3, .int .i64 1, .slice B5 r.f5.length d5, .int .i64 r.f6, .slice B7 r.f7.length d7, .slice C8 1 e8, .slice none 0 0, .slice none 0 0, .int .i64 (-1), .int .i64 0] (0, 0) _ rfl hgF Try.underlying45 rfl (by kernel_rfl) (.tmp (.tmp .nil)))) rfl ?_
    refine ⟨_, _, _, _, _, _, rfl, ?_⟩
    have MH := Mem.row_nil (Mem.row_nil MF (Kd.int .i64) 3) kE 102
    exact Mem.sel (ps := [_, _, _, _, _, _, _, _, _, _, _, _]) (F := []) [7, 8, 4, 1, 0, 3] 12 MH rfl rfl
theorem Suspect_calls (r : Rep) (A5 A7 A8 A9 A10 : Option Addr) (c5 c7 c8 c9 c10 : Nat) (w : World) (h : RdRep w r A5 A7 A8 A9 A10) (hn : Small r) (s : Rep) (msgs : List Msg) (code : Int) (hs : suspect r = (s, msgs, code)) :
    Calls Try.prog 36 #[.agg (rc r (.slice A5 r.f5.length c5) (.slice A7 r.f7.length c7) (.slice A8 r.f8.length c8) (.slice A9 r.f9.length c9) (.slice A10 r.f10.length c10))] w fun e w' => ∃ v5 v7 v8 v9 v10 vout : Value, e = .returned (.tuple #[.agg (rc s v5 v7 v8 v9 v10), vout, .int .i64 code]) ∧ Mem w w' (rows s v5 v7 v8 v9 v10 ++ [row kM 29 vout msgs]) := by
  unfold suspect at hs
  cases h1 : may r with
  | false =>
    rw [h1, if_neg (by simp)] at hs
    cases hs
    exact Suspect_e1 r A5 A7 A8 A9 A10 c5 c7 c8 c9 c10 w h hn h1
  | true =>
    rw [h1, if_pos rfl] at hs
    by_cases h2 : maxTime ≤ r.f2 + 1
    · rw [if_pos h2] at hs
      cases hs
      exact Suspect_e4 r A5 A7 A8 A9 A10 c5 c7 c8 c9 c10 w h hn h1 h2
    · rw [if_neg h2] at hs
      by_cases h3 : r.f1 = 1
      · rw [if_pos h3] at hs
        cases hs
        exact Suspect_n1 r A5 A7 A8 A9 A10 c5 c7 c8 c9 c10 w h hn h1 h2 h3
      · rw [if_neg h3] at hs
        cases hs
        exact Suspect_nn r A5 A7 A8 A9 A10 c5 c7 c8 c9 c10 w h hn h1 h2 h3 _ rfl
end Go.Proofs.Ytggbjokhniigkaa.Sb
