/- Suspect, the reference's. -/
import Derived.Test.YtggbjokhniigkaaSb
import Derived.Test.YtggbjokhniigkaaVc
import Derived.Test.YtggbjokhniigkaaRd
namespace Go.Proofs.Ytggbjokhniigkaa.Sc
open Go.Proofs.Ytggbjokhniigkaa.Ty Go.RowKit Go.Proofs.YtggbjokhniigkaaW.PrintWords Go.Proofs.YtggbjokhniigkaaW.PrintLast Go.Proofs.YtggbjokhniigkaaW.PrintMore Go.Proofs.Ytggbjokhniigkaa.Mx Go.Proofs.Ytggbjokhniigkaa.Kx Go.Proofs.Ytggbjokhniigkaa.Wa Go.Proofs.Ytggbjokhniigkaa.Wb Go.Proofs.Ytggbjokhniigkaa.Wc Go.Proofs.Ytggbjokhniigkaa.Wd Go.Proofs.Ytggbjokhniigkaa.We Go.Proofs.Ytggbjokhniigkaa.Sa Go.Proofs.Ytggbjokhniigkaa.Sb Go.Proofs.Ytggbjokhniigkaa.Vc Go.Proofs.Ytggbjokhniigkaa.Rd Go.Proofs.Ytggbjokhniigkaa.Wj
set_option linter.unusedVariables false
set_option linter.unusedSimpArgs false
/-- What is handed back: it reads as s, and what was there stays. -/
def OutS (w w' : World) (e : Ending) (s : Rep) (msgs : List Msg) (code : Int) : Prop :=
  ∃ (B5 B7 B8 B9 B10 Bo : Option Addr) (d5 d7 d8 d9 d10 co : Nat), e = .returned (.tuple #[.agg #[.int .i64 s.f0, .int .i64 s.f1, .int .i64 s.f2, .int .i64 s.f3, .int .i64 s.f4, .slice B5 s.f5.length d5, .int .i64 s.f6, .slice B7 s.f7.length d7, .slice B8 s.f8.length d8, .slice B9 s.f9.length d9, .slice B10 s.f10.length d10, .int .i64 s.f11, .int .i64 s.f12], .slice Bo msgs.length co, .int .i64 code]) ∧ RdRep w' s B5 B7 B8 B9 B10 ∧ Fit s d5 d7 d8 d9 d10 ∧ Kd.C kM w' Bo msgs.length msgs ∧ msgs.length ≤ co ∧ Below w.heap.size w w'
theorem OutS_of {w w' : World} {s : Rep} {msgs : List Msg} {code : Int} {v5 v7 v8 v9 v10 vo : Value} {F : List Res} (hM : Mem w w' (row kE 102 v5 s.f5 :: row (Kd.int .i64) 3 v7 s.f7 :: row (Kd.int .i64) 3 v8 s.f8 :: row (Kd.int .i64) 3 v9 s.f9 :: row kE 102 v10 s.f10 :: row kM 29 vo msgs :: F)) :
    OutS w w' (.returned (.tuple #[.agg #[.int .i64 s.f0, .int .i64 s.f1, .int .i64 s.f2, .int .i64 s.f3, .int .i64 s.f4, v5, .int .i64 s.f6, v7, v8, v9, v10, .int .i64 s.f11, .int .i64 s.f12], vo, .int .i64 code])) s msgs code := by
  obtain ⟨B5, d5, rfl, h5, g5⟩ := hM.row_at 0 rfl
  obtain ⟨B7, d7, rfl, h7, g7⟩ := hM.row_at 1 rfl
  obtain ⟨B8, d8, rfl, h8, g8⟩ := hM.row_at 2 rfl
  obtain ⟨B9, d9, rfl, h9, g9⟩ := hM.row_at 3 rfl
  obtain ⟨B10, d10, rfl, h10, g10⟩ := hM.row_at 4 rfl
  obtain ⟨Bo, co, rfl, ho, go⟩ := hM.row_at 5 rfl
  exact ⟨B5, B7, B8, B9, B10, Bo, d5, d7, d8, d9, d10, co, rfl, ⟨g5, g7, g8, g9, g10⟩, ⟨h5, h7, h8, h9, h10⟩, go, ho, hM.below⟩
set_option maxRecDepth 100000 in
set_option maxHeartbeats 8000000 in
theorem Suspect11_e1 (r : Rep) (A5 A7 A8 A9 A10 : Option Addr) (c5 c7 c8 c9 c10 : Nat) (w : World) (h : RdRep w r A5 A7 A8 A9 A10) (hc : Fit r c5 c7 c8 c9 c10) (hs : r.f5.length ≤ 1200 ∧ r.f7.length ≤ 20 ∧ r.f8.length ≤ 20 ∧ r.f9.length ≤ 20 ∧ r.f10.length ≤ 1200) (h1 : may r = false) :
    Calls Try.prog 37 #[.agg #[.int .i64 r.f0, .int .i64 r.f1, .int .i64 r.f2, .int .i64 r.f3, .int .i64 r.f4, .slice A5 r.f5.length c5, .int .i64 r.f6, .slice A7 r.f7.length c7, .slice A8 r.f8.length c8, .slice A9 r.f9.length c9, .slice A10 r.f10.length c10, .int .i64 r.f11, .int .i64 r.f12]] w fun e w' => OutS w w' e r [] 1 := by
  have E1 := Aside0.mk h1
  clear h1
  have H := Aside0.mk h
  have HC := Aside0.mk hc
  have HS := Aside0.mk hs
  have M1 := Aside0.mk (((Mem.nil w).alloc #[.int .i64 r.f0, .int .i64 r.f1, .int .i64 r.f2, .int .i64 r.f3, .int .i64 r.f4, .slice A5 r.f5.length c5, .int .i64 r.f6, .slice A7 r.f7.length c7, .slice A8 r.f8.length c8, .slice A9 r.f9.length c9, .slice A10 r.f10.length c10, .int .i64 r.f11, .int .i64 r.f12] 45).allocAt #[.int .i64 0, .int .i64 0, .int .i64 0, .int .i64 0, .int .i64 0, .slice none 0 0, .int .i64 0, .slice none 0 0, .slice none 0 0, .slice none 0 0, .slice none 0 0, .int .i64 0, .int .i64 0] 45 (w.heap.size + 1) (by simp))
  clear h hc hs
  go_enter Try.func37, Try.ntmps37
  go_wp2_with fail
  refine (May11_calls r A5 A7 A8 A9 A10 c5 c7 c8 c9 c10 _ (H.out.below M1.out.below) HC.out HS.out).mono ?_
  rintro e w1 ⟨he, hb⟩
  rw [E1.out] at he
  subst he
  have M2 := Aside0.mk (M1.out.grow hb)
  clear hb M1
  have cB := blk_cell (M2.out.blk_at 1 rfl)
  have cZ := blk_cell (M2.out.blk_at 0 rfl)
  have fZ := blk_frozen (M2.out.blk_at 0 rfl)
  go_wp2_with fail
  all_goals
    have MF := (M2.out.setRow 0 rfl [.int .i64 r.f0, .int .i64 r.f1, .int .i64 r.f2, .int .i64 r.f3, .int .i64 r.f4, .slice A5 r.f5.length c5, .int .i64 r.f6, .slice A7 r.f7.length c7, .slice A8 r.f8.length c8, .slice A9 r.f9.length c9, .slice A10 r.f10.length c10, .int .i64 r.f11, .int .i64 r.f12] rfl)
    have hgF := MF.blk_at 0 rfl
    refine bodyPost_ret (results_list (rs := [.cell 2 45, .tmp 3, .tmp 4]) rfl (by simp) (.cell (w.heap.size + 1) 45 #[.int .i64 r.f0, .int .i64 r.f1, .int .i64 r.f2, .int .i64 r.f3, .int .i64 r.f4, .slice A5 r.f5.length c5, .int .i64 r.f6, .slice A7 r.f7.length c7, .slice A8 r.f8.length c8, .slice A9 r.f9.length c9, .slice A10 r.f10.length c10, .int .i64 r.f11, .int .i64 r.f12] (0, 0) _ rfl hgF Try.underlying45 rfl (by kernel_rfl) (.tmp (.tmp .nil)))) rfl ?_
    exact ⟨A5, A7, A8, A9, A10, none, c5, c7, c8, c9, c10, 0, rfl, H.out.below MF.below, HC.out, C_zero _, Nat.le_refl _, MF.below⟩
set_option maxRecDepth 100000 in
set_option maxHeartbeats 8000000 in
theorem Suspect11_e4 (r : Rep) (A5 A7 A8 A9 A10 : Option Addr) (c5 c7 c8 c9 c10 : Nat) (w : World) (h : RdRep w r A5 A7 A8 A9 A10) (hc : Fit r c5 c7 c8 c9 c10) (hs : r.f5.length ≤ 1200 ∧ r.f7.length ≤ 20 ∧ r.f8.length ≤ 20 ∧ r.f9.length ≤ 20 ∧ r.f10.length ≤ 1200) (h1 : may r = true) (h2 : maxTime ≤ r.f2 + 1) :
    Calls Try.prog 37 #[.agg #[.int .i64 r.f0, .int .i64 r.f1, .int .i64 r.f2, .int .i64 r.f3, .int .i64 r.f4, .slice A5 r.f5.length c5, .int .i64 r.f6, .slice A7 r.f7.length c7, .slice A8 r.f8.length c8, .slice A9 r.f9.length c9, .slice A10 r.f10.length c10, .int .i64 r.f11, .int .i64 r.f12]] w fun e w' => OutS w w' e r [] 4 := by
  have hp := (may_iff r).1 h1
  have hn0 : 0 < r.f1 ∧ r.f1 ≤ 5 := by
    have := hp.1
    unfold size at this
    simp at this
    omega
  have hv : 0 ≤ r.f2 ∧ r.f2 < 1099511627776 := by
    have := hp.2.2.2.1
    unfold below maxTime at this
    simpa using this
  have hi : 0 ≤ r.f0 ∧ r.f0 < r.f1 := ⟨hp.2.1, hp.2.2.1⟩
  have HP := Aside0.mk hp
  clear hp
  obtain ⟨hn1, hn5⟩ := hn0
  obtain ⟨hv1, hv2⟩ := hv
  obtain ⟨hi1, hi2⟩ := hi
  have E1 := Aside0.mk h1
  have e2 : decide (1099511627775 ≤ r.f2) = true := decide_eq_true (by unfold maxTime at h2; omega)
  clear h1 h2
  have H := Aside0.mk h
  have HC := Aside0.mk hc
  have HS := Aside0.mk hs
  have M1 := Aside0.mk (((Mem.nil w).alloc #[.int .i64 r.f0, .int .i64 r.f1, .int .i64 r.f2, .int .i64 r.f3, .int .i64 r.f4, .slice A5 r.f5.length c5, .int .i64 r.f6, .slice A7 r.f7.length c7, .slice A8 r.f8.length c8, .slice A9 r.f9.length c9, .slice A10 r.f10.length c10, .int .i64 r.f11, .int .i64 r.f12] 45).allocAt #[.int .i64 0, .int .i64 0, .int .i64 0, .int .i64 0, .int .i64 0, .slice none 0 0, .int .i64 0, .slice none 0 0, .slice none 0 0, .slice none 0 0, .slice none 0 0, .int .i64 0, .int .i64 0] 45 (w.heap.size + 1) (by simp))
  clear h hc hs
  go_enter Try.func37, Try.ntmps37
  go_wp2_with fail
  refine (May11_calls r A5 A7 A8 A9 A10 c5 c7 c8 c9 c10 _ (H.out.below M1.out.below) HC.out HS.out).mono ?_
  rintro e w1 ⟨he, hb⟩
  rw [E1.out] at he
  subst he
  have M2 := Aside0.mk (M1.out.grow hb)
  clear hb M1
  have cB := blk_cell (M2.out.blk_at 1 rfl)
  have cZ := blk_cell (M2.out.blk_at 0 rfl)
  have fZ := blk_frozen (M2.out.blk_at 0 rfl)
  go_wp2_with fail
  all_goals
    have MF := (M2.out.setRow 0 rfl [.int .i64 r.f0, .int .i64 r.f1, .int .i64 r.f2, .int .i64 r.f3, .int .i64 r.f4, .slice A5 r.f5.length c5, .int .i64 r.f6, .slice A7 r.f7.length c7, .slice A8 r.f8.length c8, .slice A9 r.f9.length c9, .slice A10 r.f10.length c10, .int .i64 r.f11, .int .i64 r.f12] rfl)
    have hgF := MF.blk_at 0 rfl
    refine bodyPost_ret (results_list (rs := [.cell 2 45, .tmp 3, .tmp 4]) rfl (by simp) (.cell (w.heap.size + 1) 45 #[.int .i64 r.f0, .int .i64 r.f1, .int .i64 r.f2, .int .i64 r.f3, .int .i64 r.f4, .slice A5 r.f5.length c5, .int .i64 r.f6, .slice A7 r.f7.length c7, .slice A8 r.f8.length c8, .slice A9 r.f9.length c9, .slice A10 r.f10.length c10, .int .i64 r.f11, .int .i64 r.f12] (0, 0) _ rfl hgF Try.underlying45 rfl (by kernel_rfl) (.tmp (.tmp .nil)))) rfl ?_
    exact ⟨A5, A7, A8, A9, A10, none, c5, c7, c8, c9, c10, 0, rfl, H.out.below MF.below, HC.out, C_zero _, Nat.le_refl _, MF.below⟩
set_option maxRecDepth 100000 in
set_option maxHeartbeats 8000000 in
theorem Suspect11_nn (r : Rep) (A5 A7 A8 A9 A10 : Option Addr) (c5 c7 c8 c9 c10 : Nat) (w : World) (h : RdRep w r A5 A7 A8 A9 A10) (hc : Fit r c5 c7 c8 c9 c10) (hs : r.f5.length ≤ 1200 ∧ r.f7.length ≤ 20 ∧ r.f8.length ≤ 20 ∧ r.f9.length ≤ 20 ∧ r.f10.length ≤ 1200) (h1 : may r = true) (h2 : ¬ maxTime ≤ r.f2 + 1) (h3 : ¬ r.f1 = 1) (ms : List Msg) (hms : (allFrom r.f0 r.f1 (r.f2 + 1) ⟨4, 0, 0, 0, 0, 0, 0, []⟩ r.f1.toNat 0) = ms) :
    Calls Try.prog 37 #[.agg #[.int .i64 r.f0, .int .i64 r.f1, .int .i64 r.f2, .int .i64 r.f3, .int .i64 r.f4, .slice A5 r.f5.length c5, .int .i64 r.f6, .slice A7 r.f7.length c7, .slice A8 r.f8.length c8, .slice A9 r.f9.length c9, .slice A10 r.f10.length c10, .int .i64 r.f11, .int .i64 r.f12]] w fun e w' => OutS w w' e (change r (r.f2 + 1)) ms 0 := by
  have hp := (may_iff r).1 h1
  have hn0 : 0 < r.f1 ∧ r.f1 ≤ 5 := by
    have := hp.1
    unfold size at this
    simp at this
    omega
  have hv : 0 ≤ r.f2 ∧ r.f2 < 1099511627776 := by
    have := hp.2.2.2.1
    unfold below maxTime at this
    simpa using this
  have hi : 0 ≤ r.f0 ∧ r.f0 < r.f1 := ⟨hp.2.1, hp.2.2.1⟩
  have HP := Aside0.mk hp
  clear hp
  obtain ⟨hn1, hn5⟩ := hn0
  obtain ⟨hv1, hv2⟩ := hv
  obtain ⟨hi1, hi2⟩ := hi
  have E1 := Aside0.mk h1
  have e2 : decide (1099511627775 ≤ r.f2) = false := decide_eq_false (by unfold maxTime at h2; omega)
  have e3 : (r.f1 == 1) = false := by simpa using h3
  have HMS := Aside0.mk hms
  clear h1 h2 h3 hms
  have H := Aside0.mk h
  have HC := Aside0.mk hc
  have HS := Aside0.mk hs
  have M1 := Aside0.mk (((Mem.nil w).alloc #[.int .i64 r.f0, .int .i64 r.f1, .int .i64 r.f2, .int .i64 r.f3, .int .i64 r.f4, .slice A5 r.f5.length c5, .int .i64 r.f6, .slice A7 r.f7.length c7, .slice A8 r.f8.length c8, .slice A9 r.f9.length c9, .slice A10 r.f10.length c10, .int .i64 r.f11, .int .i64 r.f12] 45).allocAt #[.int .i64 0, .int .i64 0, .int .i64 0, .int .i64 0, .int .i64 0, .slice none 0 0, .int .i64 0, .slice none 0 0, .slice none 0 0, .slice none 0 0, .slice none 0 0, .int .i64 0, .int .i64 0] 45 (w.heap.size + 1) (by simp))
  clear h hc hs
  go_enter Try.func37, Try.ntmps37
  go_wp2_with fail
  refine (May11_calls r A5 A7 A8 A9 A10 c5 c7 c8 c9 c10 _ (H.out.below M1.out.below) HC.out HS.out).mono ?_
  rintro e w1 ⟨he, hb⟩
  rw [E1.out] at he
  subst he
  have M2 := Aside0.mk (M1.out.grow hb)
  clear hb M1
  have cB := blk_cell (M2.out.blk_at 1 rfl)
  have cZ := blk_cell (M2.out.blk_at 0 rfl)
  have fZ := blk_frozen (M2.out.blk_at 0 rfl)
  go_wp2_with fail
  refine (Copy11_calls r A5 A7 A8 A9 A10 c5 c7 c8 c9 c10 _ (H.out.below M2.out.below) ⟨Nat.le_trans HS.out.1 (by decide), Nat.le_trans HS.out.2.1 (by decide), Nat.le_trans HS.out.2.2.1 (by decide), Nat.le_trans HS.out.2.2.2.1 (by decide), Nat.le_trans HS.out.2.2.2.2 (by decide)⟩).mono ?_
  rintro e w2 ⟨v5, v7, v8, v9, v10, rfl, hM⟩
  unfold rc
  obtain ⟨B5, d5, rfl, _, _⟩ := hM.row_at 0 rfl
  obtain ⟨B7, d7, rfl, _, _⟩ := hM.row_at 1 rfl
  obtain ⟨B8, d8, rfl, _, _⟩ := hM.row_at 2 rfl
  obtain ⟨B9, d9, rfl, _, _⟩ := hM.row_at 3 rfl
  obtain ⟨B10, d10, rfl, _, _⟩ := hM.row_at 4 rfl
  have M3 := Aside0.mk (M2.out.trans hM)
  clear hM M2 cB cZ fZ
  have M4 := Aside0.mk (M3.out.allocAt #[.int .i64 r.f0, .int .i64 r.f1, .int .i64 r.f2, .int .i64 r.f3, .int .i64 r.f4, .slice B5 r.f5.length d5, .int .i64 r.f6, .slice B7 r.f7.length d7, .slice B8 r.f8.length d8, .slice B9 r.f9.length d9, .slice B10 r.f10.length d10, .int .i64 r.f11, .int .i64 r.f12] 45 w2.heap.size rfl)
  go_wp2_with fail
  refine (change11_calls w _ _ w2.heap.size r.f0 r.f1 r.f2 r.f3 r.f4 _ r.f6 _ _ _ _ r.f11 r.f12 (r.f2 + 1) M4.out hn1 hn5).mono ?_
  rintro e w4 ⟨v8, vout, rfl, hM⟩
  obtain ⟨Co, eo, rfl, _, _⟩ := hM.row_at 1 rfl
  obtain ⟨C8, e8, rfl, _, _⟩ := hM.row_at 2 rfl
  rw [HMS.out] at hM
  have M5 := Aside0.mk hM
  clear hM M4 M3
  have cX := blk_cell (M5.out.blk_at 0 rfl)
  have fX := blk_frozen (M5.out.blk_at 0 rfl)
  have hbX := blk_lt (M5.out.blk_at 0 rfl)
  have cZ := blk_cell (M5.out.blk_at 8 rfl)
  have fZ := blk_frozen (M5.out.blk_at 8 rfl)
  have hbZ := blk_lt (M5.out.blk_at 8 rfl)
  have nXZ := Wh0.blk_ne M5.out 0 8 rfl rfl (by decide)
  unfold qc at cX
  simp only [List.length_singleton, List.length_cons, List.length_nil, Nat.zero_add] at cX
  go_wp2_with fail
  all_goals
    have MF := (M5.out.setRow 8 rfl [.int .i64 r.f0, .int .i64 r.f1, .int .i64 (r.f2 + 1), .int .i64 r.f3, .int .i64 1, .slice B5 r.f5.length d5, .int .i64 r.f6, .slice B7 r.f7.length d7, .slice C8 1 e8, .slice none 0 0, .slice none 0 0, .int .i64 (-1), .int .i64 0] rfl)
    have hgF := MF.blk_at 8 rfl
    refine bodyPost_ret (results_list (rs := [.cell 2 45, .tmp 3, .tmp 4]) rfl (by simp) (.cell (w.heap.size + 1) 45 #[.int .i64 r.f0, .int .i64 r.f1, .int .i64 (r.f2 + 1), .int .i64 r.f3, .int .i64 1, .slice B5 r.f5.length d5, .int .i64 r.f6, .slice B7 r.f7.length d7, .slice C8 1 e8, .slice none 0 0, .slice none 0 0, .int .i64 (-1), .int .i64 0] (0, 0) _ rfl hgF Try.underlying45 rfl (by kernel_rfl) (.tmp (.tmp .nil)))) rfl ?_
    have MH := Mem.row_nil (Mem.row_nil MF (Kd.int .i64) 3) kE 102
    have hms := HMS.out
    subst hms
    exact OutS_of (s := change r (r.f2 + 1)) (Mem.sel (ps := [_, _, _, _, _, _, _, _, _, _, _, _]) (F := []) [5, 6, 4, 1, 0, 3] 12 MH rfl rfl)
set_option maxRecDepth 100000 in
set_option maxHeartbeats 8000000 in
theorem Suspect11_n1 (r : Rep) (A5 A7 A8 A9 A10 : Option Addr) (c5 c7 c8 c9 c10 : Nat) (w : World) (h : RdRep w r A5 A7 A8 A9 A10) (hc : Fit r c5 c7 c8 c9 c10) (hs : r.f5.length ≤ 1200 ∧ r.f7.length ≤ 20 ∧ r.f8.length ≤ 20 ∧ r.f9.length ≤ 20 ∧ r.f10.length ≤ 1200) (h1 : may r = true) (h2 : ¬ maxTime ≤ r.f2 + 1) (h3 : r.f1 = 1) :
    Calls Try.prog 37 #[.agg #[.int .i64 r.f0, .int .i64 r.f1, .int .i64 r.f2, .int .i64 r.f3, .int .i64 r.f4, .slice A5 r.f5.length c5, .int .i64 r.f6, .slice A7 r.f7.length c7, .slice A8 r.f8.length c8, .slice A9 r.f9.length c9, .slice A10 r.f10.length c10, .int .i64 r.f11, .int .i64 r.f12]] w fun e w' => OutS w w' e (normal r (r.f2 + 1) r.f5 r.f6) [] 0 := by
  have hp := (may_iff r).1 h1
  have hn0 : 0 < r.f1 ∧ r.f1 ≤ 5 := by
    have := hp.1
    unfold size at this
    simp at this
    omega
  have hv : 0 ≤ r.f2 ∧ r.f2 < 1099511627776 := by
    have := hp.2.2.2.1
    unfold below maxTime at this
    simpa using this
  have hi : 0 ≤ r.f0 ∧ r.f0 < r.f1 := ⟨hp.2.1, hp.2.2.1⟩
  have HP := Aside0.mk hp
  clear hp
  obtain ⟨hn1, hn5⟩ := hn0
  obtain ⟨hv1, hv2⟩ := hv
  obtain ⟨hi1, hi2⟩ := hi
  have E1 := Aside0.mk h1
  have e2 : decide (1099511627775 ≤ r.f2) = false := decide_eq_false (by unfold maxTime at h2; omega)
  have e3 : (r.f1 == 1) = true := by simpa using h3
  clear h1 h2 h3
  have H := Aside0.mk h
  have HC := Aside0.mk hc
  have HS := Aside0.mk hs
  have M1 := Aside0.mk (((Mem.nil w).alloc #[.int .i64 r.f0, .int .i64 r.f1, .int .i64 r.f2, .int .i64 r.f3, .int .i64 r.f4, .slice A5 r.f5.length c5, .int .i64 r.f6, .slice A7 r.f7.length c7, .slice A8 r.f8.length c8, .slice A9 r.f9.length c9, .slice A10 r.f10.length c10, .int .i64 r.f11, .int .i64 r.f12] 45).allocAt #[.int .i64 0, .int .i64 0, .int .i64 0, .int .i64 0, .int .i64 0, .slice none 0 0, .int .i64 0, .slice none 0 0, .slice none 0 0, .slice none 0 0, .slice none 0 0, .int .i64 0, .int .i64 0] 45 (w.heap.size + 1) (by simp))
  clear h hc hs
  go_enter Try.func37, Try.ntmps37
  go_wp2_with fail
  refine (May11_calls r A5 A7 A8 A9 A10 c5 c7 c8 c9 c10 _ (H.out.below M1.out.below) HC.out HS.out).mono ?_
  rintro e w1 ⟨he, hb⟩
  rw [E1.out] at he
  subst he
  have M2 := Aside0.mk (M1.out.grow hb)
  clear hb M1
  have cB := blk_cell (M2.out.blk_at 1 rfl)
  have cZ := blk_cell (M2.out.blk_at 0 rfl)
  have fZ := blk_frozen (M2.out.blk_at 0 rfl)
  go_wp2_with fail
  refine (Copy11_calls r A5 A7 A8 A9 A10 c5 c7 c8 c9 c10 _ (H.out.below M2.out.below) ⟨Nat.le_trans HS.out.1 (by decide), Nat.le_trans HS.out.2.1 (by decide), Nat.le_trans HS.out.2.2.1 (by decide), Nat.le_trans HS.out.2.2.2.1 (by decide), Nat.le_trans HS.out.2.2.2.2 (by decide)⟩).mono ?_
  rintro e w2 ⟨v5, v7, v8, v9, v10, rfl, hM⟩
  unfold rc
  obtain ⟨B5, d5, rfl, _, _⟩ := hM.row_at 0 rfl
  obtain ⟨B7, d7, rfl, _, _⟩ := hM.row_at 1 rfl
  obtain ⟨B8, d8, rfl, _, _⟩ := hM.row_at 2 rfl
  obtain ⟨B9, d9, rfl, _, _⟩ := hM.row_at 3 rfl
  obtain ⟨B10, d10, rfl, _, _⟩ := hM.row_at 4 rfl
  have M3 := Aside0.mk (M2.out.trans hM)
  clear hM M2 cB cZ fZ
  have M4 := Aside0.mk (M3.out.allocAt #[.int .i64 r.f0, .int .i64 r.f1, .int .i64 r.f2, .int .i64 r.f3, .int .i64 r.f4, .slice B5 r.f5.length d5, .int .i64 r.f6, .slice B7 r.f7.length d7, .slice B8 r.f8.length d8, .slice B9 r.f9.length d9, .slice B10 r.f10.length d10, .int .i64 r.f11, .int .i64 r.f12] 45 w2.heap.size rfl)
  go_wp2_with fail
  refine (change11_calls w _ _ w2.heap.size r.f0 r.f1 r.f2 r.f3 r.f4 _ r.f6 _ _ _ _ r.f11 r.f12 (r.f2 + 1) M4.out hn1 hn5).mono ?_
  rintro e w4 ⟨v8, vout, rfl, hM⟩
  obtain ⟨Co, eo, rfl, _, _⟩ := hM.row_at 1 rfl
  obtain ⟨C8, e8, rfl, _, _⟩ := hM.row_at 2 rfl
  obtain ⟨ms, hms⟩ : ∃ ms, (allFrom r.f0 r.f1 (r.f2 + 1) ⟨4, 0, 0, 0, 0, 0, 0, []⟩ r.f1.toNat 0) = ms := ⟨_, rfl⟩
  have HMS := Aside0.mk hms
  clear hms
  rw [HMS.out] at hM
  have M5 := Aside0.mk hM
  clear hM M4 M3
  have cX := blk_cell (M5.out.blk_at 0 rfl)
  have fX := blk_frozen (M5.out.blk_at 0 rfl)
  have hbX := blk_lt (M5.out.blk_at 0 rfl)
  have cZ := blk_cell (M5.out.blk_at 8 rfl)
  have fZ := blk_frozen (M5.out.blk_at 8 rfl)
  have hbZ := blk_lt (M5.out.blk_at 8 rfl)
  have nXZ := Wh0.blk_ne M5.out 0 8 rfl rfl (by decide)
  unfold qc at cX
  simp only [List.length_singleton, List.length_cons, List.length_nil, Nat.zero_add] at cX
  go_wp2_with fail
  obtain ⟨cm, hcm⟩ : ∃ cm, (if r.f1 = 1 then (r.f5.length : Int) else min (max r.f6 r.f6) (r.f5.length : Int)) = cm := ⟨_, rfl⟩
  have HCM := Aside0.mk hcm
  clear hcm
  refine (normal11_calls w _ _ w2.heap.size r.f0 r.f1 (r.f2 + 1) r.f3 1 _ r.f6 _ _ _ _ (-1) 0 (r.f2 + 1) r.f6 B5 d5 r.f5 M5.out (fun w' b hM => hM.row_C 3 rfl) (Nat.le_trans HS.out.1 (by decide)) hi1 hi2 hn5 cm HCM.out).mono ?_
  rintro e w5 ⟨v5, v7, rfl, hM⟩
  obtain ⟨C5, e5, rfl, _, _⟩ := hM.row_at 2 rfl
  obtain ⟨C7, e7, rfl, _, _⟩ := hM.row_at 1 rfl
  obtain ⟨q7, hq7⟩ : ∃ q7, ((List.replicate r.f1.toNat (0 : Int)).set r.f0.toNat (r.f5.length : Int)).length = q7 := ⟨_, rfl⟩
  rw [hq7] at hM
  have M6 := Aside0.mk hM
  clear hM hq7 M5 cX fX hbX cZ fZ hbZ nXZ
  have cX := blk_cell (M6.out.blk_at 0 rfl)
  have cZ := blk_cell (M6.out.blk_at 10 rfl)
  have fZ := blk_frozen (M6.out.blk_at 10 rfl)
  have hbZ := blk_lt (M6.out.blk_at 10 rfl)
  have nXZ := Wh0.blk_ne M6.out 0 10 rfl rfl (by decide)
  unfold qc at cX
  go_wp2_with fail
  all_goals
    have MF := (M6.out.setRow 10 rfl [.int .i64 r.f0, .int .i64 r.f1, .int .i64 (r.f2 + 1), .int .i64 (r.f2 + 1), .int .i64 0, .slice C5 r.f5.length e5, .int .i64 cm, .slice C7 q7 e7, .slice none 0 0, .slice none 0 0, .slice none 0 0, .int .i64 (-1), .int .i64 0] rfl)
    have hgF := MF.blk_at 10 rfl
    refine bodyPost_ret (results_list (rs := [.cell 2 45, .tmp 3, .tmp 4]) rfl (by simp) (.cell (w.heap.size + 1) 45 #[.int .i64 r.f0, .int .i64 r.f1, .int .i64 (r.f2 + 1), .int .i64 (r.f2 + 1), .int .i64 0, .slice C5 r.f5.length e5, .int .i64 cm, .slice C7 q7 e7, .slice none 0 0, .slice none 0 0, .slice none 0 0, .int .i64 (-1), .int .i64 0] (0, 0) _ rfl hgF Try.underlying45 rfl (by kernel_rfl) (.tmp (.tmp .nil)))) rfl ?_
    have MH := Mem.row_nil (Mem.row_nil (Mem.row_nil (Mem.row_nil MF (Kd.int .i64) 3) (Kd.int .i64) 3) kE 102) kM 29
    have hcm := HCM.out
    subst hcm
    exact OutS_of (s := normal r (r.f2 + 1) r.f5 r.f6) (Mem.sel (ps := [_, _, _, _, _, _, _, _, _, _, _, _, _, _, _, _]) (F := []) [6, 5, 3, 2, 1, 0] 16 MH rfl rfl)
theorem Suspect11_calls (r : Rep) (A5 A7 A8 A9 A10 : Option Addr) (c5 c7 c8 c9 c10 : Nat) (w : World) (h : RdRep w r A5 A7 A8 A9 A10) (hc : Fit r c5 c7 c8 c9 c10) (hs : r.f5.length ≤ 1200 ∧ r.f7.length ≤ 20 ∧ r.f8.length ≤ 20 ∧ r.f9.length ≤ 20 ∧ r.f10.length ≤ 1200) (s : Rep) (msgs : List Msg) (code : Int) (hp : suspect r = (s, msgs, code)) :
    Calls Try.prog 37 #[.agg #[.int .i64 r.f0, .int .i64 r.f1, .int .i64 r.f2, .int .i64 r.f3, .int .i64 r.f4, .slice A5 r.f5.length c5, .int .i64 r.f6, .slice A7 r.f7.length c7, .slice A8 r.f8.length c8, .slice A9 r.f9.length c9, .slice A10 r.f10.length c10, .int .i64 r.f11, .int .i64 r.f12]] w fun e w' => OutS w w' e s msgs code := by
  unfold suspect at hp
  cases h1 : may r with
  | false =>
    rw [h1, if_neg (by simp)] at hp
    cases hp
    exact Suspect11_e1 r A5 A7 A8 A9 A10 c5 c7 c8 c9 c10 w h hc hs h1
  | true =>
    rw [h1, if_pos rfl] at hp
    by_cases h2 : maxTime ≤ r.f2 + 1
    · rw [if_pos h2] at hp
      cases hp
      exact Suspect11_e4 r A5 A7 A8 A9 A10 c5 c7 c8 c9 c10 w h hc hs h1 h2
    · rw [if_neg h2] at hp
      by_cases h3 : r.f1 = 1
      · rw [if_pos h3] at hp
        cases hp
        exact Suspect11_n1 r A5 A7 A8 A9 A10 c5 c7 c8 c9 c10 w h hc hs h1 h2 h3
      · rw [if_neg h3] at hp
        cases hp
        exact Suspect11_nn r A5 A7 A8 A9 A10 c5 c7 c8 c9 c10 w h hc hs h1 h2 h3 _ rfl
end Go.Proofs.Ytggbjokhniigkaa.Sc
