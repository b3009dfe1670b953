/- Texts laid together: Tra. No condition. -/
import Derived.Test.YtggbjokhniigkaaGreatYTz12
set_option linter.unusedVariables false
set_option linter.unusedSimpArgs false
set_option maxRecDepth 100000
set_option maxHeartbeats 8000000
namespace Go.Proofs.YtggbjokhniigkaaGreat.Tra
open Ve Ty Go.RowKit YtggbjokhniigkaaGreatW.PrintWords YtggbjokhniigkaaGreatW.PrintLast YtggbjokhniigkaaGreatW.PrintMore Mx Kx Wa Wb Wc Wd Vc Rd Wj Tk Tn To Tr
theorem ask11_n1 (r : Rep) (m : Msg) (A5 A7 A8 A9 A10 A : Option Addr) (c5 c7 c8 c9 c10 c : Nat) (w : World) (h : RdRep w r A5 A7 A8 A9 A10) (hc : Fit r c5 c7 c8 c9 c10) (hs : r.f5.length ≤ 1200 ∧ r.f7.length ≤ 20 ∧ r.f8.length ≤ 20 ∧ r.f9.length ≤ 20 ∧ r.f10.length ≤ 1200) (hl : Kd.C kE w A m.f7.length m.f7) (hlc : m.f7.length ≤ c) (hln : m.f7.length ≤ 1000000) (hk : m.f0 = 7) (h1 : may r = true) (h2 : mayMsg r m = true) (h3 : ¬ m.f3 = r.f2) :
    Calls Tryz.prog 35 #[.agg (Kx.rA r A5 A7 A8 A9 A10 c5 c7 c8 c9 c10), .agg #[.int .i64 m.f0, .int .i64 m.f1, .int .i64 m.f2, .int .i64 m.f3, .int .i64 m.f4, .int .i64 m.f5, .int .i64 m.f6, .slice A m.f7.length c]] w fun e w' => OutS w w' e r [] 0 := by
  have E1 := Aside0.mk h1
  have MSG : Aside0 (∀ w', Kd.C kE w' A m.f7.length m.f7 → Calls Tryz.prog 66 #[.agg (Kx.rA r A5 A7 A8 A9 A10 c5 c7 c8 c9 c10), .agg #[.int .i64 7, .int .i64 m.f1, .int .i64 m.f2, .int .i64 m.f3, .int .i64 m.f4, .int .i64 m.f5, .int .i64 m.f6, .slice A m.f7.length c]] w' fun e w'' => e = .returned (.bool true) ∧ Mem w' w'' []) :=
    ⟨fun w' h => by have := message11_calls r m A5 A7 A8 A9 A10 A c5 c7 c8 c9 c10 c w' h hlc hln; (try unfold Kx.mA at this); rw [h2, hk] at this; exact this⟩
  clear h1 h2
  rw [hk]
  clear hk
  have e1 : (m.f3 == r.f2) = false := by simpa using h3
  clear h3
  have H := Aside0.mk h
  have HC := Aside0.mk hc
  have HS := Aside0.mk hs
  have HL := Aside0.mk hl
  have HLC := Aside0.mk hlc
  have HLN := Aside0.mk hln
  have M1 := Aside0.mk ((((Mem.nil w).alloc (Kx.rA r A5 A7 A8 A9 A10 c5 c7 c8 c9 c10) 25).allocAt #[.int .i64 7, .int .i64 m.f1, .int .i64 m.f2, .int .i64 m.f3, .int .i64 m.f4, .int .i64 m.f5, .int .i64 m.f6, .slice A m.f7.length c] 27 (w.heap.size + 1) (by simp)).allocAt #[.int .i64 0, .int .i64 0, .int .i64 0, .int .i64 0, .int .i64 0, .slice none 0 0, .int .i64 0, .slice none 0 0, .slice none 0 0, .slice none 0 0, .slice none 0 0, .int .i64 0, .int .i64 0] 25 (w.heap.size + 2) (by simp))
  clear h hc hs hl hlc hln
  go_enter Tryz.func35, Tryz.ntmps35
  go_wp2_with fail
  refine (May11_calls r A5 A7 A8 A9 A10 c5 c7 c8 c9 c10 _ (H.out.below M1.out.below) HC.out HS.out).mono ?_
  rintro e w1 ⟨he, hb⟩
  rw [E1.out] at he
  subst he
  have M2 := Aside0.mk (M1.out.grow hb)
  clear hb M1
  have cR := blk_cell (M2.out.blk_at 2 rfl)
  have cM := blk_cell (M2.out.blk_at 1 rfl)
  have cZ := blk_cell (M2.out.blk_at 0 rfl)
  have fZ := blk_frozen (M2.out.blk_at 0 rfl)
  go_wp2_with fail
  refine (MSG.out _ (Kd.C_below HL.out M2.out.below)).mono ?_
  rintro e w2 ⟨rfl, hM⟩
  have M3 := Aside0.mk (Mem.sel (ps := [_, _, _]) (F := []) [0, 1, 2] 3 (M2.out.trans hM) rfl rfl)
  clear hM M2 cR cM cZ fZ
  have cR := blk_cell (M3.out.blk_at 2 rfl)
  have cM := blk_cell (M3.out.blk_at 1 rfl)
  have cZ := blk_cell (M3.out.blk_at 0 rfl)
  have fZ := blk_frozen (M3.out.blk_at 0 rfl)
  go_wp2_with fail
  refine (Copy11_calls r A5 A7 A8 A9 A10 c5 c7 c8 c9 c10 _ (H.out.below M3.out.below) ⟨Nat.le_trans HS.out.1 (by decide), Nat.le_trans HS.out.2.1 (by decide), Nat.le_trans HS.out.2.2.1 (by decide), Nat.le_trans HS.out.2.2.2.1 (by decide), Nat.le_trans HS.out.2.2.2.2 (by decide)⟩).mono ?_
  rintro e w3 ⟨v5, v7, v8, v9, v10, rfl, hM⟩
  unfold rc
  obtain ⟨B5, d5, rfl, _, _⟩ := hM.row_at 0 rfl
  obtain ⟨B7, d7, rfl, _, _⟩ := hM.row_at 1 rfl
  obtain ⟨B8, d8, rfl, _, _⟩ := hM.row_at 2 rfl
  obtain ⟨B9, d9, rfl, _, _⟩ := hM.row_at 3 rfl
  obtain ⟨B10, d10, rfl, hd10, _⟩ := hM.row_at 4 rfl
  have M4 := Aside0.mk ((Mem.sel (ps := [_, _, _, _, _, _, _, _]) (F := []) [0, 1, 2, 3, 4, 5, 6, 7] 8 (M3.out.trans hM) rfl rfl).allocAt #[.int .i64 r.f0, .int .i64 r.f1, .int .i64 r.f2, .int .i64 r.f3, .int .i64 r.f4, .slice B5 r.f5.length d5, .int .i64 r.f6, .slice B7 r.f7.length d7, .slice B8 r.f8.length d8, .slice B9 r.f9.length d9, .slice B10 r.f10.length d10, .int .i64 r.f11, .int .i64 r.f12] 25 w3.heap.size rfl)
  clear hM M3 cR cM cZ fZ
  have cX := blk_cell (M4.out.blk_at 0 rfl)
  have cM := blk_cell (M4.out.blk_at 7 rfl)
  have cZ := blk_cell (M4.out.blk_at 6 rfl)
  have fZ := blk_frozen (M4.out.blk_at 6 rfl)
  have hbX := blk_lt (M4.out.blk_at 0 rfl)
  have hbZ := blk_lt (M4.out.blk_at 6 rfl)
  go_wp2_with fail
  all_goals
    have MF := (M4.out.setRow 6 rfl [.int .i64 r.f0, .int .i64 r.f1, .int .i64 r.f2, .int .i64 r.f3, .int .i64 r.f4, .slice B5 r.f5.length d5, .int .i64 r.f6, .slice B7 r.f7.length d7, .slice B8 r.f8.length d8, .slice B9 r.f9.length d9, .slice B10 r.f10.length d10, .int .i64 r.f11, .int .i64 r.f12] rfl)
    have hgF := MF.blk_at 6 rfl
    refine bodyPost_ret (results_list (rs := [.cell 4 25, .tmp 5, .tmp 6]) rfl (by simp) (.cell (w.heap.size + 2) 25 #[.int .i64 r.f0, .int .i64 r.f1, .int .i64 r.f2, .int .i64 r.f3, .int .i64 r.f4, .slice B5 r.f5.length d5, .int .i64 r.f6, .slice B7 r.f7.length d7, .slice B8 r.f8.length d8, .slice B9 r.f9.length d9, .slice B10 r.f10.length d10, .int .i64 r.f11, .int .i64 r.f12] (0, 0) _ rfl hgF Tryz.underlying25 rfl (by kernel_rfl) (.tmp (.tmp .nil)))) rfl ?_
    exact OutS_of (Mem.sel (ps := [_, _, _, _, _, _, _, _, _, _]) (F := []) [2, 3, 4, 5, 6, 0] 10 (Mem.row_nil MF kM 27) rfl rfl)
theorem ask11_n2 (r : Rep) (m : Msg) (A5 A7 A8 A9 A10 A : Option Addr) (c5 c7 c8 c9 c10 c : Nat) (w : World) (h : RdRep w r A5 A7 A8 A9 A10) (hc : Fit r c5 c7 c8 c9 c10) (hs : r.f5.length ≤ 1200 ∧ r.f7.length ≤ 20 ∧ r.f8.length ≤ 20 ∧ r.f9.length ≤ 20 ∧ r.f10.length ≤ 1200) (hl : Kd.C kE w A m.f7.length m.f7) (hlc : m.f7.length ≤ c) (hln : m.f7.length ≤ 1000000) (hk : m.f0 = 7) (h1 : may r = true) (h2 : mayMsg r m = true) (h3 : m.f3 = r.f2) (h4 : ¬ r.f4 = 0) :
    Calls Tryz.prog 35 #[.agg (Kx.rA r A5 A7 A8 A9 A10 c5 c7 c8 c9 c10), .agg #[.int .i64 m.f0, .int .i64 m.f1, .int .i64 m.f2, .int .i64 m.f3, .int .i64 m.f4, .int .i64 m.f5, .int .i64 m.f6, .slice A m.f7.length c]] w fun e w' => OutS w w' e r [] 0 := by
  have E1 := Aside0.mk h1
  have MSG : Aside0 (∀ w', Kd.C kE w' A m.f7.length m.f7 → Calls Tryz.prog 66 #[.agg (Kx.rA r A5 A7 A8 A9 A10 c5 c7 c8 c9 c10), .agg #[.int .i64 7, .int .i64 m.f1, .int .i64 m.f2, .int .i64 m.f3, .int .i64 m.f4, .int .i64 m.f5, .int .i64 m.f6, .slice A m.f7.length c]] w' fun e w'' => e = .returned (.bool true) ∧ Mem w' w'' []) :=
    ⟨fun w' h => by have := message11_calls r m A5 A7 A8 A9 A10 A c5 c7 c8 c9 c10 c w' h hlc hln; (try unfold Kx.mA at this); rw [h2, hk] at this; exact this⟩
  clear h1 h2
  rw [hk]
  clear hk
  have e1 : (m.f3 == r.f2) = true := by simpa using h3
  clear h3
  have e2 : (r.f4 == 0) = false := by simpa using h4
  clear h4
  have H := Aside0.mk h
  have HC := Aside0.mk hc
  have HS := Aside0.mk hs
  have HL := Aside0.mk hl
  have HLC := Aside0.mk hlc
  have HLN := Aside0.mk hln
  have M1 := Aside0.mk ((((Mem.nil w).alloc (Kx.rA r A5 A7 A8 A9 A10 c5 c7 c8 c9 c10) 25).allocAt #[.int .i64 7, .int .i64 m.f1, .int .i64 m.f2, .int .i64 m.f3, .int .i64 m.f4, .int .i64 m.f5, .int .i64 m.f6, .slice A m.f7.length c] 27 (w.heap.size + 1) (by simp)).allocAt #[.int .i64 0, .int .i64 0, .int .i64 0, .int .i64 0, .int .i64 0, .slice none 0 0, .int .i64 0, .slice none 0 0, .slice none 0 0, .slice none 0 0, .slice none 0 0, .int .i64 0, .int .i64 0] 25 (w.heap.size + 2) (by simp))
  clear h hc hs hl hlc hln
  go_enter Tryz.func35, Tryz.ntmps35
  go_wp2_with fail
  refine (May11_calls r A5 A7 A8 A9 A10 c5 c7 c8 c9 c10 _ (H.out.below M1.out.below) HC.out HS.out).mono ?_
  rintro e w1 ⟨he, hb⟩
  rw [E1.out] at he
  subst he
  have M2 := Aside0.mk (M1.out.grow hb)
  clear hb M1
  have cR := blk_cell (M2.out.blk_at 2 rfl)
  have cM := blk_cell (M2.out.blk_at 1 rfl)
  have cZ := blk_cell (M2.out.blk_at 0 rfl)
  have fZ := blk_frozen (M2.out.blk_at 0 rfl)
  go_wp2_with fail
  refine (MSG.out _ (Kd.C_below HL.out M2.out.below)).mono ?_
  rintro e w2 ⟨rfl, hM⟩
  have M3 := Aside0.mk (Mem.sel (ps := [_, _, _]) (F := []) [0, 1, 2] 3 (M2.out.trans hM) rfl rfl)
  clear hM M2 cR cM cZ fZ
  have cR := blk_cell (M3.out.blk_at 2 rfl)
  have cM := blk_cell (M3.out.blk_at 1 rfl)
  have cZ := blk_cell (M3.out.blk_at 0 rfl)
  have fZ := blk_frozen (M3.out.blk_at 0 rfl)
  go_wp2_with fail
  refine (Copy11_calls r A5 A7 A8 A9 A10 c5 c7 c8 c9 c10 _ (H.out.below M3.out.below) ⟨Nat.le_trans HS.out.1 (by decide), Nat.le_trans HS.out.2.1 (by decide), Nat.le_trans HS.out.2.2.1 (by decide), Nat.le_trans HS.out.2.2.2.1 (by decide), Nat.le_trans HS.out.2.2.2.2 (by decide)⟩).mono ?_
  rintro e w3 ⟨v5, v7, v8, v9, v10, rfl, hM⟩
  unfold rc
  obtain ⟨B5, d5, rfl, _, _⟩ := hM.row_at 0 rfl
  obtain ⟨B7, d7, rfl, _, _⟩ := hM.row_at 1 rfl
  obtain ⟨B8, d8, rfl, _, _⟩ := hM.row_at 2 rfl
  obtain ⟨B9, d9, rfl, _, _⟩ := hM.row_at 3 rfl
  obtain ⟨B10, d10, rfl, hd10, _⟩ := hM.row_at 4 rfl
  have M4 := Aside0.mk ((Mem.sel (ps := [_, _, _, _, _, _, _, _]) (F := []) [0, 1, 2, 3, 4, 5, 6, 7] 8 (M3.out.trans hM) rfl rfl).allocAt #[.int .i64 r.f0, .int .i64 r.f1, .int .i64 r.f2, .int .i64 r.f3, .int .i64 r.f4, .slice B5 r.f5.length d5, .int .i64 r.f6, .slice B7 r.f7.length d7, .slice B8 r.f8.length d8, .slice B9 r.f9.length d9, .slice B10 r.f10.length d10, .int .i64 r.f11, .int .i64 r.f12] 25 w3.heap.size rfl)
  clear hM M3 cR cM cZ fZ
  have cX := blk_cell (M4.out.blk_at 0 rfl)
  have cM := blk_cell (M4.out.blk_at 7 rfl)
  have cZ := blk_cell (M4.out.blk_at 6 rfl)
  have fZ := blk_frozen (M4.out.blk_at 6 rfl)
  have hbX := blk_lt (M4.out.blk_at 0 rfl)
  have hbZ := blk_lt (M4.out.blk_at 6 rfl)
  go_wp2_with fail
  all_goals
    have MF := (M4.out.setRow 6 rfl [.int .i64 r.f0, .int .i64 r.f1, .int .i64 r.f2, .int .i64 r.f3, .int .i64 r.f4, .slice B5 r.f5.length d5, .int .i64 r.f6, .slice B7 r.f7.length d7, .slice B8 r.f8.length d8, .slice B9 r.f9.length d9, .slice B10 r.f10.length d10, .int .i64 r.f11, .int .i64 r.f12] rfl)
    have hgF := MF.blk_at 6 rfl
    refine bodyPost_ret (results_list (rs := [.cell 4 25, .tmp 5, .tmp 6]) rfl (by simp) (.cell (w.heap.size + 2) 25 #[.int .i64 r.f0, .int .i64 r.f1, .int .i64 r.f2, .int .i64 r.f3, .int .i64 r.f4, .slice B5 r.f5.length d5, .int .i64 r.f6, .slice B7 r.f7.length d7, .slice B8 r.f8.length d8, .slice B9 r.f9.length d9, .slice B10 r.f10.length d10, .int .i64 r.f11, .int .i64 r.f12] (0, 0) _ rfl hgF Tryz.underlying25 rfl (by kernel_rfl) (.tmp (.tmp .nil)))) rfl ?_
    exact OutS_of (Mem.sel (ps := [_, _, _, _, _, _, _, _, _, _]) (F := []) [2, 3, 4, 5, 6, 0] 10 (Mem.row_nil MF kM 27) rfl rfl)
theorem ask11_n3 (r : Rep) (m : Msg) (A5 A7 A8 A9 A10 A : Option Addr) (c5 c7 c8 c9 c10 c : Nat) (w : World) (h : RdRep w r A5 A7 A8 A9 A10) (hc : Fit r c5 c7 c8 c9 c10) (hs : r.f5.length ≤ 1200 ∧ r.f7.length ≤ 20 ∧ r.f8.length ≤ 20 ∧ r.f9.length ≤ 20 ∧ r.f10.length ≤ 1200) (hl : Kd.C kE w A m.f7.length m.f7) (hlc : m.f7.length ≤ c) (hln : m.f7.length ≤ 1000000) (hk : m.f0 = 7) (h1 : may r = true) (h2 : mayMsg r m = true) (h3 : m.f3 = r.f2) (h4 : r.f4 = 0) (h5 : ¬ m.f4 ≤ (r.f5.length : Int)) :
    Calls Tryz.prog 35 #[.agg (Kx.rA r A5 A7 A8 A9 A10 c5 c7 c8 c9 c10), .agg #[.int .i64 m.f0, .int .i64 m.f1, .int .i64 m.f2, .int .i64 m.f3, .int .i64 m.f4, .int .i64 m.f5, .int .i64 m.f6, .slice A m.f7.length c]] w fun e w' => OutS w w' e r [] 0 := by
  have E1 := Aside0.mk h1
  have MSG : Aside0 (∀ w', Kd.C kE w' A m.f7.length m.f7 → Calls Tryz.prog 66 #[.agg (Kx.rA r A5 A7 A8 A9 A10 c5 c7 c8 c9 c10), .agg #[.int .i64 7, .int .i64 m.f1, .int .i64 m.f2, .int .i64 m.f3, .int .i64 m.f4, .int .i64 m.f5, .int .i64 m.f6, .slice A m.f7.length c]] w' fun e w'' => e = .returned (.bool true) ∧ Mem w' w'' []) :=
    ⟨fun w' h => by have := message11_calls r m A5 A7 A8 A9 A10 A c5 c7 c8 c9 c10 c w' h hlc hln; (try unfold Kx.mA at this); rw [h2, hk] at this; exact this⟩
  clear h1 h2
  rw [hk]
  clear hk
  have e1 : (m.f3 == r.f2) = true := by simpa using h3
  clear h3
  have e2 : (r.f4 == 0) = true := by simpa using h4
  clear h4
  have e3 : decide (m.f4 ≤ (r.f5.length : Int)) = false := by simpa using h5
  clear h5
  have H := Aside0.mk h
  have HC := Aside0.mk hc
  have HS := Aside0.mk hs
  have HL := Aside0.mk hl
  have HLC := Aside0.mk hlc
  have HLN := Aside0.mk hln
  have M1 := Aside0.mk ((((Mem.nil w).alloc (Kx.rA r A5 A7 A8 A9 A10 c5 c7 c8 c9 c10) 25).allocAt #[.int .i64 7, .int .i64 m.f1, .int .i64 m.f2, .int .i64 m.f3, .int .i64 m.f4, .int .i64 m.f5, .int .i64 m.f6, .slice A m.f7.length c] 27 (w.heap.size + 1) (by simp)).allocAt #[.int .i64 0, .int .i64 0, .int .i64 0, .int .i64 0, .int .i64 0, .slice none 0 0, .int .i64 0, .slice none 0 0, .slice none 0 0, .slice none 0 0, .slice none 0 0, .int .i64 0, .int .i64 0] 25 (w.heap.size + 2) (by simp))
  clear h hc hs hl hlc hln
  go_enter Tryz.func35, Tryz.ntmps35
  go_wp2_with fail
  refine (May11_calls r A5 A7 A8 A9 A10 c5 c7 c8 c9 c10 _ (H.out.below M1.out.below) HC.out HS.out).mono ?_
  rintro e w1 ⟨he, hb⟩
  rw [E1.out] at he
  subst he
  have M2 := Aside0.mk (M1.out.grow hb)
  clear hb M1
  have cR := blk_cell (M2.out.blk_at 2 rfl)
  have cM := blk_cell (M2.out.blk_at 1 rfl)
  have cZ := blk_cell (M2.out.blk_at 0 rfl)
  have fZ := blk_frozen (M2.out.blk_at 0 rfl)
  go_wp2_with fail
  refine (MSG.out _ (Kd.C_below HL.out M2.out.below)).mono ?_
  rintro e w2 ⟨rfl, hM⟩
  have M3 := Aside0.mk (Mem.sel (ps := [_, _, _]) (F := []) [0, 1, 2] 3 (M2.out.trans hM) rfl rfl)
  clear hM M2 cR cM cZ fZ
  have cR := blk_cell (M3.out.blk_at 2 rfl)
  have cM := blk_cell (M3.out.blk_at 1 rfl)
  have cZ := blk_cell (M3.out.blk_at 0 rfl)
  have fZ := blk_frozen (M3.out.blk_at 0 rfl)
  go_wp2_with fail
  refine (Copy11_calls r A5 A7 A8 A9 A10 c5 c7 c8 c9 c10 _ (H.out.below M3.out.below) ⟨Nat.le_trans HS.out.1 (by decide), Nat.le_trans HS.out.2.1 (by decide), Nat.le_trans HS.out.2.2.1 (by decide), Nat.le_trans HS.out.2.2.2.1 (by decide), Nat.le_trans HS.out.2.2.2.2 (by decide)⟩).mono ?_
  rintro e w3 ⟨v5, v7, v8, v9, v10, rfl, hM⟩
  unfold rc
  obtain ⟨B5, d5, rfl, _, _⟩ := hM.row_at 0 rfl
  obtain ⟨B7, d7, rfl, _, _⟩ := hM.row_at 1 rfl
  obtain ⟨B8, d8, rfl, _, _⟩ := hM.row_at 2 rfl
  obtain ⟨B9, d9, rfl, _, _⟩ := hM.row_at 3 rfl
  obtain ⟨B10, d10, rfl, hd10, _⟩ := hM.row_at 4 rfl
  have M4 := Aside0.mk ((Mem.sel (ps := [_, _, _, _, _, _, _, _]) (F := []) [0, 1, 2, 3, 4, 5, 6, 7] 8 (M3.out.trans hM) rfl rfl).allocAt #[.int .i64 r.f0, .int .i64 r.f1, .int .i64 r.f2, .int .i64 r.f3, .int .i64 r.f4, .slice B5 r.f5.length d5, .int .i64 r.f6, .slice B7 r.f7.length d7, .slice B8 r.f8.length d8, .slice B9 r.f9.length d9, .slice B10 r.f10.length d10, .int .i64 r.f11, .int .i64 r.f12] 25 w3.heap.size rfl)
  clear hM M3 cR cM cZ fZ
  have cX := blk_cell (M4.out.blk_at 0 rfl)
  have cM := blk_cell (M4.out.blk_at 7 rfl)
  have cZ := blk_cell (M4.out.blk_at 6 rfl)
  have fZ := blk_frozen (M4.out.blk_at 6 rfl)
  have hbX := blk_lt (M4.out.blk_at 0 rfl)
  have hbZ := blk_lt (M4.out.blk_at 6 rfl)
  go_wp2_with fail
  all_goals
    have MF := (M4.out.setRow 6 rfl [.int .i64 r.f0, .int .i64 r.f1, .int .i64 r.f2, .int .i64 r.f3, .int .i64 r.f4, .slice B5 r.f5.length d5, .int .i64 r.f6, .slice B7 r.f7.length d7, .slice B8 r.f8.length d8, .slice B9 r.f9.length d9, .slice B10 r.f10.length d10, .int .i64 r.f11, .int .i64 r.f12] rfl)
    have hgF := MF.blk_at 6 rfl
    refine bodyPost_ret (results_list (rs := [.cell 4 25, .tmp 5, .tmp 6]) rfl (by simp) (.cell (w.heap.size + 2) 25 #[.int .i64 r.f0, .int .i64 r.f1, .int .i64 r.f2, .int .i64 r.f3, .int .i64 r.f4, .slice B5 r.f5.length d5, .int .i64 r.f6, .slice B7 r.f7.length d7, .slice B8 r.f8.length d8, .slice B9 r.f9.length d9, .slice B10 r.f10.length d10, .int .i64 r.f11, .int .i64 r.f12] (0, 0) _ rfl hgF Tryz.underlying25 rfl (by kernel_rfl) (.tmp (.tmp .nil)))) rfl ?_
    exact OutS_of (Mem.sel (ps := [_, _, _, _, _, _, _, _, _, _]) (F := []) [2, 3, 4, 5, 6, 0] 10 (Mem.row_nil MF kM 27) rfl rfl)
theorem ask11_yes (r : Rep) (m : Msg) (A5 A7 A8 A9 A10 A : Option Addr) (c5 c7 c8 c9 c10 c : Nat) (w : World) (h : RdRep w r A5 A7 A8 A9 A10) (hc : Fit r c5 c7 c8 c9 c10) (hs : r.f5.length ≤ 1200 ∧ r.f7.length ≤ 20 ∧ r.f8.length ≤ 20 ∧ r.f9.length ≤ 20 ∧ r.f10.length ≤ 1200) (hl : Kd.C kE w A m.f7.length m.f7) (hlc : m.f7.length ≤ c) (hln : m.f7.length ≤ 1000000) (hk : m.f0 = 7) (h1 : may r = true) (h2 : mayMsg r m = true) (h3 : m.f3 = r.f2) (h4 : r.f4 = 0) (h5 : m.f4 ≤ (r.f5.length : Int)) (h0 : 0 ≤ m.f4) :
    Calls Tryz.prog 35 #[.agg (Kx.rA r A5 A7 A8 A9 A10 c5 c7 c8 c9 c10), .agg #[.int .i64 m.f0, .int .i64 m.f1, .int .i64 m.f2, .int .i64 m.f3, .int .i64 m.f4, .int .i64 m.f5, .int .i64 m.f6, .slice A m.f7.length c]] w fun e w' => OutS w w' e r [toOne r m.f1 ⟨8, 0, 0, 0, m.f4, r.f6, 0, r.f5.drop m.f4.toNat⟩] 0 := by
  have E1 := Aside0.mk h1
  obtain ⟨k, hf4⟩ := Int.eq_ofNat_of_zero_le h0
  have MSG : Aside0 (∀ w', Kd.C kE w' A m.f7.length m.f7 → Calls Tryz.prog 66 #[.agg (Kx.rA r A5 A7 A8 A9 A10 c5 c7 c8 c9 c10), .agg #[.int .i64 7, .int .i64 m.f1, .int .i64 m.f2, .int .i64 m.f3, .int .i64 (k : Int), .int .i64 m.f5, .int .i64 m.f6, .slice A m.f7.length c]] w' fun e w'' => e = .returned (.bool true) ∧ Mem w' w'' []) :=
    ⟨fun w' h => by have := message11_calls r m A5 A7 A8 A9 A10 A c5 c7 c8 c9 c10 c w' h hlc hln; (try unfold Kx.mA at this); rw [h2, hk, hf4] at this; exact this⟩
  rw [hf4] at h5
  have hk3 : k ≤ r.f5.length := by omega
  have e3 : decide ((k : Int) ≤ (r.f5.length : Int)) = true := by simpa using h5
  have e1 : (m.f3 == r.f2) = true := by simpa using h3
  clear h3
  have e2 : (r.f4 == 0) = true := by simpa using h4
  clear h4
  rw [hk, hf4]
  rw [show ((k : Int)).toNat = k from Int.toNat_natCast k]
  have HDL := Aside0.mk (show (r.f5.drop k).length = r.f5.length - k from List.length_drop ..)
  have HK3 := Aside0.mk hk3
  clear h0 h5 hf4 hk h1 h2
  have H := Aside0.mk h
  have HC := Aside0.mk hc
  have HS := Aside0.mk hs
  have HL := Aside0.mk hl
  have HLC := Aside0.mk hlc
  have HLN := Aside0.mk hln
  have M1 := Aside0.mk ((((Mem.nil w).alloc (Kx.rA r A5 A7 A8 A9 A10 c5 c7 c8 c9 c10) 25).allocAt #[.int .i64 7, .int .i64 m.f1, .int .i64 m.f2, .int .i64 m.f3, .int .i64 (k : Int), .int .i64 m.f5, .int .i64 m.f6, .slice A m.f7.length c] 27 (w.heap.size + 1) (by simp)).allocAt #[.int .i64 0, .int .i64 0, .int .i64 0, .int .i64 0, .int .i64 0, .slice none 0 0, .int .i64 0, .slice none 0 0, .slice none 0 0, .slice none 0 0, .slice none 0 0, .int .i64 0, .int .i64 0] 25 (w.heap.size + 2) (by simp))
  clear h hc hs hl hlc hln
  go_enter Tryz.func35, Tryz.ntmps35
  go_wp2_with fail
  refine (May11_calls r A5 A7 A8 A9 A10 c5 c7 c8 c9 c10 _ (H.out.below M1.out.below) HC.out HS.out).mono ?_
  rintro e w1 ⟨he, hb⟩
  rw [E1.out] at he
  subst he
  have M2 := Aside0.mk (M1.out.grow hb)
  clear hb M1
  have cR := blk_cell (M2.out.blk_at 2 rfl)
  have cM := blk_cell (M2.out.blk_at 1 rfl)
  have cZ := blk_cell (M2.out.blk_at 0 rfl)
  have fZ := blk_frozen (M2.out.blk_at 0 rfl)
  go_wp2_with fail
  refine (MSG.out _ (Kd.C_below HL.out M2.out.below)).mono ?_
  rintro e w2 ⟨rfl, hM⟩
  have M3 := Aside0.mk (Mem.sel (ps := [_, _, _]) (F := []) [0, 1, 2] 3 (M2.out.trans hM) rfl rfl)
  clear hM M2 cR cM cZ fZ
  have cR := blk_cell (M3.out.blk_at 2 rfl)
  have cM := blk_cell (M3.out.blk_at 1 rfl)
  have cZ := blk_cell (M3.out.blk_at 0 rfl)
  have fZ := blk_frozen (M3.out.blk_at 0 rfl)
  go_wp2_with fail
  refine (Copy11_calls r A5 A7 A8 A9 A10 c5 c7 c8 c9 c10 _ (H.out.below M3.out.below) ⟨Nat.le_trans HS.out.1 (by decide), Nat.le_trans HS.out.2.1 (by decide), Nat.le_trans HS.out.2.2.1 (by decide), Nat.le_trans HS.out.2.2.2.1 (by decide), Nat.le_trans HS.out.2.2.2.2 (by decide)⟩).mono ?_
  rintro e w3 ⟨v5, v7, v8, v9, v10, rfl, hM⟩
  unfold rc
  obtain ⟨B5, d5, rfl, hd5, _⟩ := hM.row_at 0 rfl
  obtain ⟨B7, d7, rfl, _, _⟩ := hM.row_at 1 rfl
  obtain ⟨B8, d8, rfl, _, _⟩ := hM.row_at 2 rfl
  obtain ⟨B9, d9, rfl, _, _⟩ := hM.row_at 3 rfl
  obtain ⟨B10, d10, rfl, hd10, _⟩ := hM.row_at 4 rfl
  have M4 := Aside0.mk ((Mem.sel (ps := [_, _, _, _, _, _, _, _]) (F := []) [0, 1, 2, 3, 4, 5, 6, 7] 8 (M3.out.trans hM) rfl rfl).allocAt #[.int .i64 r.f0, .int .i64 r.f1, .int .i64 r.f2, .int .i64 r.f3, .int .i64 r.f4, .slice B5 r.f5.length d5, .int .i64 r.f6, .slice B7 r.f7.length d7, .slice B8 r.f8.length d8, .slice B9 r.f9.length d9, .slice B10 r.f10.length d10, .int .i64 r.f11, .int .i64 r.f12] 25 w3.heap.size rfl)
  clear hM M3 cR cM cZ fZ
  have cX := blk_cell (M4.out.blk_at 0 rfl)
  have cM := blk_cell (M4.out.blk_at 7 rfl)
  have cZ := blk_cell (M4.out.blk_at 6 rfl)
  have fZ := blk_frozen (M4.out.blk_at 6 rfl)
  have hbX := blk_lt (M4.out.blk_at 0 rfl)
  have hbZ := blk_lt (M4.out.blk_at 6 rfl)
  have hkd : k ≤ d5 := by omega
  have HD := Aside0.mk hd5
  clear hd10
  go_wp2_with fail
  go_upto_region 19 with (fail)
  obtain ⟨wc, hwc⟩ : ∃ wc : World, w3.alloc (Obj.cells #[.int .i64 r.f0, .int .i64 r.f1, .int .i64 r.f2, .int .i64 r.f3, .int .i64 r.f4, .slice B5 r.f5.length d5, .int .i64 r.f6, .slice B7 r.f7.length d7, .slice B8 r.f8.length d8, .slice B9 r.f9.length d9, .slice B10 r.f10.length d10, .int .i64 r.f11, .int .i64 r.f12] 25) = wc := ⟨_, rfl⟩
  rw [hwc] at M4 ⊢
  clear hwc cX cM cZ fZ hbX hbZ
  by_cases hdk : d5 = k
  · have HDK := Aside0.mk hdk
    have hdt : (d5 = k) = True := eq_true hdk
    clear hdk
    have M4D := Aside0.mk M4.out.drew
    have HM0 := Aside0.mk (blk_cell (M4.out.blk_at 7 rfl))
    have HX0 := Aside0.mk (blk_cell (M4.out.blk_at 0 rfl))
    have cX := HX0.out
    have cM := HM0.out
    have CALL : Aside0 (∀ wd : World, Mem w wd (row kE 68 (.slice B5 r.f5.length d5) r.f5 :: blk w3.heap.size 25 #[.int .i64 r.f0, .int .i64 r.f1, .int .i64 r.f2, .int .i64 r.f3, .int .i64 r.f4, .slice B5 r.f5.length d5, .int .i64 r.f6, .slice B7 r.f7.length d7, .slice B8 r.f8.length d8, .slice B9 r.f9.length d9, .slice B10 r.f10.length d10, .int .i64 r.f11, .int .i64 r.f12] :: [row (Kd.int .i64) 3 (.slice B7 r.f7.length d7) r.f7, row (Kd.int .i64) 3 (.slice B8 r.f8.length d8) r.f8, row (Kd.int .i64) 3 (.slice B9 r.f9.length d9) r.f9, row kE 68 (.slice B10 r.f10.length d10) r.f10, blk (w.heap.size + 2) 25 #[.int .i64 0, .int .i64 0, .int .i64 0, .int .i64 0, .int .i64 0, .slice none 0 0, .int .i64 0, .slice none 0 0, .slice none 0 0, .slice none 0 0, .slice none 0 0, .int .i64 0, .int .i64 0], blk (w.heap.size + 1) 27 #[.int .i64 7, .int .i64 m.f1, .int .i64 m.f2, .int .i64 m.f3, .int .i64 (k : Int), .int .i64 m.f5, .int .i64 m.f6, .slice A m.f7.length c], blk w.heap.size 25 (Kx.rA r A5 A7 A8 A9 A10 c5 c7 c8 c9 c10)]) →
      Calls Tryz.prog 72 #[.pointer (some ⟨w3.heap.size, 0, none⟩), .int .i64 m.f1, .agg #[.int .i64 8, .int .i64 0, .int .i64 0, .int .i64 0, .int .i64 (k : Int), .int .i64 r.f6, .int .i64 0, .slice B5 (r.f5.length - k) (d5 - k)]] wd fun e w' =>
        ∃ vout : Value, e = .returned vout ∧ Mem w w' (row kM 27 vout [toOne r m.f1 ⟨8, 0, 0, 0, (k : Int), r.f6, 0, r.f5.drop k⟩] :: row kE 68 (.slice B5 r.f5.length d5) r.f5 :: blk w3.heap.size 25 #[.int .i64 r.f0, .int .i64 r.f1, .int .i64 r.f2, .int .i64 r.f3, .int .i64 r.f4, .slice B5 r.f5.length d5, .int .i64 r.f6, .slice B7 r.f7.length d7, .slice B8 r.f8.length d8, .slice B9 r.f9.length d9, .slice B10 r.f10.length d10, .int .i64 r.f11, .int .i64 r.f12] :: [row (Kd.int .i64) 3 (.slice B7 r.f7.length d7) r.f7, row (Kd.int .i64) 3 (.slice B8 r.f8.length d8) r.f8, row (Kd.int .i64) 3 (.slice B9 r.f9.length d9) r.f9, row kE 68 (.slice B10 r.f10.length d10) r.f10, blk (w.heap.size + 2) 25 #[.int .i64 0, .int .i64 0, .int .i64 0, .int .i64 0, .int .i64 0, .slice none 0 0, .int .i64 0, .slice none 0 0, .slice none 0 0, .slice none 0 0, .slice none 0 0, .int .i64 0, .int .i64 0], blk (w.heap.size + 1) 27 #[.int .i64 7, .int .i64 m.f1, .int .i64 m.f2, .int .i64 m.f3, .int .i64 (k : Int), .int .i64 m.f5, .int .i64 m.f6, .slice A m.f7.length c], blk w.heap.size 25 (Kx.rA r A5 A7 A8 A9 A10 c5 c7 c8 c9 c10)])) := ⟨fun wd hMd => by
      have h := one11_calls w wd _ _ w3.heap.size r.f0 r.f1 r.f2 r.f3 r.f4 _ r.f6 _ _ _ _ r.f11 r.f12 m.f1 8 0 0 0 (k : Int) r.f6 0 B5 (d5 - k) (r.f5.drop k) hMd (fun w' rs i hM hi => by have hq := Kd.C_drop (c := d5) (hM.row_C i hi) HK3.out HD.out; rwa [if_pos HDK.out] at hq) (by rw [HDL.out]; have := HS.out.1; omega) (by rw [HDL.out]; have := HD.out; omega)
      rw [HDL.out] at h
      exact h⟩
    have HS0 := Aside0.mk (show (∀ j : Nat, wc.drew.cell? ⟨w.heap.size + 1, j, none⟩ = wc.cell? ⟨w.heap.size + 1, j, none⟩) ∧ (∀ j : Nat, wc.drew.cell? ⟨w3.heap.size, j, none⟩ = wc.cell? ⟨w3.heap.size, j, none⟩) from ⟨fun _ => rfl, fun _ => rfl⟩)
    have H9 := HS0
    go_region_held3 (fun w' => (∀ j : Nat, w'.cell? ⟨w.heap.size + 1, j, none⟩ = wc.cell? ⟨w.heap.size + 1, j, none⟩) ∧ (∀ j : Nat, w'.cell? ⟨w3.heap.size, j, none⟩ = wc.cell? ⟨w3.heap.size, j, none⟩)) (first | with_reducible exact HS0.out | with_reducible exact H9.out | fail) ((go_at_call 72; refine (CALL.out _ (Mem.sel (ps := [_, _, _, _, _, _, _, _, _]) (F := []) [1, 0, 2, 3, 4, 5, 6, 7, 8] 9 M4D.out rfl rfl)).mono ?_; rintro e w4 ⟨vo, rfl, hM⟩; obtain ⟨Bo, co, rfl, _, _⟩ := hM.row_at 0 rfl; have M5 := Aside0.mk (Mem.sel (ps := [_, _, _, _, _, _, _, _, _, _]) (F := []) [1, 3, 4, 5, 6, 0, 2, 7, 8, 9] 10 hM rfl rfl); clear hM; have H9 := Aside0.mk (show (∀ j : Nat, w4.cell? ⟨w.heap.size + 1, j, none⟩ = wc.cell? ⟨w.heap.size + 1, j, none⟩) ∧ (∀ j : Nat, w4.cell? ⟨w3.heap.size, j, none⟩ = wc.cell? ⟨w3.heap.size, j, none⟩) from ⟨fun j => (blk_cell (M5.out.blk_at 8 rfl) j).trans (HM0.out j).symm, fun j => (blk_cell (M5.out.blk_at 6 rfl) j).trans (HX0.out j).symm⟩)))
    clear H9 HS0 HM0 HX0 M4D CALL
    have cX := blk_cell (M5.out.blk_at 6 rfl)
    have cZ := blk_cell (M5.out.blk_at 7 rfl)
    have fZ := blk_frozen (M5.out.blk_at 7 rfl)
    have hbX := blk_lt (M5.out.blk_at 6 rfl)
    have hbZ := blk_lt (M5.out.blk_at 7 rfl)
    go_wp2_with fail
    all_goals
      have MF := (M5.out.setRow 7 rfl [.int .i64 r.f0, .int .i64 r.f1, .int .i64 r.f2, .int .i64 r.f3, .int .i64 r.f4, .slice B5 r.f5.length d5, .int .i64 r.f6, .slice B7 r.f7.length d7, .slice B8 r.f8.length d8, .slice B9 r.f9.length d9, .slice B10 r.f10.length d10, .int .i64 r.f11, .int .i64 r.f12] rfl)
      have hgF := MF.blk_at 7 rfl
      refine bodyPost_ret (results_list (rs := [.cell 4 25, .tmp 5, .tmp 6]) rfl (by simp) (.cell (w.heap.size + 2) 25 #[.int .i64 r.f0, .int .i64 r.f1, .int .i64 r.f2, .int .i64 r.f3, .int .i64 r.f4, .slice B5 r.f5.length d5, .int .i64 r.f6, .slice B7 r.f7.length d7, .slice B8 r.f8.length d8, .slice B9 r.f9.length d9, .slice B10 r.f10.length d10, .int .i64 r.f11, .int .i64 r.f12] (0, 0) _ rfl hgF Tryz.underlying25 rfl (by kernel_rfl) (.tmp (.tmp .nil)))) rfl ?_
      exact OutS_of (Mem.sel (ps := [_, _, _, _, _, _, _, _, _, _]) (F := []) [0, 1, 2, 3, 4, 5] 10 MF rfl rfl)
  · have HDK := Aside0.mk hdk
    have M4D := Aside0.mk M4.out.drew
    have HM0 := Aside0.mk (blk_cell (M4.out.blk_at 7 rfl))
    have HX0 := Aside0.mk (blk_cell (M4.out.blk_at 0 rfl))
    have cX := HX0.out
    have cM := HM0.out
    have CALL : Aside0 (∀ wd : World, Mem w wd (row kE 68 (.slice B5 r.f5.length d5) r.f5 :: blk w3.heap.size 25 #[.int .i64 r.f0, .int .i64 r.f1, .int .i64 r.f2, .int .i64 r.f3, .int .i64 r.f4, .slice B5 r.f5.length d5, .int .i64 r.f6, .slice B7 r.f7.length d7, .slice B8 r.f8.length d8, .slice B9 r.f9.length d9, .slice B10 r.f10.length d10, .int .i64 r.f11, .int .i64 r.f12] :: [row (Kd.int .i64) 3 (.slice B7 r.f7.length d7) r.f7, row (Kd.int .i64) 3 (.slice B8 r.f8.length d8) r.f8, row (Kd.int .i64) 3 (.slice B9 r.f9.length d9) r.f9, row kE 68 (.slice B10 r.f10.length d10) r.f10, blk (w.heap.size + 2) 25 #[.int .i64 0, .int .i64 0, .int .i64 0, .int .i64 0, .int .i64 0, .slice none 0 0, .int .i64 0, .slice none 0 0, .slice none 0 0, .slice none 0 0, .slice none 0 0, .int .i64 0, .int .i64 0], blk (w.heap.size + 1) 27 #[.int .i64 7, .int .i64 m.f1, .int .i64 m.f2, .int .i64 m.f3, .int .i64 (k : Int), .int .i64 m.f5, .int .i64 m.f6, .slice A m.f7.length c], blk w.heap.size 25 (Kx.rA r A5 A7 A8 A9 A10 c5 c7 c8 c9 c10)]) →
      Calls Tryz.prog 72 #[.pointer (some ⟨w3.heap.size, 0, none⟩), .int .i64 m.f1, .agg #[.int .i64 8, .int .i64 0, .int .i64 0, .int .i64 0, .int .i64 (k : Int), .int .i64 r.f6, .int .i64 0, .slice (B5.map (fun x => x.add (k * 2))) (r.f5.length - k) (d5 - k)]] wd fun e w' =>
        ∃ vout : Value, e = .returned vout ∧ Mem w w' (row kM 27 vout [toOne r m.f1 ⟨8, 0, 0, 0, (k : Int), r.f6, 0, r.f5.drop k⟩] :: row kE 68 (.slice B5 r.f5.length d5) r.f5 :: blk w3.heap.size 25 #[.int .i64 r.f0, .int .i64 r.f1, .int .i64 r.f2, .int .i64 r.f3, .int .i64 r.f4, .slice B5 r.f5.length d5, .int .i64 r.f6, .slice B7 r.f7.length d7, .slice B8 r.f8.length d8, .slice B9 r.f9.length d9, .slice B10 r.f10.length d10, .int .i64 r.f11, .int .i64 r.f12] :: [row (Kd.int .i64) 3 (.slice B7 r.f7.length d7) r.f7, row (Kd.int .i64) 3 (.slice B8 r.f8.length d8) r.f8, row (Kd.int .i64) 3 (.slice B9 r.f9.length d9) r.f9, row kE 68 (.slice B10 r.f10.length d10) r.f10, blk (w.heap.size + 2) 25 #[.int .i64 0, .int .i64 0, .int .i64 0, .int .i64 0, .int .i64 0, .slice none 0 0, .int .i64 0, .slice none 0 0, .slice none 0 0, .slice none 0 0, .slice none 0 0, .int .i64 0, .int .i64 0], blk (w.heap.size + 1) 27 #[.int .i64 7, .int .i64 m.f1, .int .i64 m.f2, .int .i64 m.f3, .int .i64 (k : Int), .int .i64 m.f5, .int .i64 m.f6, .slice A m.f7.length c], blk w.heap.size 25 (Kx.rA r A5 A7 A8 A9 A10 c5 c7 c8 c9 c10)])) := ⟨fun wd hMd => by
      have h := one11_calls w wd _ _ w3.heap.size r.f0 r.f1 r.f2 r.f3 r.f4 _ r.f6 _ _ _ _ r.f11 r.f12 m.f1 8 0 0 0 (k : Int) r.f6 0 (B5.map (fun x => x.add (k * 2))) (d5 - k) (r.f5.drop k) hMd (fun w' rs i hM hi => by have hq := Kd.C_drop (c := d5) (hM.row_C i hi) HK3.out HD.out; rwa [if_neg HDK.out] at hq) (by rw [HDL.out]; have := HS.out.1; omega) (by rw [HDL.out]; have := HD.out; omega)
      rw [HDL.out] at h
      exact h⟩
    have HS0 := Aside0.mk (show (∀ j : Nat, wc.drew.cell? ⟨w.heap.size + 1, j, none⟩ = wc.cell? ⟨w.heap.size + 1, j, none⟩) ∧ (∀ j : Nat, wc.drew.cell? ⟨w3.heap.size, j, none⟩ = wc.cell? ⟨w3.heap.size, j, none⟩) from ⟨fun _ => rfl, fun _ => rfl⟩)
    have H9 := HS0
    go_region_held3 (fun w' => (∀ j : Nat, w'.cell? ⟨w.heap.size + 1, j, none⟩ = wc.cell? ⟨w.heap.size + 1, j, none⟩) ∧ (∀ j : Nat, w'.cell? ⟨w3.heap.size, j, none⟩ = wc.cell? ⟨w3.heap.size, j, none⟩)) (first | with_reducible exact HS0.out | with_reducible exact H9.out | fail) ((go_at_call 72; refine (CALL.out _ (Mem.sel (ps := [_, _, _, _, _, _, _, _, _]) (F := []) [1, 0, 2, 3, 4, 5, 6, 7, 8] 9 M4D.out rfl rfl)).mono ?_; rintro e w4 ⟨vo, rfl, hM⟩; obtain ⟨Bo, co, rfl, _, _⟩ := hM.row_at 0 rfl; have M5 := Aside0.mk (Mem.sel (ps := [_, _, _, _, _, _, _, _, _, _]) (F := []) [1, 3, 4, 5, 6, 0, 2, 7, 8, 9] 10 hM rfl rfl); clear hM; have H9 := Aside0.mk (show (∀ j : Nat, w4.cell? ⟨w.heap.size + 1, j, none⟩ = wc.cell? ⟨w.heap.size + 1, j, none⟩) ∧ (∀ j : Nat, w4.cell? ⟨w3.heap.size, j, none⟩ = wc.cell? ⟨w3.heap.size, j, none⟩) from ⟨fun j => (blk_cell (M5.out.blk_at 8 rfl) j).trans (HM0.out j).symm, fun j => (blk_cell (M5.out.blk_at 6 rfl) j).trans (HX0.out j).symm⟩)))
    clear H9 HS0 HM0 HX0 M4D CALL
    have cX := blk_cell (M5.out.blk_at 6 rfl)
    have cZ := blk_cell (M5.out.blk_at 7 rfl)
    have fZ := blk_frozen (M5.out.blk_at 7 rfl)
    have hbX := blk_lt (M5.out.blk_at 6 rfl)
    have hbZ := blk_lt (M5.out.blk_at 7 rfl)
    go_wp2_with fail
    all_goals
      have MF := (M5.out.setRow 7 rfl [.int .i64 r.f0, .int .i64 r.f1, .int .i64 r.f2, .int .i64 r.f3, .int .i64 r.f4, .slice B5 r.f5.length d5, .int .i64 r.f6, .slice B7 r.f7.length d7, .slice B8 r.f8.length d8, .slice B9 r.f9.length d9, .slice B10 r.f10.length d10, .int .i64 r.f11, .int .i64 r.f12] rfl)
      have hgF := MF.blk_at 7 rfl
      refine bodyPost_ret (results_list (rs := [.cell 4 25, .tmp 5, .tmp 6]) rfl (by simp) (.cell (w.heap.size + 2) 25 #[.int .i64 r.f0, .int .i64 r.f1, .int .i64 r.f2, .int .i64 r.f3, .int .i64 r.f4, .slice B5 r.f5.length d5, .int .i64 r.f6, .slice B7 r.f7.length d7, .slice B8 r.f8.length d8, .slice B9 r.f9.length d9, .slice B10 r.f10.length d10, .int .i64 r.f11, .int .i64 r.f12] (0, 0) _ rfl hgF Tryz.underlying25 rfl (by kernel_rfl) (.tmp (.tmp .nil)))) rfl ?_
      exact OutS_of (Mem.sel (ps := [_, _, _, _, _, _, _, _, _, _]) (F := []) [0, 1, 2, 3, 4, 5] 10 MF rfl rfl)
end Go.Proofs.YtggbjokhniigkaaGreat.Tra
