/- Texts laid together: Of, Tx, Ra, Rb, Sa. No condition. -/
import Derived.Test.YtggbjokhniigkaaGreatY2z15
namespace Go.Proofs.YtggbjokhniigkaaGreat.Of
open Go.Proofs.YtggbjokhniigkaaGreat.Ty Go.RowKit Go.Proofs.YtggbjokhniigkaaGreatW.PrintWords Go.Proofs.YtggbjokhniigkaaGreatW.PrintLast Go.Proofs.YtggbjokhniigkaaGreatW.PrintMore Go.Proofs.YtggbjokhniigkaaGreat.Mx Go.Proofs.YtggbjokhniigkaaGreat.Kx Go.Proofs.YtggbjokhniigkaaGreat.Wa Go.Proofs.YtggbjokhniigkaaGreat.Wb Go.Proofs.YtggbjokhniigkaaGreat.Wd Go.Proofs.YtggbjokhniigkaaGreat.Vc Go.Proofs.YtggbjokhniigkaaGreat.Ve Go.Proofs.YtggbjokhniigkaaGreat.Fi Go.Proofs.YtggbjokhniigkaaGreat.Tz
set_option linter.unusedVariables false
set_option linter.unusedSimpArgs false
theorem C_bound {α : Type} {d : Kd α} {w : World} {A : Option Addr} {n : Nat} {xs : List α} (h : d.C w A n xs) : n ≤ 9223372036854775807 := h.2.1
set_option maxRecDepth 100000 in
set_option maxHeartbeats 4000000 in
theorem of_calls (r : Rep) (m : Msg) (A5 A7 A8 A9 A10 A : Option Addr) (c5 c7 c8 c9 c10 c : Nat) (w : World) (h : RdRep w r A5 A7 A8 A9 A10) (hc : Fit r c5 c7 c8 c9 c10) (hl : Kd.C kE w A m.f7.length m.f7) (hlc : m.f7.length ≤ c) (kind : Int) (hk1 : ¬ kind = 1)
    (hT : ∀ m' : Msg, m'.f0 = kind → r.f5.length ≤ 1200 ∧ r.f7.length ≤ 20 ∧ r.f8.length ≤ 20 ∧ r.f9.length ≤ 20 ∧ r.f10.length ≤ 1200 → m'.f7.length ≤ 1200 → m'.f7.length ≤ c → TakesAs r m' A5 A7 A8 A9 A10 A c5 c7 c8 c9 c10 c) :
    Calls Tryz.prog 17 #[.agg #[.int .i64 r.f0, .int .i64 r.f1, .int .i64 r.f2, .int .i64 r.f3, .int .i64 r.f4, .slice A5 r.f5.length c5, .int .i64 r.f6, .slice A7 r.f7.length c7, .slice A8 r.f8.length c8, .slice A9 r.f9.length c9, .slice A10 r.f10.length c10, .int .i64 r.f11, .int .i64 r.f12], .agg #[.int .i64 m.f0, .int .i64 m.f1, .int .i64 m.f2, .int .i64 m.f3, .int .i64 m.f4, .int .i64 m.f5, .int .i64 m.f6, .slice A m.f7.length c], .int .i64 kind] w fun e w' => e = .returned (.bool true) ∧ Mem w w' [] := by
  have H := Aside0.mk h
  have HC := Aside0.mk hc
  have HL := Aside0.mk hl
  have HLC := Aside0.mk hlc
  have HT := Aside0.mk hT
  have ek : (kind == 1) = false := by simpa using hk1
  have HSB := Aside0.mk (show _ ∧ _ ∧ _ ∧ _ ∧ _ from ⟨C_bound h.h5, C_bound h.h7, C_bound h.h8, C_bound h.h9, C_bound h.h10⟩)
  have M1 := Aside0.mk (((Mem.nil w).allocAt #[.int .i64 r.f0, .int .i64 r.f1, .int .i64 r.f2, .int .i64 r.f3, .int .i64 r.f4, .slice A5 r.f5.length c5, .int .i64 r.f6, .slice A7 r.f7.length c7, .slice A8 r.f8.length c8, .slice A9 r.f9.length c9, .slice A10 r.f10.length c10, .int .i64 r.f11, .int .i64 r.f12] 25 w.heap.size rfl).allocAt #[.int .i64 kind, .int .i64 m.f1, .int .i64 m.f2, .int .i64 m.f3, .int .i64 m.f4, .int .i64 m.f5, .int .i64 m.f6, .slice A m.f7.length c] 27 (w.heap.size + 1) (by simp))
  clear h hc hl hlc hT hk1
  go_enter Tryz.func17, Tryz.ntmps17
  go_wp2_with fail
  go_upto_region 4 with (fail)
  obtain ⟨wc, hwc⟩ : ∃ wc : World, (w.alloc (Obj.cells #[.int .i64 r.f0, .int .i64 r.f1, .int .i64 r.f2, .int .i64 r.f3, .int .i64 r.f4, .slice A5 r.f5.length c5, .int .i64 r.f6, .slice A7 r.f7.length c7, .slice A8 r.f8.length c8, .slice A9 r.f9.length c9, .slice A10 r.f10.length c10, .int .i64 r.f11, .int .i64 r.f12] 25)).alloc (Obj.cells #[.int .i64 kind, .int .i64 m.f1, .int .i64 m.f2, .int .i64 m.f3, .int .i64 m.f4, .int .i64 m.f5, .int .i64 m.f6, .slice A m.f7.length c] 27) = wc := ⟨_, rfl⟩
  rw [hwc] at M1 ⊢
  clear hwc
  have HR0 := Aside0.mk (blk_cell (M1.out.blk_at 1 rfl))
  have HM0 := Aside0.mk (blk_cell (M1.out.blk_at 0 rfl))
  have cR := HR0.out
  have cM := HM0.out
  have M1D := Aside0.mk M1.out.drew
  have FIT : Aside0 (∀ w', Below w.heap.size w w' → Calls Tryz.prog 16 #[.agg #[.int .i64 r.f0, .int .i64 r.f1, .int .i64 r.f2, .int .i64 r.f3, .int .i64 r.f4, .slice A5 r.f5.length c5, .int .i64 r.f6, .slice A7 r.f7.length c7, .slice A8 r.f8.length c8, .slice A9 r.f9.length c9, .slice A10 r.f10.length c10, .int .i64 r.f11, .int .i64 r.f12], .agg #[.int .i64 kind, .int .i64 m.f1, .int .i64 m.f2, .int .i64 m.f3, .int .i64 m.f4, .int .i64 m.f5, .int .i64 m.f6, .slice A m.f7.length c], .bool true] w' fun e w'' => ∃ m' : Msg, m'.f0 = kind ∧ m'.f7 = m.f7 ∧ e = .returned (.agg #[.int .i64 m'.f0, .int .i64 m'.f1, .int .i64 m'.f2, .int .i64 m'.f3, .int .i64 m'.f4, .int .i64 m'.f5, .int .i64 m'.f6, .slice A m'.f7.length c]) ∧ Mem w' w'' []) :=
    ⟨fun w' hb => fitted_calls r ⟨kind, m.f1, m.f2, m.f3, m.f4, m.f5, m.f6, m.f7⟩ A5 A7 A8 A9 A10 A c5 c7 c8 c9 c10 c _ (H.out.below hb) HC.out HSB.out⟩
  have HS0 := Aside0.mk (show (∀ j : Nat, wc.drew.cell? ⟨w.heap.size, j, none⟩ = wc.cell? ⟨w.heap.size, j, none⟩) ∧ (∀ j : Nat, wc.drew.cell? ⟨w.heap.size + 1, j, none⟩ = wc.cell? ⟨w.heap.size + 1, j, none⟩) from ⟨fun _ => rfl, fun _ => rfl⟩)
  have H9 := HS0
  go_region_held3 (fun w' => (∀ j : Nat, w'.cell? ⟨w.heap.size, j, none⟩ = wc.cell? ⟨w.heap.size, j, none⟩) ∧ (∀ j : Nat, w'.cell? ⟨w.heap.size + 1, j, none⟩ = wc.cell? ⟨w.heap.size + 1, j, none⟩)) (first | with_reducible exact HS0.out | with_reducible exact H9.out | with_reducible exact H8.out | fail) ((first | (go_at_call 16; refine (FIT.out _ M1D.out.below).mono ?_; rintro e w1 ⟨m', h0, h7, rfl, hM⟩; have M3 := Aside0.mk (M1D.out.trans hM); have H0 := Aside0.mk h0; have H7 := Aside0.mk h7; clear hM h0 h7; have H9 := Aside0.mk (show (∀ j : Nat, w1.cell? ⟨w.heap.size, j, none⟩ = wc.cell? ⟨w.heap.size, j, none⟩) ∧ (∀ j : Nat, w1.cell? ⟨w.heap.size + 1, j, none⟩ = wc.cell? ⟨w.heap.size + 1, j, none⟩) from ⟨fun j => (blk_cell (M3.out.blk_at 1 rfl) j).trans (HR0.out j).symm, fun j => (blk_cell (M3.out.blk_at 0 rfl) j).trans (HM0.out j).symm⟩)) | (go_at_call 15; have HL' := Aside0.mk (show Kd.C kE w A m'.f7.length m'.f7 by rw [H7.out]; exact HL.out); have HLC' := Aside0.mk (show m'.f7.length ≤ c by rw [H7.out]; exact HLC.out); refine (takes_calls r m' A5 A7 A8 A9 A10 A c5 c7 c8 c9 c10 c _ (H.out.below M3.out.below) HC.out (Kd.C_below HL'.out M3.out.below) HLC'.out (fun hs hn => HT.out m' H0.out hs hn HLC'.out)).mono ?_; rintro e w2 ⟨rfl, hM⟩; have M4 := Aside0.mk (M3.out.trans hM); clear hM; have H8 := Aside0.mk (show (∀ j : Nat, w2.cell? ⟨w.heap.size, j, none⟩ = wc.cell? ⟨w.heap.size, j, none⟩) ∧ (∀ j : Nat, w2.cell? ⟨w.heap.size + 1, j, none⟩ = wc.cell? ⟨w.heap.size + 1, j, none⟩) from ⟨fun j => (blk_cell (M4.out.blk_at 1 rfl) j).trans (HR0.out j).symm, fun j => (blk_cell (M4.out.blk_at 0 rfl) j).trans (HM0.out j).symm⟩))))
  go_wp2
  go_ret
  exact ⟨rfl, Mem.sel (ps := [_, _]) (F := []) [] 2 M4.out rfl rfl⟩
end Go.Proofs.YtggbjokhniigkaaGreat.Of
namespace Go.Proofs.YtggbjokhniigkaaGreat.Tx
open Go.Proofs.YtggbjokhniigkaaGreat.Ty Go.RowKit Go.Proofs.YtggbjokhniigkaaGreatW.PrintWords Go.Proofs.YtggbjokhniigkaaGreatW.PrintLast Go.Proofs.YtggbjokhniigkaaGreatW.PrintMore Go.Proofs.YtggbjokhniigkaaGreat.Mx Go.Proofs.YtggbjokhniigkaaGreat.Kx Go.Proofs.YtggbjokhniigkaaGreat.Wa Go.Proofs.YtggbjokhniigkaaGreat.Wb Go.Proofs.YtggbjokhniigkaaGreat.Wc Go.Proofs.YtggbjokhniigkaaGreat.Wd
set_option linter.unusedVariables false
set_option linter.unusedSimpArgs false
set_option maxRecDepth 100000 in
set_option maxHeartbeats 8000000 in
theorem Take_e1 (r : Rep) (m : Msg) (A5 A7 A8 A9 A10 A : Option Addr) (c5 c7 c8 c9 c10 c : Nat) (w : World) (h : RdRep w r A5 A7 A8 A9 A10) (hn : Small r) (hl : Kd.C kE w A m.f7.length m.f7) (h1 : may r = false) :
    Calls Tryz.prog 34 #[.agg (rc r (.slice A5 r.f5.length c5) (.slice A7 r.f7.length c7) (.slice A8 r.f8.length c8) (.slice A9 r.f9.length c9) (.slice A10 r.f10.length c10)), .agg #[.int .i64 m.f0, .int .i64 m.f1, .int .i64 m.f2, .int .i64 m.f3, .int .i64 m.f4, .int .i64 m.f5, .int .i64 m.f6, .slice A m.f7.length c]] w fun e w' => ∃ v5 v7 v8 v9 v10 vout : Value, e = .returned (.tuple #[.agg (rc r v5 v7 v8 v9 v10), vout, .int .i64 1]) ∧ Mem w w' (rows r v5 v7 v8 v9 v10 ++ [row kM 27 vout []]) := by
  have E1 := Aside0.mk h1
  clear h1
  have H := Aside0.mk h
  have HN := Aside0.mk hn
  have HL := Aside0.mk hl
  have M1 := Aside0.mk ((((Mem.nil w).alloc #[.int .i64 r.f0, .int .i64 r.f1, .int .i64 r.f2, .int .i64 r.f3, .int .i64 r.f4, .slice A5 r.f5.length c5, .int .i64 r.f6, .slice A7 r.f7.length c7, .slice A8 r.f8.length c8, .slice A9 r.f9.length c9, .slice A10 r.f10.length c10, .int .i64 r.f11, .int .i64 r.f12] 25).allocAt #[.int .i64 m.f0, .int .i64 m.f1, .int .i64 m.f2, .int .i64 m.f3, .int .i64 m.f4, .int .i64 m.f5, .int .i64 m.f6, .slice A m.f7.length c] 27 (w.heap.size + 1) (by simp)).allocAt #[.int .i64 0, .int .i64 0, .int .i64 0, .int .i64 0, .int .i64 0, .slice none 0 0, .int .i64 0, .slice none 0 0, .slice none 0 0, .slice none 0 0, .slice none 0 0, .int .i64 0, .int .i64 0] 25 (w.heap.size + 2) (by simp))
  clear h hn hl
  unfold rc
  go_enter Tryz.func34, Tryz.ntmps34
  go_wp2_with fail
  refine (copied_calls r A5 A7 A8 A9 A10 c5 c7 c8 c9 c10 _ (H.out.below M1.out.below) HN.out).mono ?_
  rintro e w2 ⟨v5, v7, v8, v9, v10, rfl, hM⟩
  unfold rc
  obtain ⟨B5, d5, rfl, _, _⟩ := hM.row_at 0 rfl
  obtain ⟨B7, d7, rfl, _, _⟩ := hM.row_at 1 rfl
  obtain ⟨B8, d8, rfl, _, _⟩ := hM.row_at 2 rfl
  obtain ⟨B9, d9, rfl, _, _⟩ := hM.row_at 3 rfl
  obtain ⟨B10, d10, rfl, _, _⟩ := hM.row_at 4 rfl
  have M3 := Aside0.mk (Mem.sel (ps := [_, _, _, _, _, _, _, _]) (F := []) [0, 1, 2, 3, 4, 5, 6, 7] 8 (M1.out.trans hM) rfl rfl)
  clear hM M1
  have hb0 := blk_lt (M3.out.blk_at 5 rfl)
  have hb1 := blk_lt (M3.out.blk_at 6 rfl)
  have hb2 := blk_lt (M3.out.blk_at 7 rfl)
  have M4 := Aside0.mk (M3.out.allocAt #[.int .i64 r.f0, .int .i64 r.f1, .int .i64 r.f2, .int .i64 r.f3, .int .i64 r.f4, .slice B5 r.f5.length d5, .int .i64 r.f6, .slice B7 r.f7.length d7, .slice B8 r.f8.length d8, .slice B9 r.f9.length d9, .slice B10 r.f10.length d10, .int .i64 r.f11, .int .i64 r.f12, .slice none 0 0] 95 w2.heap.size rfl)
  clear M3
  have cR := blk_cell (M4.out.blk_at 8 rfl)
  go_wp2_with fail
  refine (May_calls r A5 A7 A8 A9 A10 c5 c7 c8 c9 c10 _ (Kd.C_below H.out.h5 M4.out.below) (Kd.C_below H.out.h7 M4.out.below) (Kd.C_below H.out.h8 M4.out.below) (Kd.C_below H.out.h9 M4.out.below) (Kd.C_below H.out.h10 M4.out.below) HN.out).mono ?_
  rintro e w3 ⟨he, hM⟩
  rw [E1.out] at he
  subst he
  have M5 := Aside0.mk (Mem.sel (ps := [_, _, _, _, _, _, _, _, _]) (F := []) [0, 1, 2, 3, 4, 5, 6, 7, 8] 9 (M4.out.trans hM) rfl rfl)
  clear hM M4 cR hb0 hb1 hb2
  have cR := blk_cell (M5.out.blk_at 8 rfl)
  have cM := blk_cell (M5.out.blk_at 7 rfl)
  have cZ := blk_cell (M5.out.blk_at 6 rfl)
  have fZ := blk_frozen (M5.out.blk_at 6 rfl)
  have hbW := blk_lt (M5.out.blk_at 0 rfl)
  have hbZ := blk_lt (M5.out.blk_at 6 rfl)
  go_wp2_with fail
  refine (copied_calls r A5 A7 A8 A9 A10 c5 c7 c8 c9 c10 _ (H.out.below M5.out.below) HN.out).mono ?_
  rintro e w5 ⟨v5, v7, v8, v9, v10, rfl, hM⟩
  unfold rc
  obtain ⟨C5, e5, rfl, _, _⟩ := hM.row_at 0 rfl
  obtain ⟨C7, e7, rfl, _, _⟩ := hM.row_at 1 rfl
  obtain ⟨C8, e8, rfl, _, _⟩ := hM.row_at 2 rfl
  obtain ⟨C9, e9, rfl, _, _⟩ := hM.row_at 3 rfl
  obtain ⟨C10, e10, rfl, _, _⟩ := hM.row_at 4 rfl
  have M6 := Aside0.mk (M5.out.trans hM)
  clear hM M5
  have cZ := blk_cell (M6.out.blk_at 11 rfl)
  have fZ := blk_frozen (M6.out.blk_at 11 rfl)
  have hbZ := blk_lt (M6.out.blk_at 11 rfl)
  go_wp2_with fail
  all_goals
    have MF := (M6.out.setRow 11 rfl [.int .i64 r.f0, .int .i64 r.f1, .int .i64 r.f2, .int .i64 r.f3, .int .i64 r.f4, .slice C5 r.f5.length e5, .int .i64 r.f6, .slice C7 r.f7.length e7, .slice C8 r.f8.length e8, .slice C9 r.f9.length e9, .slice C10 r.f10.length e10, .int .i64 r.f11, .int .i64 r.f12] rfl)
    have hgF := MF.blk_at 11 rfl
    refine bodyPost_ret (results_list (rs := [.cell 4 25, .tmp 5, .tmp 6]) rfl (by simp) (.cell (w.heap.size + 2) 25 #[.int .i64 r.f0, .int .i64 r.f1, .int .i64 r.f2, .int .i64 r.f3, .int .i64 r.f4, .slice C5 r.f5.length e5, .int .i64 r.f6, .slice C7 r.f7.length e7, .slice C8 r.f8.length e8, .slice C9 r.f9.length e9, .slice C10 r.f10.length e10, .int .i64 r.f11, .int .i64 r.f12] (0, 0) _ rfl hgF Tryz.underlying25 rfl (by kernel_rfl) (.tmp (.tmp .nil)))) rfl ?_
    exact ⟨_, _, _, _, _, _, rfl, Mem.sel (ps := [_, _, _, _, _, _, _, _, _, _, _, _, _, _, _]) (F := []) [1, 2, 3, 4, 5, 0] 15 (Mem.row_nil MF kM 27) rfl rfl⟩
set_option maxRecDepth 100000 in
set_option maxHeartbeats 8000000 in
theorem Take_e2 (r : Rep) (m : Msg) (A5 A7 A8 A9 A10 A : Option Addr) (c5 c7 c8 c9 c10 c : Nat) (w : World) (h : RdRep w r A5 A7 A8 A9 A10) (hn : Small r) (hl : Kd.C kE w A m.f7.length m.f7) (h1 : may r = true) (hT : ∀ (w0 w : World) (F : List Res) (g : Nat) (v5 v7 v8 v9 v10 : Value), Mem w0 w (blk g 95 (Wa.wc r.f0 r.f1 r.f2 r.f3 r.f4 v5 r.f6 v7 v8 v9 v10 r.f11 r.f12 (.slice none 0 0)) :: row kM 27 (.slice none 0 0) [] :: row kE 68 v5 r.f5 :: row (Kd.int .i64) 3 v7 r.f7 :: row (Kd.int .i64) 3 v8 r.f8 :: row (Kd.int .i64) 3 v9 r.f9 :: row kE 68 v10 r.f10 :: F) → Kd.C kE w0 A m.f7.length m.f7 → Calls Tryz.prog 65 #[.pointer (some ⟨g, 0, none⟩), .agg #[.int .i64 m.f0, .int .i64 m.f1, .int .i64 m.f2, .int .i64 m.f3, .int .i64 m.f4, .int .i64 m.f5, .int .i64 m.f6, .slice A m.f7.length c]] w fun e w' => e = .returned (.bool false) ∧ Mem w0 w' (blk g 95 (Wa.wc r.f0 r.f1 r.f2 r.f3 r.f4 v5 r.f6 v7 v8 v9 v10 r.f11 r.f12 (.slice none 0 0)) :: row kM 27 (.slice none 0 0) [] :: row kE 68 v5 r.f5 :: row (Kd.int .i64) 3 v7 r.f7 :: row (Kd.int .i64) 3 v8 r.f8 :: row (Kd.int .i64) 3 v9 r.f9 :: row kE 68 v10 r.f10 :: F)) :
    Calls Tryz.prog 34 #[.agg (rc r (.slice A5 r.f5.length c5) (.slice A7 r.f7.length c7) (.slice A8 r.f8.length c8) (.slice A9 r.f9.length c9) (.slice A10 r.f10.length c10)), .agg #[.int .i64 m.f0, .int .i64 m.f1, .int .i64 m.f2, .int .i64 m.f3, .int .i64 m.f4, .int .i64 m.f5, .int .i64 m.f6, .slice A m.f7.length c]] w fun e w' => ∃ v5 v7 v8 v9 v10 vout : Value, e = .returned (.tuple #[.agg (rc r v5 v7 v8 v9 v10), vout, .int .i64 1]) ∧ Mem w w' (rows r v5 v7 v8 v9 v10 ++ [row kM 27 vout []]) := by
  have E1 := Aside0.mk h1
  replace hT := Aside0.mk hT
  clear h1
  have H := Aside0.mk h
  have HN := Aside0.mk hn
  have HL := Aside0.mk hl
  have M1 := Aside0.mk ((((Mem.nil w).alloc #[.int .i64 r.f0, .int .i64 r.f1, .int .i64 r.f2, .int .i64 r.f3, .int .i64 r.f4, .slice A5 r.f5.length c5, .int .i64 r.f6, .slice A7 r.f7.length c7, .slice A8 r.f8.length c8, .slice A9 r.f9.length c9, .slice A10 r.f10.length c10, .int .i64 r.f11, .int .i64 r.f12] 25).allocAt #[.int .i64 m.f0, .int .i64 m.f1, .int .i64 m.f2, .int .i64 m.f3, .int .i64 m.f4, .int .i64 m.f5, .int .i64 m.f6, .slice A m.f7.length c] 27 (w.heap.size + 1) (by simp)).allocAt #[.int .i64 0, .int .i64 0, .int .i64 0, .int .i64 0, .int .i64 0, .slice none 0 0, .int .i64 0, .slice none 0 0, .slice none 0 0, .slice none 0 0, .slice none 0 0, .int .i64 0, .int .i64 0] 25 (w.heap.size + 2) (by simp))
  clear h hn hl
  unfold rc
  go_enter Tryz.func34, Tryz.ntmps34
  go_wp2_with fail
  refine (copied_calls r A5 A7 A8 A9 A10 c5 c7 c8 c9 c10 _ (H.out.below M1.out.below) HN.out).mono ?_
  rintro e w2 ⟨v5, v7, v8, v9, v10, rfl, hM⟩
  unfold rc
  obtain ⟨B5, d5, rfl, _, _⟩ := hM.row_at 0 rfl
  obtain ⟨B7, d7, rfl, _, _⟩ := hM.row_at 1 rfl
  obtain ⟨B8, d8, rfl, _, _⟩ := hM.row_at 2 rfl
  obtain ⟨B9, d9, rfl, _, _⟩ := hM.row_at 3 rfl
  obtain ⟨B10, d10, rfl, _, _⟩ := hM.row_at 4 rfl
  have M3 := Aside0.mk (Mem.sel (ps := [_, _, _, _, _, _, _, _]) (F := []) [0, 1, 2, 3, 4, 5, 6, 7] 8 (M1.out.trans hM) rfl rfl)
  clear hM M1
  have hb0 := blk_lt (M3.out.blk_at 5 rfl)
  have hb1 := blk_lt (M3.out.blk_at 6 rfl)
  have hb2 := blk_lt (M3.out.blk_at 7 rfl)
  have M4 := Aside0.mk (M3.out.allocAt #[.int .i64 r.f0, .int .i64 r.f1, .int .i64 r.f2, .int .i64 r.f3, .int .i64 r.f4, .slice B5 r.f5.length d5, .int .i64 r.f6, .slice B7 r.f7.length d7, .slice B8 r.f8.length d8, .slice B9 r.f9.length d9, .slice B10 r.f10.length d10, .int .i64 r.f11, .int .i64 r.f12, .slice none 0 0] 95 w2.heap.size rfl)
  clear M3
  have cR := blk_cell (M4.out.blk_at 8 rfl)
  go_wp2_with fail
  refine (May_calls r A5 A7 A8 A9 A10 c5 c7 c8 c9 c10 _ (Kd.C_below H.out.h5 M4.out.below) (Kd.C_below H.out.h7 M4.out.below) (Kd.C_below H.out.h8 M4.out.below) (Kd.C_below H.out.h9 M4.out.below) (Kd.C_below H.out.h10 M4.out.below) HN.out).mono ?_
  rintro e w3 ⟨he, hM⟩
  rw [E1.out] at he
  subst he
  have M5 := Aside0.mk (Mem.sel (ps := [_, _, _, _, _, _, _, _, _]) (F := []) [0, 1, 2, 3, 4, 5, 6, 7, 8] 9 (M4.out.trans hM) rfl rfl)
  clear hM M4 cR hb0 hb1 hb2
  have cR := blk_cell (M5.out.blk_at 8 rfl)
  have cM := blk_cell (M5.out.blk_at 7 rfl)
  have cZ := blk_cell (M5.out.blk_at 6 rfl)
  have fZ := blk_frozen (M5.out.blk_at 6 rfl)
  have hbW := blk_lt (M5.out.blk_at 0 rfl)
  have hbZ := blk_lt (M5.out.blk_at 6 rfl)
  go_wp2_with fail
  refine (hT.out w _ [_, _, _] w2.heap.size _ _ _ _ _ (Mem.sel (ps := [_, _, _, _, _, _, _, _, _, _]) (F := []) [1, 0, 2, 3, 4, 5, 6, 7, 8, 9] 10 (Mem.row_nil M5.out kM 27) rfl rfl) HL.out).mono ?_
  rintro e w4 ⟨rfl, hM⟩
  have M7 := Aside0.mk hM
  clear hM M5 cR cM cZ fZ hbW hbZ
  have cR := blk_cell (M7.out.blk_at 9 rfl)
  go_wp2_with fail
  refine (copied_calls r A5 A7 A8 A9 A10 c5 c7 c8 c9 c10 _ (H.out.below M7.out.below) HN.out).mono ?_
  rintro e w5 ⟨v5, v7, v8, v9, v10, rfl, hM⟩
  unfold rc
  obtain ⟨C5, e5, rfl, _, _⟩ := hM.row_at 0 rfl
  obtain ⟨C7, e7, rfl, _, _⟩ := hM.row_at 1 rfl
  obtain ⟨C8, e8, rfl, _, _⟩ := hM.row_at 2 rfl
  obtain ⟨C9, e9, rfl, _, _⟩ := hM.row_at 3 rfl
  obtain ⟨C10, e10, rfl, _, _⟩ := hM.row_at 4 rfl
  have M6 := Aside0.mk (M7.out.trans hM)
  clear hM M7
  have cZ := blk_cell (M6.out.blk_at 12 rfl)
  have fZ := blk_frozen (M6.out.blk_at 12 rfl)
  have hbZ := blk_lt (M6.out.blk_at 12 rfl)
  go_wp2_with fail
  all_goals
    have MF := (M6.out.setRow 12 rfl [.int .i64 r.f0, .int .i64 r.f1, .int .i64 r.f2, .int .i64 r.f3, .int .i64 r.f4, .slice C5 r.f5.length e5, .int .i64 r.f6, .slice C7 r.f7.length e7, .slice C8 r.f8.length e8, .slice C9 r.f9.length e9, .slice C10 r.f10.length e10, .int .i64 r.f11, .int .i64 r.f12] rfl)
    have hgF := MF.blk_at 12 rfl
    refine bodyPost_ret (results_list (rs := [.cell 4 25, .tmp 5, .tmp 6]) rfl (by simp) (.cell (w.heap.size + 2) 25 #[.int .i64 r.f0, .int .i64 r.f1, .int .i64 r.f2, .int .i64 r.f3, .int .i64 r.f4, .slice C5 r.f5.length e5, .int .i64 r.f6, .slice C7 r.f7.length e7, .slice C8 r.f8.length e8, .slice C9 r.f9.length e9, .slice C10 r.f10.length e10, .int .i64 r.f11, .int .i64 r.f12] (0, 0) _ rfl hgF Tryz.underlying25 rfl (by kernel_rfl) (.tmp (.tmp .nil)))) rfl ?_
    exact ⟨_, _, _, _, _, _, rfl, Mem.sel (ps := [_, _, _, _, _, _, _, _, _, _, _, _, _, _, _, _]) (F := []) [1, 2, 3, 4, 5, 0] 16 (Mem.row_nil MF kM 27) rfl rfl⟩
set_option maxRecDepth 100000 in
set_option maxHeartbeats 8000000 in
theorem Take_ok (r : Rep) (m : Msg) (A5 A7 A8 A9 A10 A : Option Addr) (c5 c7 c8 c9 c10 c : Nat) (w : World) (h : RdRep w r A5 A7 A8 A9 A10) (hn : Small r) (hl : Kd.C kE w A m.f7.length m.f7) (h1 : may r = true) (s : Rep) (out : List Msg) (hT : ∀ (w0 w : World) (F : List Res) (g : Nat) (v5 v7 v8 v9 v10 : Value), Mem w0 w (blk g 95 (Wa.wc r.f0 r.f1 r.f2 r.f3 r.f4 v5 r.f6 v7 v8 v9 v10 r.f11 r.f12 (.slice none 0 0)) :: row kM 27 (.slice none 0 0) [] :: row kE 68 v5 r.f5 :: row (Kd.int .i64) 3 v7 r.f7 :: row (Kd.int .i64) 3 v8 r.f8 :: row (Kd.int .i64) 3 v9 r.f9 :: row kE 68 v10 r.f10 :: F) → Kd.C kE w0 A m.f7.length m.f7 → Calls Tryz.prog 65 #[.pointer (some ⟨g, 0, none⟩), .agg #[.int .i64 m.f0, .int .i64 m.f1, .int .i64 m.f2, .int .i64 m.f3, .int .i64 m.f4, .int .i64 m.f5, .int .i64 m.f6, .slice A m.f7.length c]] w fun e w' => e = .returned (.bool true) ∧ ∃ v5' v7' v8' v9' v10' vout' : Value, Mem w0 w' (blk g 95 (Wa.wc s.f0 s.f1 s.f2 s.f3 s.f4 v5' s.f6 v7' v8' v9' v10' s.f11 s.f12 vout') :: row kM 27 vout' out :: row kE 68 v5' s.f5 :: row (Kd.int .i64) 3 v7' s.f7 :: row (Kd.int .i64) 3 v8' s.f8 :: row (Kd.int .i64) 3 v9' s.f9 :: row kE 68 v10' s.f10 :: F)) :
    Calls Tryz.prog 34 #[.agg (rc r (.slice A5 r.f5.length c5) (.slice A7 r.f7.length c7) (.slice A8 r.f8.length c8) (.slice A9 r.f9.length c9) (.slice A10 r.f10.length c10)), .agg #[.int .i64 m.f0, .int .i64 m.f1, .int .i64 m.f2, .int .i64 m.f3, .int .i64 m.f4, .int .i64 m.f5, .int .i64 m.f6, .slice A m.f7.length c]] w fun e w' => ∃ v5 v7 v8 v9 v10 vout : Value, e = .returned (.tuple #[.agg (rc s v5 v7 v8 v9 v10), vout, .int .i64 0]) ∧ Mem w w' (rows s v5 v7 v8 v9 v10 ++ [row kM 27 vout out]) := by
  have E1 := Aside0.mk h1
  replace hT := Aside0.mk hT
  clear h1
  have H := Aside0.mk h
  have HN := Aside0.mk hn
  have HL := Aside0.mk hl
  have M1 := Aside0.mk ((((Mem.nil w).alloc #[.int .i64 r.f0, .int .i64 r.f1, .int .i64 r.f2, .int .i64 r.f3, .int .i64 r.f4, .slice A5 r.f5.length c5, .int .i64 r.f6, .slice A7 r.f7.length c7, .slice A8 r.f8.length c8, .slice A9 r.f9.length c9, .slice A10 r.f10.length c10, .int .i64 r.f11, .int .i64 r.f12] 25).allocAt #[.int .i64 m.f0, .int .i64 m.f1, .int .i64 m.f2, .int .i64 m.f3, .int .i64 m.f4, .int .i64 m.f5, .int .i64 m.f6, .slice A m.f7.length c] 27 (w.heap.size + 1) (by simp)).allocAt #[.int .i64 0, .int .i64 0, .int .i64 0, .int .i64 0, .int .i64 0, .slice none 0 0, .int .i64 0, .slice none 0 0, .slice none 0 0, .slice none 0 0, .slice none 0 0, .int .i64 0, .int .i64 0] 25 (w.heap.size + 2) (by simp))
  clear h hn hl
  unfold rc
  go_enter Tryz.func34, Tryz.ntmps34
  go_wp2_with fail
  refine (copied_calls r A5 A7 A8 A9 A10 c5 c7 c8 c9 c10 _ (H.out.below M1.out.below) HN.out).mono ?_
  rintro e w2 ⟨v5, v7, v8, v9, v10, rfl, hM⟩
  unfold rc
  obtain ⟨B5, d5, rfl, _, _⟩ := hM.row_at 0 rfl
  obtain ⟨B7, d7, rfl, _, _⟩ := hM.row_at 1 rfl
  obtain ⟨B8, d8, rfl, _, _⟩ := hM.row_at 2 rfl
  obtain ⟨B9, d9, rfl, _, _⟩ := hM.row_at 3 rfl
  obtain ⟨B10, d10, rfl, _, _⟩ := hM.row_at 4 rfl
  have M3 := Aside0.mk (Mem.sel (ps := [_, _, _, _, _, _, _, _]) (F := []) [0, 1, 2, 3, 4, 5, 6, 7] 8 (M1.out.trans hM) rfl rfl)
  clear hM M1
  have hb0 := blk_lt (M3.out.blk_at 5 rfl)
  have hb1 := blk_lt (M3.out.blk_at 6 rfl)
  have hb2 := blk_lt (M3.out.blk_at 7 rfl)
  have M4 := Aside0.mk (M3.out.allocAt #[.int .i64 r.f0, .int .i64 r.f1, .int .i64 r.f2, .int .i64 r.f3, .int .i64 r.f4, .slice B5 r.f5.length d5, .int .i64 r.f6, .slice B7 r.f7.length d7, .slice B8 r.f8.length d8, .slice B9 r.f9.length d9, .slice B10 r.f10.length d10, .int .i64 r.f11, .int .i64 r.f12, .slice none 0 0] 95 w2.heap.size rfl)
  clear M3
  have cR := blk_cell (M4.out.blk_at 8 rfl)
  go_wp2_with fail
  refine (May_calls r A5 A7 A8 A9 A10 c5 c7 c8 c9 c10 _ (Kd.C_below H.out.h5 M4.out.below) (Kd.C_below H.out.h7 M4.out.below) (Kd.C_below H.out.h8 M4.out.below) (Kd.C_below H.out.h9 M4.out.below) (Kd.C_below H.out.h10 M4.out.below) HN.out).mono ?_
  rintro e w3 ⟨he, hM⟩
  rw [E1.out] at he
  subst he
  have M5 := Aside0.mk (Mem.sel (ps := [_, _, _, _, _, _, _, _, _]) (F := []) [0, 1, 2, 3, 4, 5, 6, 7, 8] 9 (M4.out.trans hM) rfl rfl)
  clear hM M4 cR hb0 hb1 hb2
  have cR := blk_cell (M5.out.blk_at 8 rfl)
  have cM := blk_cell (M5.out.blk_at 7 rfl)
  have cZ := blk_cell (M5.out.blk_at 6 rfl)
  have fZ := blk_frozen (M5.out.blk_at 6 rfl)
  have hbW := blk_lt (M5.out.blk_at 0 rfl)
  have hbZ := blk_lt (M5.out.blk_at 6 rfl)
  go_wp2_with fail
  refine (hT.out w _ [_, _, _] w2.heap.size _ _ _ _ _ (Mem.sel (ps := [_, _, _, _, _, _, _, _, _, _]) (F := []) [1, 0, 2, 3, 4, 5, 6, 7, 8, 9] 10 (Mem.row_nil M5.out kM 27) rfl rfl) HL.out).mono ?_
  rintro e w4 ⟨rfl, v5, v7, v8, v9, v10, vo, hM⟩
  obtain ⟨Co, eo, rfl, _, _⟩ := hM.row_at 1 rfl
  obtain ⟨C5, e5, rfl, _, _⟩ := hM.row_at 2 rfl
  obtain ⟨C7, e7, rfl, _, _⟩ := hM.row_at 3 rfl
  obtain ⟨C8, e8, rfl, _, _⟩ := hM.row_at 4 rfl
  obtain ⟨C9, e9, rfl, _, _⟩ := hM.row_at 5 rfl
  obtain ⟨C10, e10, rfl, _, _⟩ := hM.row_at 6 rfl
  have M6 := Aside0.mk hM
  clear hM M5 cR cM cZ fZ hbW hbZ
  have cW := blk_cell (M6.out.blk_at 0 rfl)
  have cZ := blk_cell (M6.out.blk_at 7 rfl)
  have fZ := blk_frozen (M6.out.blk_at 7 rfl)
  have hbZ := blk_lt (M6.out.blk_at 7 rfl)
  have nWZ := Wh0.blk_ne M6.out 0 7 rfl rfl (by decide)
  unfold Wa.wc at cW
  go_upto_region 4 with (fail)
  go_region
  all_goals
    go_wp2
    have MF := (M6.out.setRow 7 rfl [.int .i64 s.f0, .int .i64 s.f1, .int .i64 s.f2, .int .i64 s.f3, .int .i64 s.f4, .slice C5 s.f5.length e5, .int .i64 s.f6, .slice C7 s.f7.length e7, .slice C8 s.f8.length e8, .slice C9 s.f9.length e9, .slice C10 s.f10.length e10, .int .i64 s.f11, .int .i64 s.f12] rfl).drew
    have hgF := MF.blk_at 7 rfl
    refine bodyPost_ret (results_list (rs := [.cell 4 25, .tmp 5, .tmp 6]) rfl (by simp) (.cell (w.heap.size + 2) 25 #[.int .i64 s.f0, .int .i64 s.f1, .int .i64 s.f2, .int .i64 s.f3, .int .i64 s.f4, .slice C5 s.f5.length e5, .int .i64 s.f6, .slice C7 s.f7.length e7, .slice C8 s.f8.length e8, .slice C9 s.f9.length e9, .slice C10 s.f10.length e10, .int .i64 s.f11, .int .i64 s.f12] (0, 0) _ rfl hgF Tryz.underlying25 rfl (by kernel_rfl) (.tmp (.tmp .nil)))) rfl ?_
    exact ⟨_, _, _, _, _, _, rfl, Mem.sel (ps := [_, _, _, _, _, _, _, _, _, _]) (F := []) [2, 3, 4, 5, 6, 1] 10 MF rfl rfl⟩
end Go.Proofs.YtggbjokhniigkaaGreat.Tx
namespace Go.Proofs.YtggbjokhniigkaaGreat.Ra
open Go.RowKit Go.Proofs.YtggbjokhniigkaaGreatW.PrintWords Go.Proofs.YtggbjokhniigkaaGreatW.PrintLast Go.Proofs.YtggbjokhniigkaaGreatW.PrintMore Go.Proofs.YtggbjokhniigkaaGreat.Mx
set_option linter.unusedVariables false
theorem lt_kept {w w' : World} {k : Nat} (h : w'.heap[k]? = w.heap[k]?) (hk : k < w.heap.size) : k < w'.heap.size := by
  rcases Nat.lt_or_ge k w'.heap.size with g | g
  · exact g
  · rw [Array.getElem?_eq_none g, Array.getElem?_eq_getElem hk] at h
    cases h
def andF {β : Type} (r : Res) (d : Kd β) (A : Option Addr) (n : Nat) (ys : List β) : Res where
  holds w fp := r.holds w fp ∧ Kd.F d w fp A n ys
  move hm h := ⟨r.move hm h.1, fun W' hW => h.2 W' (fun k hk hl => (hW k hk (lt_kept (hm k hk) hl)).trans (hm k hk))⟩
  mono hm h := ⟨r.mono hm h.1, fun W' hW => h.2 W' (fun k hk hl => hW k (hm k hk) hl)⟩
theorem F_row {β : Type} {d : Kd β} {e : Nat} {A : Option Addr} {n c : Nat} {ys : List β} {w : World} {f : Nat → Prop} (h : (row d e (.slice A n c) ys).holds w f) : Kd.F d w f A ys.length ys :=
  fun W' hW => (Kd.R_reads' (Kd.R_move (Kd.R_bound h) (fun k hk => hW k hk.1 hk.2.2.1))).2.2
theorem Mem.andF_C {w0 w : World} {rs : List Res} {β : Type} {r : Res} {d : Kd β} {A : Option Addr} {n : Nat} {ys : List β} (h : Mem w0 w rs) (i : Nat) (hi : rs[i]? = some (andF r d A n ys)) : d.C w A n ys :=
  (h.hold hi).2 w (fun _ _ _ => rfl)
section
variable {P : Program} {ops : Array Oper} {rest : List Oper} {o : Oper} {a : Act} {Q : Exit → Act → World → Prop} {Kc : Act → World → Prop} {α β : Type}
theorem app1F (d : Kd α) (dd : Kd β) {w0 W : World} {rs : List Res} (hM : Mem w0 W rs) (i j b : Nat) (v : Value) (xs : List α) (p : α) (cs : List Value) (A : Option Addr) (n : Nat) (ys : List β) (g c : Nat) (hij : i ≠ j) (hgd : o.guard = none) (s x : Operand) (t e : TypeId) (z : Value) (bytes : Nat)
    (ho : o.op = .call { callee := .builtin .append, args := #[s, x], argTypes := #[t, t] })
    (ht : P.underlying t = some (.slice e)) (hinfo : (P.info? e).map (fun i => (i.zero, i.size, i.bytes)) = some (some z, d.sz, bytes)) (hz : z.cells.size = d.sz) (hs0 : 0 < d.sz) (hb0 : 0 < bytes)
    (hs : a.eval s = v) (hx : a.eval x = .slice (some ⟨g, 0, none⟩) 1 c)
    (hi : rs[i]? = some (Mx.row d e v xs)) (hj : rs[j]? = some (andF (Mx.el d p cs) dd A n ys)) (hb : rs[b]? = some (Mx.blk g e cs.toArray)) (hl : (xs.length + 1) * bytes ≤ 140737488355328)
    (h : ∀ v1 w1, Mem w0 w1 ((rs.set i (andF (Mx.row d e v1 (xs ++ [p])) dd A n ys)).set j emp) → wpList P ops Q rest (a.put o.dst v1) w1) : wpList P ops Q (o :: rest) a W := by
  have hblk := hM.blk_at b hb
  obtain ⟨f, q, h1, ⟨hq, hF⟩, h2, h2q, hd, h3⟩ := hM.take2 hi hj hij
  have hK := d.K_of_M hq
  refine Kd.R_append_rows d (w0 := W) 0 hgd s x t e z bytes ho ht hinfo hz hs0 hb0 v xs [p] (some ⟨g, 0, none⟩) 1 c (fun k => f k ∨ q k ∨ W.heap.size ≤ k) q hs hx (Kd.R_mono h1 (fun _ hk => .inl hk)) (reads_one p hblk (d.K_len hK)) (fun x' cs' hx' => by obtain ⟨rfl, rfl⟩ := hx'; exact hq) (fun k hk => ⟨.inr (.inl hk), fun he => hd k (h1.1 k he.symm) hk⟩) (fun _ hk => .inr (.inr hk)) (Below.refl _ _) (Nat.zero_le _) hl ?_
  intro v1 w1 hr hb1 hg _
  refine h v1 w1 (h3 w1 _ hg.os hg.tape hg.output hg.size (fun k hk hf _ => hg.block k hk (fun he => hf (h1.1 k he.symm))) ⟨?_, ?_⟩)
  · exact Kd.R_mono (Kd.R_bound hr) (fun k hk => hk.1.imp id (fun hh => hh.imp id (fun hh => ⟨hh, hk.2.2.1⟩)))
  · intro W' hW
    have hk1 := fun k hk => hg.block k (h2q k hk).2 (fun he => hd k (h1.1 k he.symm) hk)
    exact hF W' (fun k hk hlt => (hW k (.inr (.inl hk)) (lt_kept (hk1 k hk) hlt)).trans (hk1 k hk))
end
end Go.Proofs.YtggbjokhniigkaaGreat.Ra
namespace Go.Proofs.YtggbjokhniigkaaGreat.Rb
open Go.Proofs.YtggbjokhniigkaaGreat.Ty Go.RowKit Go.Proofs.YtggbjokhniigkaaGreatW.PrintWords Go.Proofs.YtggbjokhniigkaaGreatW.PrintLast Go.Proofs.YtggbjokhniigkaaGreatW.PrintMore Go.Proofs.YtggbjokhniigkaaGreat.Mx Go.Proofs.YtggbjokhniigkaaGreat.Kx Go.Proofs.YtggbjokhniigkaaGreat.Wa Go.Proofs.YtggbjokhniigkaaGreat.We Go.Proofs.YtggbjokhniigkaaGreat.Ra
set_option linter.unusedVariables false
set_option linter.unusedSimpArgs false
set_option maxRecDepth 100000 in
set_option maxHeartbeats 4000000 in
theorem all11_calls (w0 w : World) (Rm : Res) (F : List Res) (g : Nat) (i n vw nr hw : Int) (vl : Value) (cm : Int) (va vv vo vb : Value) (bv bd : Int) (m0 m1 m2 m3 m4 m5 m6 : Int) (A : Option Addr) (c : Nat) (l : List Entry)
    (hM : Mem w0 w (Rm :: blk g 25 #[.int .i64 i, .int .i64 n, .int .i64 vw, .int .i64 nr, .int .i64 hw, vl, .int .i64 cm, va, vv, vo, vb, .int .i64 bv, .int .i64 bd] :: F)) (hl : Rd w0 Rm kE A l) (hn : l.length ≤ 1000000000) (hc : l.length ≤ c) (hn0 : 0 < n) (hn5 : n ≤ 5) :
    Calls Tryz.prog 118 #[.pointer (some ⟨g, 0, none⟩), .agg #[.int .i64 m0, .int .i64 m1, .int .i64 m2, .int .i64 m3, .int .i64 m4, .int .i64 m5, .int .i64 m6, .slice A l.length c]] w fun e w' =>
      ∃ vout : Value, e = .returned vout ∧ Mem w0 w' (row kM 27 vout (allFrom i n vw ⟨m0, m1, m2, m3, m4, m5, m6, l⟩ n.toNat 0) :: Rm :: blk g 25 #[.int .i64 i, .int .i64 n, .int .i64 vw, .int .i64 nr, .int .i64 hw, vl, .int .i64 cm, va, vv, vo, vb, .int .i64 bv, .int .i64 bd] :: F) := by
  have HN := Aside0.mk hn
  have HC := Aside0.mk hc
  have HL := Aside0.mk (show ∀ (w : World) (rs : List Res), Mem w0 w rs → rs[0]? = some (row kM 27 (.slice none 0 0) []) → rs[2]? = some Rm → kE.C w A l.length l from fun w rs h1 _ h3 => hl w rs 2 h1 h3)
  have M0 := Aside0.mk (hM.allocAt #[.int .i64 m0, .int .i64 m1, .int .i64 m2, .int .i64 m3, .int .i64 m4, .int .i64 m5, .int .i64 m6, .slice A l.length c] 27 _ rfl)
  have M1 := Aside0.mk (M0.out.cons (r := row kM 27 (.slice none 0 0) []) (Below.refl _ _) (Kd.R_nil _ _ _ _ _))
  have hg : g < w.heap.size := blk_lt (hM.blk_at 1 rfl)
  clear hM hl hn hc
  go_enter Tryz.func118, Tryz.ntmps118
  go_wp2_with fail
  go_loopg [5, 6] (n.toNat + 1) (fun kq v5 v6 w' => ∃ (k : Nat) (X : Res) (out : List Msg) (x1 x2 x3 : Int) (A' : Option Addr) (c' : Nat), v6 = .int .i64 k ∧ Aside0 ((k : Int) ≤ n ∧ kq = n.toNat + 1 - k ∧ out.length ≤ k ∧ out ++ allFrom i n vw ⟨m0, m1, m2, m3, m4, m5, m6, l⟩ (n.toNat - k) k = allFrom i n vw ⟨m0, m1, m2, m3, m4, m5, m6, l⟩ n.toNat 0) ∧ Aside0 (l.length ≤ c') ∧ Aside0 (∀ w f, X.holds w f → (row kM 27 v5 out).holds w f) ∧ Aside0 (∀ (w : World) (rs : List Res), Mem w0 w rs → rs[0]? = some X → rs[2]? = some Rm → kE.C w A' l.length l) ∧ Aside0 (Mem w0 w' (X :: blk w.heap.size 27 #[.int .i64 m0, .int .i64 x1, .int .i64 x2, .int .i64 x3, .int .i64 m4, .int .i64 m5, .int .i64 m6, .slice A' l.length c'] :: Rm :: blk g 25 #[.int .i64 i, .int .i64 n, .int .i64 vw, .int .i64 nr, .int .i64 hw, vl, .int .i64 cm, va, vv, vo, vb, .int .i64 bv, .int .i64 bd] :: F)))
  case atStart => exact ⟨0, _, [], m1, m2, m3, A, c, rfl, ⟨by omega, by omega, by simp, by simp⟩, HC, ⟨fun _ _ h => h⟩, HL, M1⟩
  case round =>
    obtain ⟨k, X, out, x1, x2, x3, A', c', rfl, HK, HC', HX, HL', M2⟩ := hrel
    clear M0 M1
    have cG := blk_cell (M2.out.blk_at 3 rfl)
    have cB := blk_cell (M2.out.blk_at 1 rfl)
    have fB := blk_frozen (M2.out.blk_at 1 rfl)
    have hgr := blk_lt (M2.out.blk_at 3 rfl)
    have hbr := blk_lt (M2.out.blk_at 1 rfl)
    have ngb : ¬ g = w.heap.size := by omega
    have nbg : ¬ w.heap.size = g := by omega
    by_cases hlt : (k : Int) < n
    · have HS := Aside0.mk (allFrom_step i n vw ⟨m0, m1, m2, m3, m4, m5, m6, l⟩ k hlt)
      by_cases hid : (k : Int) = i
      · have HI := Aside0.mk hid
        have e1 : ((k : Int) == i) = true := by simpa using hid
        have e2 : ((k : Int) != i) = false := by simpa using hid
        clear hid
        go_wp2_with fail
        go_roundg (n.toNat - k)
        case measure => have := HK.out; omega
        case rel =>
          refine ⟨k + 1, X, out, x1, x2, x3, A', c', by go_num, ⟨by omega, by omega, by have := HK.out; omega, ?_⟩, HC', HX, HL', M2⟩
          have h1 := HK.out.2.2.2
          rw [HS.out, if_pos HI.out] at h1
          exact h1
      · have HI := Aside0.mk hid
        have e1 : ((k : Int) == i) = false := by simpa using hid
        have e2 : ((k : Int) != i) = true := by simpa using hid
        clear hid
        go_upto_region 9 with (fail)
        have M3 := Aside0.mk (((M2.out.set 1 rfl 1 (.int .i64 i)).set 1 rfl 2 (.int .i64 k)).set 1 rfl 3 (.int .i64 vw))
        have hCC := HL'.out _ _ M3.out rfl rfl
        have HCC := Aside0.mk hCC
        clear hCC
        go_cut [] (fun wx => ∃ (A2 : Option Addr) (c2 : Nat), Aside0 (l.length ≤ c2) ∧ Aside0 (Mem w0 wx (row kE 68 (.slice A2 l.length c2) l :: X :: blk w.heap.size 27 #[.int .i64 m0, .int .i64 i, .int .i64 k, .int .i64 vw, .int .i64 m4, .int .i64 m5, .int .i64 m6, .slice A2 l.length c2] :: Rm :: blk g 25 #[.int .i64 i, .int .i64 n, .int .i64 vw, .int .i64 nr, .int .i64 hw, vl, .int .i64 cm, va, vv, vo, vb, .int .i64 bv, .int .i64 bd] :: F)))
        case first =>
          go_wp2_with (((with_reducible refine gate_builtin (b := .append) (xs := #[.tmp 33, .tmp 35]) rfl ?_); at_builtin; refine Mem.app kE ((M3.out.allocAt #[] 68 wr.heap.size (by simp)).lit 0 kE [] rfl (Reps.none _ _) (by decide)) 0 _ [] l rfl (.tmp 33) (.tmp 35) 22 68 _ _ rfl Tryz.underlying22 infoEntry rfl (by decide) (by omega) A' _ c' rfl rfl rfl (Kd.C_alloc HCC.out _) (fun x cs h => h) (by have := HN.out; simp; omega) ?_; intro v1 w1 hM1; have M4 := Aside0.mk (show Mem _ _ (row kE _ v1 l :: _) from hM1); clear hM1; obtain ⟨A2, c2, he, hc2, _⟩ := M4.out.row_at 0 rfl; subst he; have cB4 := blk_cell (M4.out.blk_at 2 rfl); have fB4 := blk_frozen (M4.out.blk_at 2 rfl)))
          go_meet
          case rel => exact ⟨A2, c2, ⟨hc2⟩, ⟨M4.out.set 2 rfl 7 (.slice A2 l.length c2)⟩⟩
        case rest =>
          obtain ⟨A2, c2, HC2, M5⟩ := hcut
          clear M2 M3 HCC cB fB cG hgr hbr
          have cB := blk_cell (M5.out.blk_at 2 rfl)
          have hbr := blk_lt (M5.out.blk_at 2 rfl)
          have M6 := Aside0.mk (((M5.out.imp (i := 1) rfl _ (fun f hf => HX.out _ f hf)).imp (i := 0) rfl (andF (el kM ⟨m0, i, k, vw, m4, m5, m6, l⟩ [.int .i64 m0, .int .i64 i, .int .i64 k, .int .i64 vw, .int .i64 m4, .int .i64 m5, .int .i64 m6, .slice A2 l.length c2]) kE A2 l.length l) (fun f hf => ⟨kM_mkM _ _ _ ⟨m0, i, k, vw, m4, m5, m6, l⟩ hf, F_row hf⟩)).alloc #[.int .i64 m0, .int .i64 i, .int .i64 k, .int .i64 vw, .int .i64 m4, .int .i64 m5, .int .i64 m6, .slice A2 l.length c2] 27)
          go_wp2_with (((with_reducible refine gate_builtin (b := .append) (xs := #[.tmp 38, .tmp 40]) rfl ?_); at_builtin; refine app1F kM kE M6.out 2 1 0 _ out _ _ A2 l.length l _ 1 (by decide) rfl (.tmp 38) (.tmp 40) 60 27 _ _ rfl Tryz.underlying60 infoMsg rfl (by decide) (by omega) rfl rfl rfl rfl rfl (by have := HK.out; omega) ?_; intro v1 w1 hM1; have M7 := Aside0.mk hM1; clear hM1))
          go_roundg (n.toNat - k)
          case measure => have := HK.out; omega
          case rel =>
            have M8 := Aside0.mk (Mem.sel (ps := [_, _, _, _, _, _]) (F := F) [2, 3, 4, 5] 6 M7.out rfl rfl)
            refine ⟨k + 1, andF (row kM 27 v1 (out ++ [(⟨m0, i, (k : Int), vw, m4, m5, m6, l⟩ : Msg)])) kE A2 l.length l, out ++ [(⟨m0, i, (k : Int), vw, m4, m5, m6, l⟩ : Msg)], i, k, vw, A2, c2, by go_num, ⟨by omega, by omega, ?_, ?_⟩, HC2, ⟨fun w f h => h.1⟩, ⟨fun w rs hM h0 _ => Mem.andF_C hM 0 h0⟩, M8⟩
            · have := HK.out
              rw [List.length_append, List.length_singleton]
              omega
            · have h1 := HK.out.2.2.2
              rw [HS.out, if_neg HI.out] at h1
              rw [List.append_assoc]
              exact h1
    · have hk : (k : Int) = n := by have := HK.out.1; omega
      have HE := Aside0.mk hk
      clear hk
      go_wp2_with fail
      go_ret
      refine ⟨_, rfl, ?_⟩
      have h1 := HK.out.2.2.2
      have h2 : n.toNat - k = 0 := by have := HE.out; omega
      rw [h2] at h1
      simp only [allFrom, List.append_nil] at h1
      rw [← h1]
      exact Mem.sel (ps := [_, _, _, _]) (F := F) [0, 2, 3] 4 (M2.out.imp (i := 0) rfl _ (fun f hf => HX.out _ f hf)) rfl rfl
end Go.Proofs.YtggbjokhniigkaaGreat.Rb
namespace Go.Proofs.YtggbjokhniigkaaGreat.Sa
open Go.Proofs.YtggbjokhniigkaaGreat.Ty Go.RowKit Go.Proofs.YtggbjokhniigkaaGreatW.PrintWords Go.Proofs.YtggbjokhniigkaaGreatW.PrintLast Go.Proofs.YtggbjokhniigkaaGreatW.PrintMore Go.Proofs.YtggbjokhniigkaaGreat.Mx Go.Proofs.YtggbjokhniigkaaGreat.Kx Go.Proofs.YtggbjokhniigkaaGreat.Wa Go.Proofs.YtggbjokhniigkaaGreat.Wb Go.Proofs.YtggbjokhniigkaaGreat.We Go.Proofs.YtggbjokhniigkaaGreat.Ra Go.Proofs.YtggbjokhniigkaaGreat.Rb
set_option linter.unusedVariables false
set_option linter.unusedSimpArgs false
section
variable {P : Program} {ops : Array Oper} {rest : List Oper} {o : Oper} {a : Act} {Q : Exit → Act → World → Prop} {α : Type}
/-- make([]T, n). -/
theorem Mem.make (d : Kd α) {w0 W : World} {rs : List Res} (hM : Mem w0 W rs) (e : Nat) (hgd : o.guard = none) {N : Tmp} (hd : o.dst = some N) (t : TypeId) (x y : Operand) (ho : o.op = .makeSlice t x y) (n : Int) (hx : a.eval x = .int .i64 n) (hy : a.eval y = .int .i64 n)
    (ht : P.underlying t = some (.slice e)) (z : Value) (bytes : Nat) (hinfo : (P.info? e).map (fun i => (i.zero, i.size, i.bytes)) = some (some z, d.sz, bytes)) (hz : z.cells.size = d.sz) (hs0 : 0 < d.sz) (hb0 : 0 < bytes)
    (z0 : α) (hzero : ∀ w b, d.M w b (fun _ => False) z0 z.cells.toList) (h0 : 0 ≤ n) (hl : n.toNat * bytes ≤ 281474976710656) (ys : List α) (hys : List.replicate n.toNat z0 = ys)
    (h : ∀ v1 w1, Mem w0 w1 (row d e v1 ys :: rs) → wpList P ops Q rest (a.put o.dst v1) w1) : wpList P ops Q (o :: rest) a W := by
  subst hys
  refine Kd.R_make d (w0 := W) W.heap.size e hgd hd t x y ho n hx hy ht z bytes hinfo hz hs0 hb0 z0 (ok := fun k => W.heap.size ≤ k) (okp := fun _ => False) (hzero _ _) (fun _ hk => hk.elim) (Nat.le_refl _) h0 hl (Below.refl _ _) (Nat.le_refl _) ?_
  intro v1 w1 hr hb _ _
  exact h v1 w1 (hM.fresh hb hr)
end
theorem C_none {α : Type} {w : World} (d : Kd α) : Kd.C d w none ([] : List α).length [] := ⟨rfl, Nat.zero_le _, fun h => absurd h (Nat.lt_irrefl 0)⟩
def qc (i n vw nr hw : Int) (vl : Value) (cm : Int) (va vv vo vb : Value) (bv bd : Int) : Array Value := #[.int .i64 i, .int .i64 n, .int .i64 vw, .int .i64 nr, .int .i64 hw, vl, .int .i64 cm, va, vv, vo, vb, .int .i64 bv, .int .i64 bd]
end Go.Proofs.YtggbjokhniigkaaGreat.Sa
