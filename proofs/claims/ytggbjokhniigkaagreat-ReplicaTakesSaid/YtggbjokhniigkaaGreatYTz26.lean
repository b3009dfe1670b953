/- Texts laid together: Tt4, Tu4, Ub4, Cx, Jn. No condition. -/
import Derived.Deep.RegionHeld3
import Derived.Test.YtggbjokhniigkaaGreatYTz23
set_option linter.unusedVariables false
set_option linter.unusedSimpArgs false
set_option maxRecDepth 100000
set_option maxHeartbeats 8000000
namespace Go.Proofs.YtggbjokhniigkaaGreat.Tt4
open Ty Go.RowKit YtggbjokhniigkaaGreatW.PrintWords YtggbjokhniigkaaGreatW.PrintLast YtggbjokhniigkaaGreatW.PrintMore Mx Kx Wa Wb Ta Tb
theorem takes_4 (w0 w : World) (F : List Res) (g : Nat) (r s : Rep) (m : Msg) (v5 v7 v8 v9 v10 vout : Value) (out : List Msg) (A : Option Addr) (c : Nat) (hk : m.f0 = 4) (hm : mayM r m = true)
    (hM : Mem w0 w (blk g 95 (Wa.wc r.f0 r.f1 r.f2 r.f3 r.f4 v5 r.f6 v7 v8 v9 v10 r.f11 r.f12 vout) :: row kM 27 vout [] :: Kx.sL r v5 v7 v8 v9 v10 F)) (hl : Kd.C kE w0 A m.f7.length m.f7) (hn : m.f7.length ≤ 1000000000)
    (hcall : ∀ (F : List Res) (w : World), Mem w0 w (blk g 95 (Wa.wc r.f0 r.f1 r.f2 r.f3 r.f4 v5 r.f6 v7 v8 v9 v10 r.f11 r.f12 vout) :: row kM 27 vout [] :: Kx.sL r v5 v7 v8 v9 v10 F) → Calls Tryz.prog 105 #[.pointer (some ⟨g, 0, none⟩), .agg #[.int .i64 m.f0, .int .i64 m.f1, .int .i64 m.f2, .int .i64 m.f3, .int .i64 m.f4, .int .i64 m.f5, .int .i64 m.f6, .slice A m.f7.length c]] w fun e w' => e = .returned (.tuple #[]) ∧ ∃ v5' v7' v8' v9' v10' vout' : Value, Mem w0 w' (blk g 95 (Wa.wc s.f0 s.f1 s.f2 s.f3 s.f4 v5' s.f6 v7' v8' v9' v10' s.f11 s.f12 vout') :: row kM 27 vout' out :: Kx.sL s v5' v7' v8' v9' v10' F)) :
    Calls Tryz.prog 65 #[.pointer (some ⟨g, 0, none⟩), .agg #[.int .i64 m.f0, .int .i64 m.f1, .int .i64 m.f2, .int .i64 m.f3, .int .i64 m.f4, .int .i64 m.f5, .int .i64 m.f6, .slice A m.f7.length c]] w fun e w' => e = .returned (.bool true) ∧ ∃ v5' v7' v8' v9' v10' vout' : Value, Mem w0 w' (blk g 95 (Wa.wc s.f0 s.f1 s.f2 s.f3 s.f4 v5' s.f6 v7' v8' v9' v10' s.f11 s.f12 vout') :: row kM 27 vout' out :: Kx.sL s v5' v7' v8' v9' v10' F) := by
  have hmf : ∀ (fn : Fn) (first cap : Array Value) (w : World), (Instr.makeFunc fn first cap).run Tryz.prog w = .ok (.func fn first cap) w := fun _ _ _ _ => rfl
  have HMF := Aside0.mk hmf
  obtain ⟨B5, d5, rfl, _, _⟩ := hM.row_at 2 rfl
  obtain ⟨B7, d7, rfl, _, _⟩ := hM.row_at 3 rfl
  obtain ⟨B8, d8, rfl, _, _⟩ := hM.row_at 4 rfl
  obtain ⟨B9, d9, rfl, _, _⟩ := hM.row_at 5 rfl
  obtain ⟨B10, d10, rfl, _, _⟩ := hM.row_at 6 rfl
  have HL := Aside0.mk hl
  have HN := Aside0.mk hn
  have CALL := Aside0.mk hcall
  have HMB := Aside0.mk hm
  have HMC : Aside0 (∀ w', Kd.C kE w' A m.f7.length m.f7 → Calls Tryz.prog 110 #[.agg #[.int .i64 r.f0, .int .i64 r.f1, .int .i64 r.f2, .int .i64 r.f3, .int .i64 r.f4, .slice B5 r.f5.length d5, .int .i64 r.f6, .slice B7 r.f7.length d7, .slice B8 r.f8.length d8, .slice B9 r.f9.length d9, .slice B10 r.f10.length d10, .int .i64 r.f11, .int .i64 r.f12], .agg #[.int .i64 4, .int .i64 m.f1, .int .i64 m.f2, .int .i64 m.f3, .int .i64 m.f4, .int .i64 m.f5, .int .i64 m.f6, .slice A m.f7.length c]] w' fun e w'' => e = .returned (.bool true) ∧ Mem w' w'' []) :=
    ⟨fun w' h => by have := mayM_calls r m B5 B7 B8 B9 B10 A d5 d7 d8 d9 d10 c w' h hn; (try unfold Kx.mA at this); rw [hm, hk] at this; exact this⟩
  rw [hk] at hcall CALL ⊢
  have M1 := Aside0.mk (((hM.alloc #[.int .i64 4, .int .i64 m.f1, .int .i64 m.f2, .int .i64 m.f3, .int .i64 m.f4, .int .i64 m.f5, .int .i64 m.f6, .slice A m.f7.length c] 27).allocAt #[.bool false] 4 (w.heap.size + 1) (by simp)).allocAt #[.nilFunc, .func (Fn.func 103) #[.pointer (some ⟨g, 0, none⟩)] #[], .func (Fn.func 104) #[.pointer (some ⟨g, 0, none⟩)] #[], .func (Fn.func 103) #[.pointer (some ⟨g, 0, none⟩)] #[], .func (Fn.func 105) #[.pointer (some ⟨g, 0, none⟩)] #[], .func (Fn.func 106) #[.pointer (some ⟨g, 0, none⟩)] #[], .func (Fn.func 107) #[.pointer (some ⟨g, 0, none⟩)] #[], .func (Fn.func 108) #[.pointer (some ⟨g, 0, none⟩)] #[], .func (Fn.func 109) #[.pointer (some ⟨g, 0, none⟩)] #[]] 122 (w.heap.size + 2) (by simp))
  clear hl hn hM hcall hm hk
  have cM := blk_cell (M1.out.blk_at 2 rfl)
  have cB := blk_cell (M1.out.blk_at 1 rfl)
  have cF := blk_cell (M1.out.blk_at 0 rfl)
  have cG := blk_cell (M1.out.blk_at 3 rfl)
  unfold Wa.wc at cG
  go_enter_defers Tryz.func65, Tryz.ntmps65
  go_wp2_with fail
  go_upto_region 3 with (fail)
  clear cM cB cF cG
  obtain ⟨wc, hwc⟩ : ∃ wc : World, ((w.alloc (Obj.cells #[.int .i64 4, .int .i64 m.f1, .int .i64 m.f2, .int .i64 m.f3, .int .i64 m.f4, .int .i64 m.f5, .int .i64 m.f6, .slice A m.f7.length c] 27)).alloc (Obj.cells #[.bool false] 4)).alloc (Obj.cells #[.nilFunc, .func (Fn.func 103) #[.pointer (some ⟨g, 0, none⟩)] #[], .func (Fn.func 104) #[.pointer (some ⟨g, 0, none⟩)] #[], .func (Fn.func 103) #[.pointer (some ⟨g, 0, none⟩)] #[], .func (Fn.func 105) #[.pointer (some ⟨g, 0, none⟩)] #[], .func (Fn.func 106) #[.pointer (some ⟨g, 0, none⟩)] #[], .func (Fn.func 107) #[.pointer (some ⟨g, 0, none⟩)] #[], .func (Fn.func 108) #[.pointer (some ⟨g, 0, none⟩)] #[], .func (Fn.func 109) #[.pointer (some ⟨g, 0, none⟩)] #[]] 122) = wc := ⟨_, rfl⟩
  rw [hwc] at M1 ⊢
  clear hwc
  have cM := blk_cell (M1.out.blk_at 2 rfl)
  have cG0 := blk_cell (M1.out.blk_at 3 rfl)
  have HG0 := Aside0.mk cG0
  have HM0 := Aside0.mk cM
  have cG := cG0
  unfold Wa.wc at cG
  clear cG0
  have M1D := Aside0.mk M1.out.drew
  have HS0 := Aside0.mk (show (∀ j : Nat, wc.drew.cell? ⟨w.heap.size, j, none⟩ = wc.cell? ⟨w.heap.size, j, none⟩) ∧ (∀ j : Nat, wc.drew.cell? ⟨g, j, none⟩ = wc.cell? ⟨g, j, none⟩) from ⟨fun _ => rfl, fun _ => rfl⟩)
  have H9 := HS0
  go_region_held3 (fun w' => (∀ j : Nat, w'.cell? ⟨w.heap.size, j, none⟩ = wc.cell? ⟨w.heap.size, j, none⟩) ∧ (∀ j : Nat, w'.cell? ⟨g, j, none⟩ = wc.cell? ⟨g, j, none⟩)) (first | with_reducible exact HS0.out | with_reducible exact H9.out | fail) ((go_at_call 110; refine (HMC.out _ (Kd.C_below HL.out M1D.out.below)).mono ?_; rintro e w1 ⟨rfl, hM⟩; have M2 := Aside0.mk (M1D.out.trans hM); clear hM; have H9 := Aside0.mk (show (∀ j : Nat, w1.cell? ⟨w.heap.size, j, none⟩ = wc.cell? ⟨w.heap.size, j, none⟩) ∧ (∀ j : Nat, w1.cell? ⟨g, j, none⟩ = wc.cell? ⟨g, j, none⟩) from ⟨fun j => (blk_cell (M2.out.blk_at 2 rfl) j).trans (HM0.out j).symm, fun j => (blk_cell (M2.out.blk_at 3 rfl) j).trans (HG0.out j).symm⟩)))
  clear H9 HS0 HM0 HG0 M1D
  have HF0 := Aside0.mk (blk_cell (M2.out.blk_at 0 rfl))
  have HM0 := Aside0.mk (blk_cell (M2.out.blk_at 2 rfl))
  have cM := HM0.out
  have cF := HF0.out
  go_wp2_with fail
  go_upto_region 5 with (fail)
  have M2D := Aside0.mk M2.out.drew
  have HS0 := Aside0.mk (show (∀ j : Nat, w1.drew.cell? ⟨w.heap.size, j, none⟩ = w1.cell? ⟨w.heap.size, j, none⟩) ∧ (∀ j : Nat, w1.drew.cell? ⟨w.heap.size + 1 + 1, j, none⟩ = w1.cell? ⟨w.heap.size + 1 + 1, j, none⟩) from ⟨fun _ => rfl, fun _ => rfl⟩)
  have H9 := HS0
  go_region_held3 (fun w' => (∀ j : Nat, w'.cell? ⟨w.heap.size, j, none⟩ = w1.cell? ⟨w.heap.size, j, none⟩) ∧ (∀ j : Nat, w'.cell? ⟨w.heap.size + 1 + 1, j, none⟩ = w1.cell? ⟨w.heap.size + 1 + 1, j, none⟩)) (first | with_reducible exact HS0.out | with_reducible exact H9.out | fail) ((go_at_call 105; refine (CALL.out (_ :: _ :: _ :: F) _ (Mem.sel (ps := [_, _, _, _, _, _, _, _, _, _]) (F := F) [3, 4, 5, 6, 7, 8, 9, 0, 1, 2] 10 M2D.out rfl rfl)).mono ?_; rintro e w2 ⟨rfl, v5', v7', v8', v9', v10', vout', hM⟩; have M3 := Aside0.mk (Mem.sel (ps := [_, _, _, _, _, _, _, _, _, _]) (F := F) [7, 8, 9, 0, 1, 2, 3, 4, 5, 6] 10 hM rfl rfl); clear hM; have H9 := Aside0.mk (show (∀ j : Nat, w2.cell? ⟨w.heap.size, j, none⟩ = w1.cell? ⟨w.heap.size, j, none⟩) ∧ (∀ j : Nat, w2.cell? ⟨w.heap.size + 1 + 1, j, none⟩ = w1.cell? ⟨w.heap.size + 1 + 1, j, none⟩) from ⟨fun j => (blk_cell (M3.out.blk_at 2 rfl) j).trans (HM0.out j).symm, fun j => (blk_cell (M3.out.blk_at 0 rfl) j).trans (HF0.out j).symm⟩)))
  clear H9 HS0 HM0 HF0 M2D
  have cB := blk_cell (M3.out.blk_at 1 rfl)
  have fB := blk_frozen (M3.out.blk_at 1 rfl)
  have hB := blk_lt (M3.out.blk_at 1 rfl)
  clear cM cF cG M1 M2
  go_wp2_with fail
  refine leaves_cons (f := 102) (args := #[.pointer (some ⟨w.heap.size + 1, 0, none⟩)]) (by simp) (by simp [go_sem]) ?_
  refine (catch_idle ⟨w.heap.size + 1, 0, none⟩ _).mono ?_
  rintro e u' w4 ⟨rfl, rfl, hM⟩
  have M4 := (M3.out.set 1 rfl 0 (.bool true)).trans hM
  have cE : w4.cell? ⟨w.heap.size + 1, 0, none⟩ = some (.bool true) := blk_cell (M4.blk_at 1 rfl) 0
  clear hM
  simp [Leaves, settle, results, Tryz.results65, go_sem, cE]
  exact ⟨_, _, _, _, _, _, Mem.sel (ps := [_, _, _, _, _, _, _, _, _, _]) (F := F) [3, 4, 5, 6, 7, 8, 9] 10 M4 rfl rfl⟩
end Go.Proofs.YtggbjokhniigkaaGreat.Tt4
namespace Go.Proofs.YtggbjokhniigkaaGreat.Tu4
open Ve Ty Go.RowKit YtggbjokhniigkaaGreatW.PrintWords YtggbjokhniigkaaGreatW.PrintLast YtggbjokhniigkaaGreatW.PrintMore Mx Kx Wa Wb Wc Wd Vc Rb Rd Sa Wj Tk Tn To Tr
theorem Take11_k4 (r : Rep) (m : Msg) (A5 A7 A8 A9 A10 A : Option Addr) (c5 c7 c8 c9 c10 c : Nat) (w : World) (h : RdRep w r A5 A7 A8 A9 A10) (hc : Fit r c5 c7 c8 c9 c10) (hs : r.f5.length ≤ 1200 ∧ r.f7.length ≤ 20 ∧ r.f8.length ≤ 20 ∧ r.f9.length ≤ 20 ∧ r.f10.length ≤ 1200) (hl : Kd.C kE w A m.f7.length m.f7) (hlc : m.f7.length ≤ c) (hln : m.f7.length ≤ 1000000) (hk : m.f0 = 4) (h1 : may r = true) (h2 : mayMsg r m = true) (s : Rep) (msgs : List Msg)
    (hcall : ∀ (F : List Res) (g : Nat) (v5 v7 v8 v9 v10 : Value) (w1 : World), Mem w w1 (blk g 25 (qc r.f0 r.f1 r.f2 r.f3 r.f4 v5 r.f6 v7 v8 v9 v10 r.f11 r.f12) :: Kx.sL r v5 v7 v8 v9 v10 F) → Kd.C kE w A m.f7.length m.f7 → Calls Tryz.prog 67 #[.pointer (some ⟨g, 0, none⟩), .agg #[.int .i64 m.f0, .int .i64 m.f1, .int .i64 m.f2, .int .i64 m.f3, .int .i64 m.f4, .int .i64 m.f5, .int .i64 m.f6, .slice A m.f7.length c]] w1 fun e w' => ∃ vout v5' v7' v8' v9' v10' : Value, e = .returned vout ∧ Mem w w' (blk g 25 (qc s.f0 s.f1 s.f2 s.f3 s.f4 v5' s.f6 v7' v8' v9' v10' s.f11 s.f12) :: row kE 68 v5' s.f5 :: row (Kd.int .i64) 3 v7' s.f7 :: row (Kd.int .i64) 3 v8' s.f8 :: row (Kd.int .i64) 3 v9' s.f9 :: row kE 68 v10' s.f10 :: row kM 27 vout msgs :: F)) :
    Calls Tryz.prog 35 #[.agg (Kx.rA r A5 A7 A8 A9 A10 c5 c7 c8 c9 c10), .agg #[.int .i64 m.f0, .int .i64 m.f1, .int .i64 m.f2, .int .i64 m.f3, .int .i64 m.f4, .int .i64 m.f5, .int .i64 m.f6, .slice A m.f7.length c]] w fun e w' => OutS w w' e s msgs 0 := by
  have E1 := Aside0.mk h1
  have CALL := Aside0.mk hcall
  have MSG : Aside0 (∀ w', Kd.C kE w' A m.f7.length m.f7 → Calls Tryz.prog 66 #[.agg (Kx.rA r A5 A7 A8 A9 A10 c5 c7 c8 c9 c10), .agg #[.int .i64 4, .int .i64 m.f1, .int .i64 m.f2, .int .i64 m.f3, .int .i64 m.f4, .int .i64 m.f5, .int .i64 m.f6, .slice A m.f7.length c]] w' fun e w'' => e = .returned (.bool true) ∧ Mem w' w'' []) :=
    ⟨fun w' h => by have := message11_calls r m A5 A7 A8 A9 A10 A c5 c7 c8 c9 c10 c w' h hlc hln; (try unfold Kx.mA at this); rw [h2, hk] at this; exact this⟩
  clear h1 h2
  rw [hk] at hcall CALL ⊢
  clear hk hcall
  have H := Aside0.mk h
  have HC := Aside0.mk hc
  have HS := Aside0.mk hs
  have HL := Aside0.mk hl
  have HLC := Aside0.mk hlc
  have HLN := Aside0.mk hln
  have M1 := Aside0.mk ((((Mem.nil w).alloc (Kx.rA r A5 A7 A8 A9 A10 c5 c7 c8 c9 c10) 25).allocAt #[.int .i64 4, .int .i64 m.f1, .int .i64 m.f2, .int .i64 m.f3, .int .i64 m.f4, .int .i64 m.f5, .int .i64 m.f6, .slice A m.f7.length c] 27 (w.heap.size + 1) (by simp)).allocAt #[.int .i64 0, .int .i64 0, .int .i64 0, .int .i64 0, .int .i64 0, .slice none 0 0, .int .i64 0, .slice none 0 0, .slice none 0 0, .slice none 0 0, .slice none 0 0, .int .i64 0, .int .i64 0] 25 (w.heap.size + 2) (by simp))
  clear h hc hs hl hlc hln
  go_enter Tryz.func35, Tryz.ntmps35
  go_wp2_with fail
  refine (May11_calls r A5 A7 A8 A9 A10 c5 c7 c8 c9 c10 _ (H.out.below M1.out.below) HC.out HS.out).mono ?_
  rintro e w1 ⟨he, hb⟩
  rw [E1.out] at he
  subst he
  have M2 := Aside0.mk (M1.out.grow hb)
  clear hb M1
  have cR := blk_cell (M2.out.blk_at 2 rfl)
  have cM := blk_cell (M2.out.blk_at 1 rfl)
  have cZ := blk_cell (M2.out.blk_at 0 rfl)
  have fZ := blk_frozen (M2.out.blk_at 0 rfl)
  go_wp2_with fail
  refine (MSG.out _ (Kd.C_below HL.out M2.out.below)).mono ?_
  rintro e w2 ⟨rfl, hM⟩
  have M3 := Aside0.mk (Mem.sel (ps := [_, _, _]) (F := []) [0, 1, 2] 3 (M2.out.trans hM) rfl rfl)
  clear hM M2 cR cM cZ fZ
  have cR := blk_cell (M3.out.blk_at 2 rfl)
  have cM := blk_cell (M3.out.blk_at 1 rfl)
  have cZ := blk_cell (M3.out.blk_at 0 rfl)
  have fZ := blk_frozen (M3.out.blk_at 0 rfl)
  go_wp2_with fail
  refine (Copy11_calls r A5 A7 A8 A9 A10 c5 c7 c8 c9 c10 _ (H.out.below M3.out.below) ⟨Nat.le_trans HS.out.1 (by decide), Nat.le_trans HS.out.2.1 (by decide), Nat.le_trans HS.out.2.2.1 (by decide), Nat.le_trans HS.out.2.2.2.1 (by decide), Nat.le_trans HS.out.2.2.2.2 (by decide)⟩).mono ?_
  rintro e w3 ⟨v5, v7, v8, v9, v10, rfl, hM⟩
  unfold rc
  obtain ⟨B5, d5, rfl, _, _⟩ := hM.row_at 0 rfl
  obtain ⟨B7, d7, rfl, _, _⟩ := hM.row_at 1 rfl
  obtain ⟨B8, d8, rfl, _, _⟩ := hM.row_at 2 rfl
  obtain ⟨B9, d9, rfl, _, _⟩ := hM.row_at 3 rfl
  obtain ⟨B10, d10, rfl, hd10, _⟩ := hM.row_at 4 rfl
  have M4 := Aside0.mk ((Mem.sel (ps := [_, _, _, _, _, _, _, _]) (F := []) [0, 1, 2, 3, 4, 5, 6, 7] 8 (M3.out.trans hM) rfl rfl).allocAt #[.int .i64 r.f0, .int .i64 r.f1, .int .i64 r.f2, .int .i64 r.f3, .int .i64 r.f4, .slice B5 r.f5.length d5, .int .i64 r.f6, .slice B7 r.f7.length d7, .slice B8 r.f8.length d8, .slice B9 r.f9.length d9, .slice B10 r.f10.length d10, .int .i64 r.f11, .int .i64 r.f12] 25 w3.heap.size rfl)
  clear hM M3 cR cM cZ fZ
  have cX := blk_cell (M4.out.blk_at 0 rfl)
  have cM := blk_cell (M4.out.blk_at 7 rfl)
  have cZ := blk_cell (M4.out.blk_at 6 rfl)
  have fZ := blk_frozen (M4.out.blk_at 6 rfl)
  have hbX := blk_lt (M4.out.blk_at 0 rfl)
  have hbZ := blk_lt (M4.out.blk_at 6 rfl)
  go_wp2_with fail
  refine (CALL.out _ w3.heap.size _ _ _ _ _ _ (Mem.sel (ps := [_, _, _, _, _, _, _, _, _]) (F := []) [0, 1, 2, 3, 4, 5, 6, 7, 8] 9 M4.out rfl rfl) HL.out).mono ?_
  rintro e w4 ⟨vo, v5, v7, v8, v9, v10, rfl, hM⟩
  obtain ⟨S5, s5, rfl, _, _⟩ := hM.row_at 1 rfl
  obtain ⟨S7, s7, rfl, _, _⟩ := hM.row_at 2 rfl
  obtain ⟨S8, s8, rfl, _, _⟩ := hM.row_at 3 rfl
  obtain ⟨S9, s9, rfl, _, _⟩ := hM.row_at 4 rfl
  obtain ⟨S10, s10, rfl, _, _⟩ := hM.row_at 5 rfl
  obtain ⟨So, so, rfl, _, _⟩ := hM.row_at 6 rfl
  have M5 := Aside0.mk (Mem.sel (ps := [_, _, _, _, _, _, _, _, _, _]) (F := []) [1, 2, 3, 4, 5, 6, 0, 7, 8, 9] 10 hM rfl rfl)
  clear hM M4 cX cM cZ fZ hbX hbZ
  have cX := blk_cell (M5.out.blk_at 6 rfl)
  have cZ := blk_cell (M5.out.blk_at 7 rfl)
  have fZ := blk_frozen (M5.out.blk_at 7 rfl)
  have hbX := blk_lt (M5.out.blk_at 6 rfl)
  have hbZ := blk_lt (M5.out.blk_at 7 rfl)
  unfold qc at cX
  go_wp2_with fail
  all_goals
    have MF := (M5.out.setRow 7 rfl [.int .i64 s.f0, .int .i64 s.f1, .int .i64 s.f2, .int .i64 s.f3, .int .i64 s.f4, .slice S5 s.f5.length s5, .int .i64 s.f6, .slice S7 s.f7.length s7, .slice S8 s.f8.length s8, .slice S9 s.f9.length s9, .slice S10 s.f10.length s10, .int .i64 s.f11, .int .i64 s.f12] rfl)
    have hgF := MF.blk_at 7 rfl
    refine bodyPost_ret (results_list (rs := [.cell 4 25, .tmp 5, .tmp 6]) rfl (by simp) (.cell (w.heap.size + 2) 25 #[.int .i64 s.f0, .int .i64 s.f1, .int .i64 s.f2, .int .i64 s.f3, .int .i64 s.f4, .slice S5 s.f5.length s5, .int .i64 s.f6, .slice S7 s.f7.length s7, .slice S8 s.f8.length s8, .slice S9 s.f9.length s9, .slice S10 s.f10.length s10, .int .i64 s.f11, .int .i64 s.f12] (0, 0) _ rfl hgF Tryz.underlying25 rfl (by kernel_rfl) (.tmp (.tmp .nil)))) rfl ?_
    exact OutS_of (Mem.sel (ps := [_, _, _, _, _, _, _, _, _, _]) (F := []) [0, 1, 2, 3, 4, 5] 10 MF rfl rfl)
end Go.Proofs.YtggbjokhniigkaaGreat.Tu4
namespace Go.Proofs.YtggbjokhniigkaaGreat.Ub4
open Ty Go.RowKit YtggbjokhniigkaaGreatW.PrintWords YtggbjokhniigkaaGreatW.PrintLast YtggbjokhniigkaaGreatW.PrintMore Mx Kx Wa Wb Wc Wd Vc Sa Wj Tk Tb Tn Tt Tx Tr Tz Ua Tt4 Tu4
theorem both_4 (r : Rep) (m : Msg) (A5 A7 A8 A9 A10 A : Option Addr) (c5 c7 c8 c9 c10 c : Nat) (hk : m.f0 = 4) (hc : Fit r c5 c7 c8 c9 c10) (hs : r.f5.length ≤ 1200 ∧ r.f7.length ≤ 20 ∧ r.f8.length ≤ 20 ∧ r.f9.length ≤ 20 ∧ r.f10.length ≤ 1200) (hln : m.f7.length ≤ 1200) (hlc : m.f7.length ≤ c)
    (hgood : may r = true → mayM r m = true → ∃ (s : Rep) (msgs : List Msg), FewOf s msgs ∧
      (∀ (w0 w : World) (F : List Res) (g : Nat) (v5 v7 v8 v9 v10 : Value), Mem w0 w (blk g 95 (Wa.wc r.f0 r.f1 r.f2 r.f3 r.f4 v5 r.f6 v7 v8 v9 v10 r.f11 r.f12 (.slice none 0 0)) :: row kM 27 (.slice none 0 0) [] :: Kx.sL r v5 v7 v8 v9 v10 F) → Kd.C kE w0 A m.f7.length m.f7 → Calls Tryz.prog 105 #[.pointer (some ⟨g, 0, none⟩), .agg (Kx.mA m A c)] w fun e w' => e = .returned (.tuple #[]) ∧ ∃ v5' v7' v8' v9' v10' vout' : Value, Mem w0 w' (blk g 95 (Wa.wc s.f0 s.f1 s.f2 s.f3 s.f4 v5' s.f6 v7' v8' v9' v10' s.f11 s.f12 vout') :: row kM 27 vout' msgs :: Kx.sL s v5' v7' v8' v9' v10' F)) ∧
      (∀ (w0 w : World) (F : List Res) (g : Nat) (v5 v7 v8 v9 v10 : Value), Mem w0 w (blk g 25 (qc r.f0 r.f1 r.f2 r.f3 r.f4 v5 r.f6 v7 v8 v9 v10 r.f11 r.f12) :: Kx.sL r v5 v7 v8 v9 v10 F) → Kd.C kE w0 A m.f7.length m.f7 → Calls Tryz.prog 67 #[.pointer (some ⟨g, 0, none⟩), .agg (Kx.mA m A c)] w fun e w' => ∃ vout v5' v7' v8' v9' v10' : Value, e = .returned vout ∧ Mem w0 w' (blk g 25 (qc s.f0 s.f1 s.f2 s.f3 s.f4 v5' s.f6 v7' v8' v9' v10' s.f11 s.f12) :: row kE 68 v5' s.f5 :: row (Kd.int .i64) 3 v7' s.f7 :: row (Kd.int .i64) 3 v8' s.f8 :: row (Kd.int .i64) 3 v9' s.f9 :: row kE 68 v10' s.f10 :: row kM 27 vout msgs :: F))) : TakesAs r m A5 A7 A8 A9 A10 A c5 c7 c8 c9 c10 c := by
  refine takesAs_of r m A5 A7 A8 A9 A10 A c5 c7 c8 c9 c10 c (by omega) (by omega) hc hs hln hlc fun h1 h2 => ?_
  obtain ⟨s, msgs, hf, g1, g2⟩ := hgood h1 h2
  have hn : Small r := ⟨Nat.le_trans hs.1 (by decide), Nat.le_trans hs.2.1 (by decide), Nat.le_trans hs.2.2.1 (by decide), Nat.le_trans hs.2.2.2.1 (by decide), Nat.le_trans hs.2.2.2.2 (by decide)⟩
  refine ⟨s, msgs, hf, fun w h hl => ?_, fun w h hl => ?_⟩
  · exact Take_ok r m A5 A7 A8 A9 A10 A c5 c7 c8 c9 c10 c w h hn hl h1 s msgs (fun w0 w F g v5 v7 v8 v9 v10 hM hl => takes_4 w0 w F g r s m v5 v7 v8 v9 v10 (.slice none 0 0) msgs A c hk h2 hM hl (Nat.le_trans hln (by decide)) (fun F w hM => g1 w0 w F g v5 v7 v8 v9 v10 hM hl))
  · exact Take11_k4 r m A5 A7 A8 A9 A10 A c5 c7 c8 c9 c10 c w h hc hs hl hlc (Nat.le_trans hln (by decide)) hk h1 ((mayMsg_in r m (by omega) (by omega)).trans h2) s msgs (fun F g v5 v7 v8 v9 v10 w1 hM hl => g2 w w1 F g v5 v7 v8 v9 v10 hM hl)
end Go.Proofs.YtggbjokhniigkaaGreat.Ub4
namespace Go.Proofs.YtggbjokhniigkaaGreat.Cx
open Ty Tk
structure Fine (r : Rep) : Prop where
  i0 : 0 ≤ r.f0
  i1 : r.f0 < r.f1
  n5 : r.f1 ≤ 5
  w0 : 0 ≤ r.f2
  w1 : r.f2 ≤ 4611686018427387904
  l5 : r.f5.length ≤ 1200
  p9 : r.f9.Pairwise (fun a b => a < b)
  l9 : r.f9.length ≤ 20
  l10 : r.f10.length ≤ 1200
theorem all_len (id n view : Int) (m : Msg) : ∀ (k : Nat) (i : Int), (allFrom id n view m k i).length ≤ k
  | 0, _ => Nat.le_refl _
  | k + 1, i => by
    simp only [allFrom]
    have := all_len id n view m k (i + 1)
    split
    · split
      · omega
      · rw [List.length_cons]
        omega
    · exact Nat.zero_le _
theorem all_f7 (id n view : Int) (m : Msg) : ∀ (k : Nat) (i : Int), ∀ x ∈ allFrom id n view m k i, x.f7 = m.f7
  | 0, _, _, h => by cases h
  | k + 1, i, x, h => by
    simp only [allFrom] at h
    split at h
    · split at h
      · exact all_f7 id n view m k (i + 1) x h
      · rcases List.mem_cons.1 h with rfl | h
        · rfl
        · exact all_f7 id n view m k (i + 1) x h
    · cases h
theorem upTo_no {r : Rep} {v : Int} (h : ¬ r.f2 < v) : upTo r v = (r, []) := if_neg h
theorem upTo_yes {r : Rep} {v : Int} (h : r.f2 < v) : upTo r v = (change r v, toAll (change r v) ⟨4, 0, 0, 0, 0, 0, 0, []⟩) := if_pos h
theorem upTo_fine {r s : Rep} {v : Int} {o : List Msg} (h : Fine r) (hv : 0 ≤ v) (hv2 : v ≤ 4611686018427387904) (e : upTo r v = (s, o)) : Fine s ∧ s.f5 = r.f5 ∧ o.length ≤ 5 ∧ (∀ x ∈ o, x.f7 = []) := by
  by_cases g : r.f2 < v
  · rw [upTo_yes g] at e
    injection e with e1 e2
    subst e1
    subst e2
    refine ⟨⟨h.i0, h.i1, h.n5, hv, hv2, h.l5, List.Pairwise.nil, Nat.zero_le _, Nat.zero_le _⟩, rfl, ?_, fun x hx => all_f7 _ _ _ _ _ _ x hx⟩
    have h1 := all_len (change r v).f0 (change r v).f1 (change r v).f2 ⟨4, 0, 0, 0, 0, 0, 0, []⟩ (change r v).f1.toNat 0
    have h2 : (change r v).f1.toNat ≤ 5 := by
      show r.f1.toNat ≤ 5
      have := h.n5
      omega
    exact Nat.le_trans h1 h2
  · rw [upTo_no g] at e
    injection e with e1 e2
    subst e1
    subst e2
    exact ⟨h, rfl, Nat.zero_le _, fun _ h => by cases h⟩
/-- The votes. -/
theorem upTo_votes {r s : Rep} {v : Int} {o : List Msg} (h : r.f8.Pairwise (fun a b => a < b) ∧ r.f8.length ≤ 20) (e : upTo r v = (s, o)) : s.f8.Pairwise (fun a b => a < b) ∧ s.f8.length ≤ 20 := by
  by_cases g : r.f2 < v
  · rw [upTo_yes g] at e
    injection e with e1 e2
    subst e1
    exact ⟨List.pairwise_singleton _ _, Nat.le_trans (Nat.le_refl 1) (by decide)⟩
  · rw [upTo_no g] at e
    injection e with e1 e2
    subst e1
    exact h
def bests (r : Rep) (was : Int) (lg : List Entry) : List Entry × Int := if better r was lg then (lg, was) else (r.f10, r.f11)
theorem bests_yes {r : Rep} {was : Int} {lg : List Entry} (h : better r was lg) : bests r was lg = (lg, was) := if_pos h
theorem bests_no {r : Rep} {was : Int} {lg : List Entry} (h : ¬ better r was lg) : bests r was lg = (r.f10, r.f11) := if_neg h
section
variable {r : Rep} {frm was commit : Int} {lg : List Entry} {zs : List Int} {bl : List Entry} {bv bd : Int}
theorem counted_is (h1 : insertId r.f9 frm = zs) (h2 : bests r was lg = (bl, bv)) (h3 : min (max r.f12 commit) (bl.length : Int) = bd) : counted r frm was commit lg = { r with f9 := zs, f10 := bl, f11 := bv, f12 := bd } := by
  subst h1
  subst h3
  unfold bests at h2
  unfold counted
  by_cases g : better r was lg
  · rw [if_pos g] at h2
    injection h2 with e1 e2
    subst e1
    subst e2
    simp only [if_pos g]
  · rw [if_neg g] at h2
    injection h2 with e1 e2
    subst e1
    subst e2
    simp only [if_neg g]
theorem states_in (h : frm ∈ r.f9) : states r frm was commit lg = (r, []) := if_pos h
theorem states_few (h : ¬ frm ∈ r.f9) (h1 : insertId r.f9 frm = zs) (h2 : bests r was lg = (bl, bv)) (h3 : min (max r.f12 commit) (bl.length : Int) = bd) (h4 : ¬ (zs.length : Int) = most r.f1) :
    states r frm was commit lg = ({ r with f9 := zs, f10 := bl, f11 := bv, f12 := bd }, []) := by
  unfold states
  rw [if_neg h, counted_is h1 h2 h3]
  exact if_neg h4
theorem states_most (h : ¬ frm ∈ r.f9) (h1 : insertId r.f9 frm = zs) (h2 : bests r was lg = (bl, bv)) (h3 : min (max r.f12 commit) (bl.length : Int) = bd) (h4 : (zs.length : Int) = most r.f1) :
    states r frm was commit lg = (normal r r.f2 bl bd, toAll (normal r r.f2 bl bd) ⟨6, 0, 0, 0, 0, (normal r r.f2 bl bd).f6, 0, bl⟩) := by
  unfold states
  rw [if_neg h, counted_is h1 h2 h3]
  exact if_pos h4
end
section
variable {r s t : Rep} {m : Msg} {o ms : List Msg} {zs : List Int}
theorem tState_low (h : m.f3 < r.f2) : tState r m = (r, []) := if_pos (.inl h)
theorem tState_not (h : ¬ m.f3 % r.f1 = r.f0) : tState r m = (r, []) := if_pos (.inr h)
theorem tState_idle (h1 : ¬ m.f3 < r.f2) (h2 : m.f3 % r.f1 = r.f0) (e : upTo r m.f3 = (s, o)) (h : ¬ s.f4 = 1) : tState r m = (s, o) := by
  unfold tState
  rw [if_neg (fun h3 => h3.elim h1 (fun h => h h2)), e]
  exact if_neg h
theorem tState_on (h1 : ¬ m.f3 < r.f2) (h2 : m.f3 % r.f1 = r.f0) (e : upTo r m.f3 = (s, o)) (h : s.f4 = 1) (e2 : states s m.f1 m.f6 m.f5 m.f7 = (t, ms)) : tState r m = (t, o ++ ms) := by
  unfold tState
  rw [if_neg (fun h3 => h3.elim h1 (fun h => h h2)), e]
  refine (if_pos h).trans ?_
  rw [e2]
theorem tChange_low (h : m.f3 < r.f2) : tChange r m = (r, []) := if_pos h
theorem tChange_idle (h1 : ¬ m.f3 < r.f2) (e : upTo r m.f3 = (s, o)) (h : ¬ s.f4 = 1) : tChange r m = (s, o) := by
  unfold tChange
  rw [if_neg h1, e]
  exact if_neg h
theorem tChange_in (h1 : ¬ m.f3 < r.f2) (e : upTo r m.f3 = (s, o)) (h : s.f4 = 1) (h2 : m.f1 ∈ s.f8) : tChange r m = (s, o) := by
  unfold tChange
  rw [if_neg h1, e]
  exact (if_pos h).trans (if_pos h2)
theorem tChange_few (h1 : ¬ m.f3 < r.f2) (e : upTo r m.f3 = (s, o)) (h : s.f4 = 1) (h2 : ¬ m.f1 ∈ s.f8) (hz : insertId s.f8 m.f1 = zs) (h4 : ¬ (zs.length : Int) = most s.f1) : tChange r m = ({ s with f8 := zs }, o) := by
  unfold tChange
  rw [if_neg h1, e]
  subst hz
  exact (if_pos h).trans ((if_neg h2).trans (if_neg h4))
theorem tChange_self (h1 : ¬ m.f3 < r.f2) (e : upTo r m.f3 = (s, o)) (h : s.f4 = 1) (h2 : ¬ m.f1 ∈ s.f8) (hz : insertId s.f8 m.f1 = zs) (h4 : (zs.length : Int) = most s.f1) (h5 : s.f2 % s.f1 = s.f0) (e2 : states { s with f8 := zs } s.f0 s.f3 s.f6 s.f5 = (t, ms)) : tChange r m = (t, o ++ ms) := by
  unfold tChange
  rw [if_neg h1, e]
  subst hz
  refine (if_pos h).trans ((if_neg h2).trans ((if_pos h4).trans ((if_pos h5).trans ?_)))
  show ((states { s with f8 := insertId s.f8 m.f1 } s.f0 s.f3 s.f6 s.f5).1, o ++ (states { s with f8 := insertId s.f8 m.f1 } s.f0 s.f3 s.f6 s.f5).2) = _
  rw [e2]
theorem tChange_other (h1 : ¬ m.f3 < r.f2) (e : upTo r m.f3 = (s, o)) (h : s.f4 = 1) (h2 : ¬ m.f1 ∈ s.f8) (hz : insertId s.f8 m.f1 = zs) (h4 : (zs.length : Int) = most s.f1) (h5 : ¬ s.f2 % s.f1 = s.f0) :
    tChange r m = ({ s with f8 := zs }, o ++ [⟨5, s.f0, s.f2 % s.f1, s.f2, 0, s.f6, s.f3, s.f5⟩]) := by
  unfold tChange
  rw [if_neg h1, e]
  subst hz
  exact (if_pos h).trans ((if_neg h2).trans ((if_pos h4).trans (if_neg h5)))
/-- A state of its own. -/
theorem tState_own (h : s.f4 = 1) (h5 : s.f2 % s.f1 = s.f0) (e2 : states s m.f1 m.f6 m.f5 m.f7 = (t, ms)) (h3 : m.f3 = s.f2) : tState s m = (t, ms) := by
  have e : upTo s m.f3 = (s, []) := upTo_no (by omega)
  rw [tState_on (by omega) (by rw [h3]; exact h5) e h e2]
  rfl
end
/-! ### sizes -/
structure Lim (s : Rep) (ms : List Msg) : Prop where
  l5 : s.f5.length ≤ 1200
  l7 : s.f7.length ≤ 20
  l8 : s.f8.length ≤ 30
  l9 : s.f9.length ≤ 30
  l10 : s.f10.length ≤ 1200
  lm : ms.length ≤ 20
  lx : ∀ x ∈ ms, x.f7.length ≤ 1200
theorem upTo_lim {r s : Rep} {v : Int} {o : List Msg} (h : Fine r) (h7 : r.f7.length ≤ 20) (h8 : r.f8.length ≤ 20) (hv : 0 ≤ v) (hv2 : v ≤ 4611686018427387904) (e : upTo r v = (s, o)) : Lim s o ∧ o.length ≤ 5 ∧ s.f8.length ≤ 20 := by
  have q := upTo_fine h hv hv2 e
  have q7 : s.f7 = r.f7 ∧ s.f8.length ≤ 20 := by
    by_cases g : r.f2 < v
    · rw [upTo_yes g] at e
      injection e with e1 e2
      subst e1
      exact ⟨rfl, Nat.le_trans (Nat.le_refl 1) (by decide)⟩
    · rw [upTo_no g] at e
      injection e with e1 e2
      subst e1
      exact ⟨rfl, h8⟩
  refine ⟨⟨q.1.l5, by rw [q7.1]; exact h7, Nat.le_trans q7.2 (by decide), Nat.le_trans q.1.l9 (by decide), q.1.l10, Nat.le_trans q.2.2.1 (by decide), fun x hx => ?_⟩, q.2.2.1, q7.2⟩
  rw [q.2.2.2 x hx]
  exact Nat.zero_le _
theorem normal_lim {r : Rep} (v : Int) (l : List Entry) (c : Int) (hn : r.f1 ≤ 5) (hl : l.length ≤ 1200) : (normal r v l c).f5.length ≤ 1200 ∧ (normal r v l c).f7.length ≤ 20 ∧ (normal r v l c).f8.length ≤ 30 ∧ (normal r v l c).f9.length ≤ 30 ∧ (normal r v l c).f10.length ≤ 1200 := by
  refine ⟨hl, ?_, Nat.zero_le _, Nat.zero_le _, Nat.zero_le _⟩
  show ((List.replicate r.f1.toNat (0 : Int)).set _ _).length ≤ _
  rw [List.length_set, List.length_replicate]
  omega
theorem states_lim {r s : Rep} {ms : List Msg} {frm was commit : Int} {lg : List Entry} (h : Fine r) (h7 : r.f7.length ≤ 20) (h8 : r.f8.length ≤ 30) (hl : lg.length ≤ 1200) (e : states r frm was commit lg = (s, ms)) : Lim s ms ∧ ms.length ≤ 5 := by
  by_cases g : frm ∈ r.f9
  · rw [states_in g] at e
    injection e with e1 e2
    subst e1
    subst e2
    exact ⟨⟨h.l5, h7, h8, Nat.le_trans h.l9 (by decide), h.l10, Nat.zero_le _, fun x hx => by cases hx⟩, Nat.zero_le _⟩
  · obtain ⟨⟨bl, bv⟩, hb⟩ : ∃ b, bests r was lg = b := ⟨_, rfl⟩
    have hbl : bl.length ≤ 1200 := by
      by_cases g2 : better r was lg
      · rw [bests_yes g2] at hb
        injection hb with e1 e2
        rw [← e1]
        exact hl
      · rw [bests_no g2] at hb
        injection hb with e1 e2
        rw [← e1]
        exact h.l10
    by_cases g3 : ((insertId r.f9 frm).length : Int) = most r.f1
    · rw [states_most g rfl hb rfl g3] at e
      injection e with e1 e2
      subst e1
      subst e2
      have q := normal_lim (r := r) r.f2 bl (min (max r.f12 commit) (bl.length : Int)) h.n5 hbl
      have q2 : (toAll (normal r r.f2 bl (min (max r.f12 commit) (bl.length : Int))) ⟨6, 0, 0, 0, 0, (normal r r.f2 bl (min (max r.f12 commit) (bl.length : Int))).f6, 0, bl⟩).length ≤ 5 := by
        refine Nat.le_trans (all_len _ _ _ _ _ _) ?_
        show r.f1.toNat ≤ 5
        have := h.n5
        omega
      refine ⟨⟨q.1, q.2.1, q.2.2.1, q.2.2.2.1, q.2.2.2.2, Nat.le_trans q2 (by decide), fun x hx => ?_⟩, q2⟩
      rw [all_f7 _ _ _ _ _ _ x hx]
      exact hbl
    · rw [states_few g rfl hb rfl g3] at e
      injection e with e1 e2
      subst e1
      subst e2
      refine ⟨⟨h.l5, h7, h8, ?_, hbl, Nat.zero_le _, fun x hx => by cases hx⟩, Nat.zero_le _⟩
      show (insertId r.f9 frm).length ≤ 30
      rw [Tq.insertId_len]
      have := h.l9
      omega
theorem Lim.join {s t : Rep} {o ms : List Msg} (h1 : Lim s o) (h2 : Lim t ms) (l1 : o.length ≤ 5) (l2 : ms.length ≤ 5) : Lim t (o ++ ms) := by
  refine ⟨h2.l5, h2.l7, h2.l8, h2.l9, h2.l10, by rw [List.length_append]; omega, fun x hx => ?_⟩
  exact (List.mem_append.1 hx).elim (h1.lx x) (h2.lx x)
theorem tState_lim {r : Rep} {m : Msg} (h : Fine r) (h7 : r.f7.length ≤ 20) (h8 : r.f8.length ≤ 20) (hv : 0 ≤ m.f3) (hv2 : m.f3 ≤ 4611686018427387904) (hl : m.f7.length ≤ 1200) : Lim (tState r m).1 (tState r m).2 := by
  have same : Lim r [] := ⟨h.l5, h7, Nat.le_trans h8 (by decide), Nat.le_trans h.l9 (by decide), h.l10, Nat.zero_le _, fun x hx => by cases hx⟩
  by_cases g1 : m.f3 < r.f2
  · rw [tState_low g1]
    exact same
  by_cases g2 : m.f3 % r.f1 = r.f0
  case neg =>
    rw [tState_not g2]
    exact same
  obtain ⟨⟨s, o⟩, e⟩ : ∃ b, upTo r m.f3 = b := ⟨_, rfl⟩
  have q := upTo_lim h h7 h8 hv hv2 e
  have qf := (upTo_fine h hv hv2 e).1
  by_cases g3 : s.f4 = 1
  case neg =>
    rw [tState_idle g1 g2 e g3]
    exact q.1
  obtain ⟨⟨t, ms⟩, e2⟩ : ∃ b, states s m.f1 m.f6 m.f5 m.f7 = b := ⟨_, rfl⟩
  have q2 := states_lim qf q.1.l7 q.1.l8 hl e2
  rw [tState_on g1 g2 e g3 e2]
  exact q.1.join q2.1 q.2.1 q2.2
theorem tChange_lim {r : Rep} {m : Msg} (h : Fine r) (h7 : r.f7.length ≤ 20) (h8 : r.f8.length ≤ 20) (hv : 0 ≤ m.f3) (hv2 : m.f3 ≤ 4611686018427387904) : Lim (tChange r m).1 (tChange r m).2 := by
  have same : Lim r [] := ⟨h.l5, h7, Nat.le_trans h8 (by decide), Nat.le_trans h.l9 (by decide), h.l10, Nat.zero_le _, fun x hx => by cases hx⟩
  by_cases g1 : m.f3 < r.f2
  · rw [tChange_low g1]
    exact same
  obtain ⟨⟨s, o⟩, e⟩ : ∃ b, upTo r m.f3 = b := ⟨_, rfl⟩
  have q := upTo_lim h h7 h8 hv hv2 e
  have qf := (upTo_fine h hv hv2 e).1
  by_cases g3 : s.f4 = 1
  case neg =>
    rw [tChange_idle g1 e g3]
    exact q.1
  by_cases g4 : m.f1 ∈ s.f8
  · rw [tChange_in g1 e g3 g4]
    exact q.1
  obtain ⟨zs, hz⟩ : ∃ zs, insertId s.f8 m.f1 = zs := ⟨_, rfl⟩
  have hzl : zs.length ≤ 30 := by
    rw [← hz, Tq.insertId_len]
    have := q.2.2
    omega
  by_cases g5 : (zs.length : Int) = most s.f1
  case neg =>
    rw [tChange_few g1 e g3 g4 hz g5]
    exact ⟨q.1.l5, q.1.l7, hzl, q.1.l9, q.1.l10, q.1.lm, q.1.lx⟩
  by_cases g6 : s.f2 % s.f1 = s.f0
  · obtain ⟨⟨t, ms⟩, e2⟩ : ∃ b, states { s with f8 := zs } s.f0 s.f3 s.f6 s.f5 = b := ⟨_, rfl⟩
    have q2 := states_lim (r := { s with f8 := zs }) ⟨qf.i0, qf.i1, qf.n5, qf.w0, qf.w1, qf.l5, qf.p9, qf.l9, qf.l10⟩ q.1.l7 hzl qf.l5 e2
    rw [tChange_self g1 e g3 g4 hz g5 g6 e2]
    exact q.1.join q2.1 q.2.1 q2.2
  · rw [tChange_other g1 e g3 g4 hz g5 g6]
    refine ⟨q.1.l5, q.1.l7, hzl, q.1.l9, q.1.l10, ?_, fun x hx => ?_⟩
    · rw [List.length_append, List.length_singleton]
      have := q.2.1
      omega
    · rcases List.mem_append.1 hx with hx | hx
      · exact q.1.lx x hx
      · rw [List.mem_singleton.1 hx]
        exact qf.l5
end Go.Proofs.YtggbjokhniigkaaGreat.Cx
namespace Go.Proofs.YtggbjokhniigkaaGreat.Jn
open Ty Go.RowKit YtggbjokhniigkaaGreatW.PrintWords YtggbjokhniigkaaGreatW.PrintLast YtggbjokhniigkaaGreatW.PrintMore Mx Kx Tk Ij
theorem insertId_is (l : List Int) (k : Int) : l.take (place l k) ++ [k] ++ l.drop (place l k) = insertId l k := by
  unfold insertId
  rw [List.append_assoc]
  rfl
theorem joined_in (w0 w : World) (F : List Res) (v : Value) (l : List Int) (k : Int) (hM : Mem w0 w (row (Kd.int .i64) 3 v l :: F)) (hn : l.length ≤ 1000000) (hs : l.Pairwise (fun a b => a < b)) (hk : k ∈ l) :
    Calls Tryz.prog 132 #[v, .int .i64 k] w fun e w' => e = .returned (.tuple #[v, .bool false]) ∧ Mem w0 w' (row (Kd.int .i64) 3 v l :: F) :=
  Jo.joined_there w0 w F v l k hM hn (place l k) (place_le l k) (place_lt l k) (place_ge l k hs) (place_there l k hs hk).1 (place_there l k hs hk).2
theorem joined_not (w0 w : World) (F : List Res) (v : Value) (l : List Int) (k : Int) (hM : Mem w0 w (row (Kd.int .i64) 3 v l :: F)) (hn : l.length ≤ 1000000) (hs : l.Pairwise (fun a b => a < b)) (hk : ¬ k ∈ l) (zs : List Int) (hz : insertId l k = zs) :
    Calls Tryz.prog 132 #[v, .int .i64 k] w fun e w' => ∃ v' : Value, e = .returned (.tuple #[v', .bool true]) ∧ Mem w0 w' (row (Kd.int .i64) 3 v' zs :: row (Kd.int .i64) 3 v l :: F) := by
  subst hz
  cases l with
  | nil => exact Jo.joined_first w0 w F v k hM
  | cons x l => exact Jo.joined_new w0 w F v (x :: l) k hM hn (Nat.succ_pos _) (place (x :: l) k) (place_le _ k) (place_lt _ k) (place_ge _ k hs) (place_not _ k hk) _ (insertId_is _ k)
theorem add_in (w0 w : World) (F : List Res) (v : Value) (l : List Int) (k : Int) (hM : Mem w0 w (row (Kd.int .i64) 3 v l :: F)) (hn : l.length ≤ 1000000) (hs : l.Pairwise (fun a b => a < b)) (hk : k ∈ l) :
    Calls Tryz.prog 112 #[v, .int .i64 k] w fun e w' => e = .returned (.tuple #[v, .bool false]) ∧ Mem w0 w' (row (Kd.int .i64) 3 v l :: F) :=
  Ad.add_there w0 w F v l k hM hn (place l k) (place_lt l k) (place_there l k hs hk).1 (place_there l k hs hk).2
theorem add_not (w0 w : World) (F : List Res) (v : Value) (l : List Int) (k : Int) (hM : Mem w0 w (row (Kd.int .i64) 3 v l :: F)) (hn : l.length ≤ 1000000) (hs : l.Pairwise (fun a b => a < b)) (hk : ¬ k ∈ l) (zs : List Int) (hz : insertId l k = zs) :
    Calls Tryz.prog 112 #[v, .int .i64 k] w fun e w' => ∃ v' : Value, e = .returned (.tuple #[v', .bool true]) ∧ Mem w0 w' (row (Kd.int .i64) 3 v' zs :: row (Kd.int .i64) 3 v l :: F) :=
  Ad.add_new w0 w F v l k hM hn (place l k) (place_le l k) (place_lt l k) (place_new l k hs hk) zs ((insertId_is l k).trans hz)
end Go.Proofs.YtggbjokhniigkaaGreat.Jn
