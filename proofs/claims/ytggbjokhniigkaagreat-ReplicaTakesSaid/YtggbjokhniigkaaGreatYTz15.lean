/- Texts laid together: Tt1, Tu1, Ub1, Un, Tl, Tc. No condition. -/
import Derived.Deep.RegionHeld3
import Derived.Test.YtggbjokhniigkaaGreatYTz14
set_option linter.unusedVariables false
set_option linter.unusedSimpArgs false
set_option maxRecDepth 100000
set_option maxHeartbeats 8000000
namespace Go.Proofs.YtggbjokhniigkaaGreat.Tt1
open Ty Go.RowKit YtggbjokhniigkaaGreatW.PrintWords YtggbjokhniigkaaGreatW.PrintLast YtggbjokhniigkaaGreatW.PrintMore Mx Kx Wa Wb Ta Tb
theorem takes_1 (w0 w : World) (F : List Res) (g : Nat) (r s : Rep) (m : Msg) (v5 v7 v8 v9 v10 vout : Value) (out : List Msg) (A : Option Addr) (c : Nat) (hk : m.f0 = 1) (hm : mayM r m = true)
    (hM : Mem w0 w (blk g 95 (Wa.wc r.f0 r.f1 r.f2 r.f3 r.f4 v5 r.f6 v7 v8 v9 v10 r.f11 r.f12 vout) :: row kM 27 vout [] :: Kx.sL r v5 v7 v8 v9 v10 F)) (hl : Kd.C kE w0 A m.f7.length m.f7) (hn : m.f7.length ≤ 1000000000)
    (hcall : ∀ (F : List Res) (w : World), Mem w0 w (blk g 95 (Wa.wc r.f0 r.f1 r.f2 r.f3 r.f4 v5 r.f6 v7 v8 v9 v10 r.f11 r.f12 vout) :: row kM 27 vout [] :: Kx.sL r v5 v7 v8 v9 v10 F) → Calls Tryz.prog 103 #[.pointer (some ⟨g, 0, none⟩), .agg #[.int .i64 m.f0, .int .i64 m.f1, .int .i64 m.f2, .int .i64 m.f3, .int .i64 m.f4, .int .i64 m.f5, .int .i64 m.f6, .slice A m.f7.length c]] w fun e w' => e = .returned (.tuple #[]) ∧ ∃ v5' v7' v8' v9' v10' vout' : Value, Mem w0 w' (blk g 95 (Wa.wc s.f0 s.f1 s.f2 s.f3 s.f4 v5' s.f6 v7' v8' v9' v10' s.f11 s.f12 vout') :: row kM 27 vout' out :: Kx.sL s v5' v7' v8' v9' v10' F)) :
    Calls Tryz.prog 65 #[.pointer (some ⟨g, 0, none⟩), .agg #[.int .i64 m.f0, .int .i64 m.f1, .int .i64 m.f2, .int .i64 m.f3, .int .i64 m.f4, .int .i64 m.f5, .int .i64 m.f6, .slice A m.f7.length c]] w fun e w' => e = .returned (.bool true) ∧ ∃ v5' v7' v8' v9' v10' vout' : Value, Mem w0 w' (blk g 95 (Wa.wc s.f0 s.f1 s.f2 s.f3 s.f4 v5' s.f6 v7' v8' v9' v10' s.f11 s.f12 vout') :: row kM 27 vout' out :: Kx.sL s v5' v7' v8' v9' v10' F) := by
  have hmf : ∀ (fn : Fn) (first cap : Array Value) (w : World), (Instr.makeFunc fn first cap).run Tryz.prog w = .ok (.func fn first cap) w := fun _ _ _ _ => rfl
  have HMF := Aside0.mk hmf
  obtain ⟨B5, d5, rfl, _, _⟩ := hM.row_at 2 rfl
  obtain ⟨B7, d7, rfl, _, _⟩ := hM.row_at 3 rfl
  obtain ⟨B8, d8, rfl, _, _⟩ := hM.row_at 4 rfl
  obtain ⟨B9, d9, rfl, _, _⟩ := hM.row_at 5 rfl
  obtain ⟨B10, d10, rfl, _, _⟩ := hM.row_at 6 rfl
  have HL := Aside0.mk hl
  have HN := Aside0.mk hn
  have CALL := Aside0.mk hcall
  have HMB := Aside0.mk hm
  have HMC : Aside0 (∀ w', Kd.C kE w' A m.f7.length m.f7 → Calls Tryz.prog 110 #[.agg #[.int .i64 r.f0, .int .i64 r.f1, .int .i64 r.f2, .int .i64 r.f3, .int .i64 r.f4, .slice B5 r.f5.length d5, .int .i64 r.f6, .slice B7 r.f7.length d7, .slice B8 r.f8.length d8, .slice B9 r.f9.length d9, .slice B10 r.f10.length d10, .int .i64 r.f11, .int .i64 r.f12], .agg #[.int .i64 1, .int .i64 m.f1, .int .i64 m.f2, .int .i64 m.f3, .int .i64 m.f4, .int .i64 m.f5, .int .i64 m.f6, .slice A m.f7.length c]] w' fun e w'' => e = .returned (.bool true) ∧ Mem w' w'' []) :=
    ⟨fun w' h => by have := mayM_calls r m B5 B7 B8 B9 B10 A d5 d7 d8 d9 d10 c w' h hn; (try unfold Kx.mA at this); rw [hm, hk] at this; exact this⟩
  rw [hk] at hcall CALL ⊢
  have M1 := Aside0.mk (((hM.alloc #[.int .i64 1, .int .i64 m.f1, .int .i64 m.f2, .int .i64 m.f3, .int .i64 m.f4, .int .i64 m.f5, .int .i64 m.f6, .slice A m.f7.length c] 27).allocAt #[.bool false] 4 (w.heap.size + 1) (by simp)).allocAt #[.nilFunc, .func (Fn.func 103) #[.pointer (some ⟨g, 0, none⟩)] #[], .func (Fn.func 104) #[.pointer (some ⟨g, 0, none⟩)] #[], .func (Fn.func 103) #[.pointer (some ⟨g, 0, none⟩)] #[], .func (Fn.func 105) #[.pointer (some ⟨g, 0, none⟩)] #[], .func (Fn.func 106) #[.pointer (some ⟨g, 0, none⟩)] #[], .func (Fn.func 107) #[.pointer (some ⟨g, 0, none⟩)] #[], .func (Fn.func 108) #[.pointer (some ⟨g, 0, none⟩)] #[], .func (Fn.func 109) #[.pointer (some ⟨g, 0, none⟩)] #[]] 122 (w.heap.size + 2) (by simp))
  clear hl hn hM hcall hm hk
  have cM := blk_cell (M1.out.blk_at 2 rfl)
  have cB := blk_cell (M1.out.blk_at 1 rfl)
  have cF := blk_cell (M1.out.blk_at 0 rfl)
  have cG := blk_cell (M1.out.blk_at 3 rfl)
  unfold Wa.wc at cG
  go_enter_defers Tryz.func65, Tryz.ntmps65
  go_wp2_with fail
  go_upto_region 3 with (fail)
  clear cM cB cF cG
  obtain ⟨wc, hwc⟩ : ∃ wc : World, ((w.alloc (Obj.cells #[.int .i64 1, .int .i64 m.f1, .int .i64 m.f2, .int .i64 m.f3, .int .i64 m.f4, .int .i64 m.f5, .int .i64 m.f6, .slice A m.f7.length c] 27)).alloc (Obj.cells #[.bool false] 4)).alloc (Obj.cells #[.nilFunc, .func (Fn.func 103) #[.pointer (some ⟨g, 0, none⟩)] #[], .func (Fn.func 104) #[.pointer (some ⟨g, 0, none⟩)] #[], .func (Fn.func 103) #[.pointer (some ⟨g, 0, none⟩)] #[], .func (Fn.func 105) #[.pointer (some ⟨g, 0, none⟩)] #[], .func (Fn.func 106) #[.pointer (some ⟨g, 0, none⟩)] #[], .func (Fn.func 107) #[.pointer (some ⟨g, 0, none⟩)] #[], .func (Fn.func 108) #[.pointer (some ⟨g, 0, none⟩)] #[], .func (Fn.func 109) #[.pointer (some ⟨g, 0, none⟩)] #[]] 122) = wc := ⟨_, rfl⟩
  rw [hwc] at M1 ⊢
  clear hwc
  have cM := blk_cell (M1.out.blk_at 2 rfl)
  have cG0 := blk_cell (M1.out.blk_at 3 rfl)
  have HG0 := Aside0.mk cG0
  have HM0 := Aside0.mk cM
  have cG := cG0
  unfold Wa.wc at cG
  clear cG0
  have M1D := Aside0.mk M1.out.drew
  have HS0 := Aside0.mk (show (∀ j : Nat, wc.drew.cell? ⟨w.heap.size, j, none⟩ = wc.cell? ⟨w.heap.size, j, none⟩) ∧ (∀ j : Nat, wc.drew.cell? ⟨g, j, none⟩ = wc.cell? ⟨g, j, none⟩) from ⟨fun _ => rfl, fun _ => rfl⟩)
  have H9 := HS0
  go_region_held3 (fun w' => (∀ j : Nat, w'.cell? ⟨w.heap.size, j, none⟩ = wc.cell? ⟨w.heap.size, j, none⟩) ∧ (∀ j : Nat, w'.cell? ⟨g, j, none⟩ = wc.cell? ⟨g, j, none⟩)) (first | with_reducible exact HS0.out | with_reducible exact H9.out | fail) ((go_at_call 110; refine (HMC.out _ (Kd.C_below HL.out M1D.out.below)).mono ?_; rintro e w1 ⟨rfl, hM⟩; have M2 := Aside0.mk (M1D.out.trans hM); clear hM; have H9 := Aside0.mk (show (∀ j : Nat, w1.cell? ⟨w.heap.size, j, none⟩ = wc.cell? ⟨w.heap.size, j, none⟩) ∧ (∀ j : Nat, w1.cell? ⟨g, j, none⟩ = wc.cell? ⟨g, j, none⟩) from ⟨fun j => (blk_cell (M2.out.blk_at 2 rfl) j).trans (HM0.out j).symm, fun j => (blk_cell (M2.out.blk_at 3 rfl) j).trans (HG0.out j).symm⟩)))
  clear H9 HS0 HM0 HG0 M1D
  have HF0 := Aside0.mk (blk_cell (M2.out.blk_at 0 rfl))
  have HM0 := Aside0.mk (blk_cell (M2.out.blk_at 2 rfl))
  have cM := HM0.out
  have cF := HF0.out
  go_wp2_with fail
  go_upto_region 5 with (fail)
  have M2D := Aside0.mk M2.out.drew
  have HS0 := Aside0.mk (show (∀ j : Nat, w1.drew.cell? ⟨w.heap.size, j, none⟩ = w1.cell? ⟨w.heap.size, j, none⟩) ∧ (∀ j : Nat, w1.drew.cell? ⟨w.heap.size + 1 + 1, j, none⟩ = w1.cell? ⟨w.heap.size + 1 + 1, j, none⟩) from ⟨fun _ => rfl, fun _ => rfl⟩)
  have H9 := HS0
  go_region_held3 (fun w' => (∀ j : Nat, w'.cell? ⟨w.heap.size, j, none⟩ = w1.cell? ⟨w.heap.size, j, none⟩) ∧ (∀ j : Nat, w'.cell? ⟨w.heap.size + 1 + 1, j, none⟩ = w1.cell? ⟨w.heap.size + 1 + 1, j, none⟩)) (first | with_reducible exact HS0.out | with_reducible exact H9.out | fail) ((go_at_call 103; refine (CALL.out (_ :: _ :: _ :: F) _ (Mem.sel (ps := [_, _, _, _, _, _, _, _, _, _]) (F := F) [3, 4, 5, 6, 7, 8, 9, 0, 1, 2] 10 M2D.out rfl rfl)).mono ?_; rintro e w2 ⟨rfl, v5', v7', v8', v9', v10', vout', hM⟩; have M3 := Aside0.mk (Mem.sel (ps := [_, _, _, _, _, _, _, _, _, _]) (F := F) [7, 8, 9, 0, 1, 2, 3, 4, 5, 6] 10 hM rfl rfl); clear hM; have H9 := Aside0.mk (show (∀ j : Nat, w2.cell? ⟨w.heap.size, j, none⟩ = w1.cell? ⟨w.heap.size, j, none⟩) ∧ (∀ j : Nat, w2.cell? ⟨w.heap.size + 1 + 1, j, none⟩ = w1.cell? ⟨w.heap.size + 1 + 1, j, none⟩) from ⟨fun j => (blk_cell (M3.out.blk_at 2 rfl) j).trans (HM0.out j).symm, fun j => (blk_cell (M3.out.blk_at 0 rfl) j).trans (HF0.out j).symm⟩)))
  clear H9 HS0 HM0 HF0 M2D
  have cB := blk_cell (M3.out.blk_at 1 rfl)
  have fB := blk_frozen (M3.out.blk_at 1 rfl)
  have hB := blk_lt (M3.out.blk_at 1 rfl)
  clear cM cF cG M1 M2
  go_wp2_with fail
  refine leaves_cons (f := 102) (args := #[.pointer (some ⟨w.heap.size + 1, 0, none⟩)]) (by simp) (by simp [go_sem]) ?_
  refine (catch_idle ⟨w.heap.size + 1, 0, none⟩ _).mono ?_
  rintro e u' w4 ⟨rfl, rfl, hM⟩
  have M4 := (M3.out.set 1 rfl 0 (.bool true)).trans hM
  have cE : w4.cell? ⟨w.heap.size + 1, 0, none⟩ = some (.bool true) := blk_cell (M4.blk_at 1 rfl) 0
  clear hM
  simp [Leaves, settle, results, Tryz.results65, go_sem, cE]
  exact ⟨_, _, _, _, _, _, Mem.sel (ps := [_, _, _, _, _, _, _, _, _, _]) (F := F) [3, 4, 5, 6, 7, 8, 9] 10 M4 rfl rfl⟩
end Go.Proofs.YtggbjokhniigkaaGreat.Tt1
namespace Go.Proofs.YtggbjokhniigkaaGreat.Tu1
open Ve Ty Go.RowKit YtggbjokhniigkaaGreatW.PrintWords YtggbjokhniigkaaGreatW.PrintLast YtggbjokhniigkaaGreatW.PrintMore Mx Kx Wa Wb Wc Wd Vc Rb Rd Sa Wj Tk Tn To Tr
theorem Take11_k1 (r : Rep) (m : Msg) (A5 A7 A8 A9 A10 A : Option Addr) (c5 c7 c8 c9 c10 c : Nat) (w : World) (h : RdRep w r A5 A7 A8 A9 A10) (hc : Fit r c5 c7 c8 c9 c10) (hs : r.f5.length ≤ 1200 ∧ r.f7.length ≤ 20 ∧ r.f8.length ≤ 20 ∧ r.f9.length ≤ 20 ∧ r.f10.length ≤ 1200) (hl : Kd.C kE w A m.f7.length m.f7) (hlc : m.f7.length ≤ c) (hln : m.f7.length ≤ 1000000) (hk : m.f0 = 1) (h1 : may r = true) (h2 : mayMsg r m = true) (s : Rep) (msgs : List Msg)
    (hcall : ∀ (F : List Res) (g : Nat) (v5 v7 v8 v9 v10 : Value) (w1 : World), Mem w w1 (blk g 25 (qc r.f0 r.f1 r.f2 r.f3 r.f4 v5 r.f6 v7 v8 v9 v10 r.f11 r.f12) :: Kx.sL r v5 v7 v8 v9 v10 F) → Kd.C kE w A m.f7.length m.f7 → Calls Tryz.prog 70 #[.pointer (some ⟨g, 0, none⟩), .agg #[.int .i64 m.f0, .int .i64 m.f1, .int .i64 m.f2, .int .i64 m.f3, .int .i64 m.f4, .int .i64 m.f5, .int .i64 m.f6, .slice A m.f7.length c]] w1 fun e w' => ∃ vout v5' v7' v8' v9' v10' : Value, e = .returned vout ∧ Mem w w' (blk g 25 (qc s.f0 s.f1 s.f2 s.f3 s.f4 v5' s.f6 v7' v8' v9' v10' s.f11 s.f12) :: row kE 68 v5' s.f5 :: row (Kd.int .i64) 3 v7' s.f7 :: row (Kd.int .i64) 3 v8' s.f8 :: row (Kd.int .i64) 3 v9' s.f9 :: row kE 68 v10' s.f10 :: row kM 27 vout msgs :: F)) :
    Calls Tryz.prog 35 #[.agg (Kx.rA r A5 A7 A8 A9 A10 c5 c7 c8 c9 c10), .agg #[.int .i64 m.f0, .int .i64 m.f1, .int .i64 m.f2, .int .i64 m.f3, .int .i64 m.f4, .int .i64 m.f5, .int .i64 m.f6, .slice A m.f7.length c]] w fun e w' => OutS w w' e s msgs 0 := by
  have E1 := Aside0.mk h1
  have CALL := Aside0.mk hcall
  have MSG : Aside0 (∀ w', Kd.C kE w' A m.f7.length m.f7 → Calls Tryz.prog 66 #[.agg (Kx.rA r A5 A7 A8 A9 A10 c5 c7 c8 c9 c10), .agg #[.int .i64 1, .int .i64 m.f1, .int .i64 m.f2, .int .i64 m.f3, .int .i64 m.f4, .int .i64 m.f5, .int .i64 m.f6, .slice A m.f7.length c]] w' fun e w'' => e = .returned (.bool true) ∧ Mem w' w'' []) :=
    ⟨fun w' h => by have := message11_calls r m A5 A7 A8 A9 A10 A c5 c7 c8 c9 c10 c w' h hlc hln; (try unfold Kx.mA at this); rw [h2, hk] at this; exact this⟩
  clear h1 h2
  rw [hk] at hcall CALL ⊢
  clear hk hcall
  have H := Aside0.mk h
  have HC := Aside0.mk hc
  have HS := Aside0.mk hs
  have HL := Aside0.mk hl
  have HLC := Aside0.mk hlc
  have HLN := Aside0.mk hln
  have M1 := Aside0.mk ((((Mem.nil w).alloc (Kx.rA r A5 A7 A8 A9 A10 c5 c7 c8 c9 c10) 25).allocAt #[.int .i64 1, .int .i64 m.f1, .int .i64 m.f2, .int .i64 m.f3, .int .i64 m.f4, .int .i64 m.f5, .int .i64 m.f6, .slice A m.f7.length c] 27 (w.heap.size + 1) (by simp)).allocAt #[.int .i64 0, .int .i64 0, .int .i64 0, .int .i64 0, .int .i64 0, .slice none 0 0, .int .i64 0, .slice none 0 0, .slice none 0 0, .slice none 0 0, .slice none 0 0, .int .i64 0, .int .i64 0] 25 (w.heap.size + 2) (by simp))
  clear h hc hs hl hlc hln
  go_enter Tryz.func35, Tryz.ntmps35
  go_wp2_with fail
  refine (May11_calls r A5 A7 A8 A9 A10 c5 c7 c8 c9 c10 _ (H.out.below M1.out.below) HC.out HS.out).mono ?_
  rintro e w1 ⟨he, hb⟩
  rw [E1.out] at he
  subst he
  have M2 := Aside0.mk (M1.out.grow hb)
  clear hb M1
  have cR := blk_cell (M2.out.blk_at 2 rfl)
  have cM := blk_cell (M2.out.blk_at 1 rfl)
  have cZ := blk_cell (M2.out.blk_at 0 rfl)
  have fZ := blk_frozen (M2.out.blk_at 0 rfl)
  go_wp2_with fail
  refine (MSG.out _ (Kd.C_below HL.out M2.out.below)).mono ?_
  rintro e w2 ⟨rfl, hM⟩
  have M3 := Aside0.mk (Mem.sel (ps := [_, _, _]) (F := []) [0, 1, 2] 3 (M2.out.trans hM) rfl rfl)
  clear hM M2 cR cM cZ fZ
  have cR := blk_cell (M3.out.blk_at 2 rfl)
  have cM := blk_cell (M3.out.blk_at 1 rfl)
  have cZ := blk_cell (M3.out.blk_at 0 rfl)
  have fZ := blk_frozen (M3.out.blk_at 0 rfl)
  go_wp2_with fail
  refine (Copy11_calls r A5 A7 A8 A9 A10 c5 c7 c8 c9 c10 _ (H.out.below M3.out.below) ⟨Nat.le_trans HS.out.1 (by decide), Nat.le_trans HS.out.2.1 (by decide), Nat.le_trans HS.out.2.2.1 (by decide), Nat.le_trans HS.out.2.2.2.1 (by decide), Nat.le_trans HS.out.2.2.2.2 (by decide)⟩).mono ?_
  rintro e w3 ⟨v5, v7, v8, v9, v10, rfl, hM⟩
  unfold rc
  obtain ⟨B5, d5, rfl, _, _⟩ := hM.row_at 0 rfl
  obtain ⟨B7, d7, rfl, _, _⟩ := hM.row_at 1 rfl
  obtain ⟨B8, d8, rfl, _, _⟩ := hM.row_at 2 rfl
  obtain ⟨B9, d9, rfl, _, _⟩ := hM.row_at 3 rfl
  obtain ⟨B10, d10, rfl, hd10, _⟩ := hM.row_at 4 rfl
  have M4 := Aside0.mk ((Mem.sel (ps := [_, _, _, _, _, _, _, _]) (F := []) [0, 1, 2, 3, 4, 5, 6, 7] 8 (M3.out.trans hM) rfl rfl).allocAt #[.int .i64 r.f0, .int .i64 r.f1, .int .i64 r.f2, .int .i64 r.f3, .int .i64 r.f4, .slice B5 r.f5.length d5, .int .i64 r.f6, .slice B7 r.f7.length d7, .slice B8 r.f8.length d8, .slice B9 r.f9.length d9, .slice B10 r.f10.length d10, .int .i64 r.f11, .int .i64 r.f12] 25 w3.heap.size rfl)
  clear hM M3 cR cM cZ fZ
  have cX := blk_cell (M4.out.blk_at 0 rfl)
  have cM := blk_cell (M4.out.blk_at 7 rfl)
  have cZ := blk_cell (M4.out.blk_at 6 rfl)
  have fZ := blk_frozen (M4.out.blk_at 6 rfl)
  have hbX := blk_lt (M4.out.blk_at 0 rfl)
  have hbZ := blk_lt (M4.out.blk_at 6 rfl)
  go_wp2_with fail
  refine (CALL.out _ w3.heap.size _ _ _ _ _ _ (Mem.sel (ps := [_, _, _, _, _, _, _, _, _]) (F := []) [0, 1, 2, 3, 4, 5, 6, 7, 8] 9 M4.out rfl rfl) HL.out).mono ?_
  rintro e w4 ⟨vo, v5, v7, v8, v9, v10, rfl, hM⟩
  obtain ⟨S5, s5, rfl, _, _⟩ := hM.row_at 1 rfl
  obtain ⟨S7, s7, rfl, _, _⟩ := hM.row_at 2 rfl
  obtain ⟨S8, s8, rfl, _, _⟩ := hM.row_at 3 rfl
  obtain ⟨S9, s9, rfl, _, _⟩ := hM.row_at 4 rfl
  obtain ⟨S10, s10, rfl, _, _⟩ := hM.row_at 5 rfl
  obtain ⟨So, so, rfl, _, _⟩ := hM.row_at 6 rfl
  have M5 := Aside0.mk (Mem.sel (ps := [_, _, _, _, _, _, _, _, _, _]) (F := []) [1, 2, 3, 4, 5, 6, 0, 7, 8, 9] 10 hM rfl rfl)
  clear hM M4 cX cM cZ fZ hbX hbZ
  have cX := blk_cell (M5.out.blk_at 6 rfl)
  have cZ := blk_cell (M5.out.blk_at 7 rfl)
  have fZ := blk_frozen (M5.out.blk_at 7 rfl)
  have hbX := blk_lt (M5.out.blk_at 6 rfl)
  have hbZ := blk_lt (M5.out.blk_at 7 rfl)
  unfold qc at cX
  go_wp2_with fail
  all_goals
    have MF := (M5.out.setRow 7 rfl [.int .i64 s.f0, .int .i64 s.f1, .int .i64 s.f2, .int .i64 s.f3, .int .i64 s.f4, .slice S5 s.f5.length s5, .int .i64 s.f6, .slice S7 s.f7.length s7, .slice S8 s.f8.length s8, .slice S9 s.f9.length s9, .slice S10 s.f10.length s10, .int .i64 s.f11, .int .i64 s.f12] rfl)
    have hgF := MF.blk_at 7 rfl
    refine bodyPost_ret (results_list (rs := [.cell 4 25, .tmp 5, .tmp 6]) rfl (by simp) (.cell (w.heap.size + 2) 25 #[.int .i64 s.f0, .int .i64 s.f1, .int .i64 s.f2, .int .i64 s.f3, .int .i64 s.f4, .slice S5 s.f5.length s5, .int .i64 s.f6, .slice S7 s.f7.length s7, .slice S8 s.f8.length s8, .slice S9 s.f9.length s9, .slice S10 s.f10.length s10, .int .i64 s.f11, .int .i64 s.f12] (0, 0) _ rfl hgF Tryz.underlying25 rfl (by kernel_rfl) (.tmp (.tmp .nil)))) rfl ?_
    exact OutS_of (Mem.sel (ps := [_, _, _, _, _, _, _, _, _, _]) (F := []) [0, 1, 2, 3, 4, 5] 10 MF rfl rfl)
end Go.Proofs.YtggbjokhniigkaaGreat.Tu1
namespace Go.Proofs.YtggbjokhniigkaaGreat.Ub1
open Ty Go.RowKit YtggbjokhniigkaaGreatW.PrintWords YtggbjokhniigkaaGreatW.PrintLast YtggbjokhniigkaaGreatW.PrintMore Mx Kx Wa Wb Wc Wd Vc Sa Wj Tk Tb Tn Tt Tx Tr Tz Ua Tt1 Tu1
theorem both_1 (r : Rep) (m : Msg) (A5 A7 A8 A9 A10 A : Option Addr) (c5 c7 c8 c9 c10 c : Nat) (hk : m.f0 = 1) (hc : Fit r c5 c7 c8 c9 c10) (hs : r.f5.length ≤ 1200 ∧ r.f7.length ≤ 20 ∧ r.f8.length ≤ 20 ∧ r.f9.length ≤ 20 ∧ r.f10.length ≤ 1200) (hln : m.f7.length ≤ 1200) (hlc : m.f7.length ≤ c)
    (hgood : may r = true → mayM r m = true → ∃ (s : Rep) (msgs : List Msg), FewOf s msgs ∧
      (∀ (w0 w : World) (F : List Res) (g : Nat) (v5 v7 v8 v9 v10 : Value), Mem w0 w (blk g 95 (Wa.wc r.f0 r.f1 r.f2 r.f3 r.f4 v5 r.f6 v7 v8 v9 v10 r.f11 r.f12 (.slice none 0 0)) :: row kM 27 (.slice none 0 0) [] :: Kx.sL r v5 v7 v8 v9 v10 F) → Kd.C kE w0 A m.f7.length m.f7 → Calls Tryz.prog 103 #[.pointer (some ⟨g, 0, none⟩), .agg (Kx.mA m A c)] w fun e w' => e = .returned (.tuple #[]) ∧ ∃ v5' v7' v8' v9' v10' vout' : Value, Mem w0 w' (blk g 95 (Wa.wc s.f0 s.f1 s.f2 s.f3 s.f4 v5' s.f6 v7' v8' v9' v10' s.f11 s.f12 vout') :: row kM 27 vout' msgs :: Kx.sL s v5' v7' v8' v9' v10' F)) ∧
      (∀ (w0 w : World) (F : List Res) (g : Nat) (v5 v7 v8 v9 v10 : Value), Mem w0 w (blk g 25 (qc r.f0 r.f1 r.f2 r.f3 r.f4 v5 r.f6 v7 v8 v9 v10 r.f11 r.f12) :: Kx.sL r v5 v7 v8 v9 v10 F) → Kd.C kE w0 A m.f7.length m.f7 → Calls Tryz.prog 70 #[.pointer (some ⟨g, 0, none⟩), .agg (Kx.mA m A c)] w fun e w' => ∃ vout v5' v7' v8' v9' v10' : Value, e = .returned vout ∧ Mem w0 w' (blk g 25 (qc s.f0 s.f1 s.f2 s.f3 s.f4 v5' s.f6 v7' v8' v9' v10' s.f11 s.f12) :: row kE 68 v5' s.f5 :: row (Kd.int .i64) 3 v7' s.f7 :: row (Kd.int .i64) 3 v8' s.f8 :: row (Kd.int .i64) 3 v9' s.f9 :: row kE 68 v10' s.f10 :: row kM 27 vout msgs :: F))) : TakesAs r m A5 A7 A8 A9 A10 A c5 c7 c8 c9 c10 c := by
  refine takesAs_of r m A5 A7 A8 A9 A10 A c5 c7 c8 c9 c10 c (by omega) (by omega) hc hs hln hlc fun h1 h2 => ?_
  obtain ⟨s, msgs, hf, g1, g2⟩ := hgood h1 h2
  have hn : Small r := ⟨Nat.le_trans hs.1 (by decide), Nat.le_trans hs.2.1 (by decide), Nat.le_trans hs.2.2.1 (by decide), Nat.le_trans hs.2.2.2.1 (by decide), Nat.le_trans hs.2.2.2.2 (by decide)⟩
  refine ⟨s, msgs, hf, fun w h hl => ?_, fun w h hl => ?_⟩
  · exact Take_ok r m A5 A7 A8 A9 A10 A c5 c7 c8 c9 c10 c w h hn hl h1 s msgs (fun w0 w F g v5 v7 v8 v9 v10 hM hl => takes_1 w0 w F g r s m v5 v7 v8 v9 v10 (.slice none 0 0) msgs A c hk h2 hM hl (Nat.le_trans hln (by decide)) (fun F w hM => g1 w0 w F g v5 v7 v8 v9 v10 hM hl))
  · exact Take11_k1 r m A5 A7 A8 A9 A10 A c5 c7 c8 c9 c10 c w h hc hs hl hlc (Nat.le_trans hln (by decide)) hk h1 ((mayMsg_in r m (by omega) (by omega)).trans h2) s msgs (fun F g v5 v7 v8 v9 v10 w1 hM hl => g2 w w1 F g v5 v7 v8 v9 v10 hM hl)
end Go.Proofs.YtggbjokhniigkaaGreat.Ub1
namespace Go.Proofs.YtggbjokhniigkaaGreat.Un
open Ty Go.RowKit YtggbjokhniigkaaGreatW.PrintWords YtggbjokhniigkaaGreatW.PrintLast YtggbjokhniigkaaGreatW.PrintMore Mx Kx Wa Wd Vc Wj Tk Tb Tn Tz Ua
structure Nums (r : Rep) (m : Msg) : Prop where
  i0 : 0 ≤ r.f0
  i1 : r.f0 < r.f1
  n5 : r.f1 ≤ 5
  w0 : 0 ≤ r.f2
  w1 : r.f2 ≤ 4611686018427387904
  v0 : 0 ≤ m.f3
  v1 : m.f3 ≤ 4611686018427387904
  x0 : 0 ≤ m.f4
  x1 : m.f4 ≤ 4611686018427387904
  y0 : 0 ≤ m.f5
  y1 : m.f5 ≤ 4611686018427387904
  f0 : 0 ≤ m.f1
  f1 : m.f1 < r.f1
  c0 : 0 ≤ r.f6
  c1 : r.f6 ≤ (r.f5.length : Int)
theorem below_num {n : Int} (h : below n = true) : 0 ≤ n ∧ n ≤ 4611686018427387904 := by
  unfold below maxTime at h
  simp at h
  omega
theorem nums {r : Rep} {m : Msg} (k1 : 1 ≤ m.f0) (k8 : m.f0 ≤ 8) (h1 : may r = true) (h2 : mayM r m = true) : Nums r m := by
  have P := (may_iff r).1 h1
  have Q := may_P k1 k8 h2
  have n5 : r.f1 ≤ 5 := by
    have := P.1
    unfold size at this
    simp at this
    omega
  have w := below_num P.2.2.2.1
  have v := below_num Q.2.2.2.2.2.2.1
  have x := below_num Q.2.2.2.2.2.2.2.1
  have y := below_num Q.2.2.2.2.2.2.2.2.1
  exact ⟨P.2.1, P.2.2.1, n5, w.1, w.2, v.1, v.2, x.1, x.2, y.1, y.2, Q.2.2.1, Q.2.2.2.1, P.2.2.2.2.2.2.2.2.2.2.1, P.2.2.2.2.2.2.2.2.2.2.2.1⟩
theorem few_normal {r : Rep} {view commit : Int} {l : List Entry} {msgs : List Msg} (hn : r.f1 ≤ 5) (hl : l.length ≤ 1000000) (h : msgs.length ≤ 1000000000 ∧ ∀ i, (rd_Msg msgs i).f7.length ≤ 1000000000) : FewOf (normal r view l commit) msgs := by
  refine ⟨⟨hl, Nat.le_trans hl (by decide), ?_, Nat.zero_le _, Nat.zero_le _, Nat.zero_le _⟩, h⟩
  show ((List.replicate r.f1.toNat (0 : Int)).set _ _).length ≤ _
  rw [List.length_set, List.length_replicate]
  omega
theorem msgs_one {m : Msg} (h : m.f7.length ≤ 1000000000) : [m].length ≤ 1000000000 ∧ ∀ i, (rd_Msg [m] i).f7.length ≤ 1000000000 :=
  ⟨by simp, rd_f7 (fun x hx => by rw [List.mem_singleton.1 hx]; exact h)⟩
end Go.Proofs.YtggbjokhniigkaaGreat.Un
namespace Go.Proofs.YtggbjokhniigkaaGreat.Tl
open Go.RowKit
theorem wc_low (i n vw nr hw : Int) (vl : Value) (cm : Int) (va vv vo vb : Value) (bv bd : Int) (vout vout' : Value) (j : Nat) (hj : j < 13) : (Wa.wc i n vw nr hw vl cm va vv vo vb bv bd vout)[j]? = (Wa.wc i n vw nr hw vl cm va vv vo vb bv bd vout')[j]? := by
  unfold Wa.wc
  match j, hj with
  | 0, _ => rfl
  | 1, _ => rfl
  | 2, _ => rfl
  | 3, _ => rfl
  | 4, _ => rfl
  | 5, _ => rfl
  | 6, _ => rfl
  | 7, _ => rfl
  | 8, _ => rfl
  | 9, _ => rfl
  | 10, _ => rfl
  | 11, _ => rfl
  | 12, _ => rfl
end Go.Proofs.YtggbjokhniigkaaGreat.Tl
namespace Go.Proofs.YtggbjokhniigkaaGreat.Tc
open Ty Go.RowKit YtggbjokhniigkaaGreatW.PrintWords YtggbjokhniigkaaGreatW.PrintLast YtggbjokhniigkaaGreatW.PrintMore Mx Kx Wa Tk We Sa Tl Wj Wd
theorem commit_calls (w0 w : World) (F : List Res) (g : Nat) (i n vw nr hw : Int) (A5 : Option Addr) (n5 c5 : Nat) (cm : Int) (va vv vo vb : Value) (bv bd : Int) (vout : Value) (k : Int)
    (hM : Mem w0 w (blk g 95 (Wa.wc i n vw nr hw (.slice A5 n5 c5) cm va vv vo vb bv bd vout) :: F)) (x : Int) (hx : max cm (min k (n5 : Int)) = x) :
    Calls Tryz.prog 128 #[.pointer (some ⟨g, 0, none⟩), .int .i64 k] w fun e w' => e = .returned (.tuple #[]) ∧ Mem w0 w' (blk g 95 (Wa.wc i n vw nr hw (.slice A5 n5 c5) x va vv vo vb bv bd vout) :: F) := by
  have HX := Aside0.mk hx
  have M1 := Aside0.mk hM
  have cG := blk_cell (hM.blk_at 0 rfl)
  have fG := blk_frozen (hM.blk_at 0 rfl)
  have hg := blk_lt (hM.blk_at 0 rfl)
  unfold Wa.wc at cG
  clear hM hx
  go_enter Tryz.func128, Tryz.ntmps128
  go_region
  all_goals
    go_wp2_with fail
    all_goals
      first | go_end0 | (refine bodyPost_ret (results_none rfl _ _ _) rfl ?_)
      have hx := HX.out
      clear cG fG hg
      first
        | (have e : x = (n5 : Int) := by omega
           subst e
           exact ⟨rfl, (M1.out.set 0 rfl 6 (.int .i64 (n5 : Int))).drew⟩)
        | (have e : x = cm := by omega
           subst e
           exact ⟨rfl, (M1.out.set 0 rfl 6 (.int .i64 x)).drew⟩)
        | (have e : x = k := by omega
           subst e
           exact ⟨rfl, (M1.out.set 0 rfl 6 (.int .i64 x)).drew⟩)
theorem prep_n1 (w0 w : World) (F : List Res) (g : Nat) (r : Rep) (m : Msg) (v5 v7 v8 v9 v10 : Value) (A : Option Addr) (c : Nat) (hM : Mem w0 w (blk g 95 (Wa.wc r.f0 r.f1 r.f2 r.f3 r.f4 v5 r.f6 v7 v8 v9 v10 r.f11 r.f12 (.slice none 0 0)) :: row kM 27 (.slice none 0 0) [] :: Kx.sL r v5 v7 v8 v9 v10 F)) (hv : 0 ≤ m.f3) (hv2 : m.f3 ≤ 4611686018427387904) (hn0 : 0 < r.f1) (hn5 : r.f1 ≤ 5) (h1 : m.f3 < r.f2) :
    Calls Tryz.prog 103 #[.pointer (some ⟨g, 0, none⟩), .agg (Kx.mA m A c)] w fun e w' => e = .returned (.tuple #[]) ∧ ∃ v5' v7' v8' v9' v10' vout' : Value, Mem w0 w' (blk g 95 (Wa.wc r.f0 r.f1 r.f2 r.f3 r.f4 v5' r.f6 v7' v8' v9' v10' r.f11 r.f12 vout') :: row kM 27 vout' [] :: Kx.sL r v5' v7' v8' v9' v10' F) := by
  obtain ⟨B5, d5, rfl, _, _⟩ := hM.row_at 2 rfl
  have e1 : decide (m.f3 < r.f2) = true := by simpa using h1
  clear h1
  have HV := Aside0.mk (show 0 ≤ m.f3 ∧ m.f3 ≤ 4611686018427387904 from ⟨hv, hv2⟩)
  have HI := Aside0.mk (show 0 < r.f1 ∧ r.f1 ≤ 5 from ⟨hn0, hn5⟩)
  have M1 := Aside0.mk (hM.alloc (Kx.mA m A c) 27)
  clear hM hv hv2 hn0 hn5
  have cM := blk_cell (M1.out.blk_at 0 rfl)
  have cG := blk_cell (M1.out.blk_at 1 rfl)
  unfold Wa.wc at cG
  go_enter Tryz.func103, Tryz.ntmps103
  go_wp2_with fail
  have hW := M1.out.blk_at 1 rfl
  go_quiet ((go_at_call 97; exact primary_quiet _ _ g r.f0 r.f1 r.f2 r.f3 r.f4 _ r.f6 _ _ _ _ r.f11 r.f12 _ m.f3 hW HV.out.1 HV.out.2 HI.out.1 HI.out.2))
  clear hW
  go_wp2
  first | go_end0 | (refine bodyPost_ret (results_none rfl _ _ _) rfl ?_)
  exact ⟨rfl, _, _, _, _, _, _, Mem.sel (ps := [_, _, _, _, _, _, _, _]) (F := F) [1, 2, 3, 4, 5, 6, 7] 8 (M1.out.drewN _) rfl rfl⟩
theorem prep_n2 (w0 w : World) (F : List Res) (g : Nat) (r : Rep) (m : Msg) (v5 v7 v8 v9 v10 : Value) (A : Option Addr) (c : Nat) (hM : Mem w0 w (blk g 95 (Wa.wc r.f0 r.f1 r.f2 r.f3 r.f4 v5 r.f6 v7 v8 v9 v10 r.f11 r.f12 (.slice none 0 0)) :: row kM 27 (.slice none 0 0) [] :: Kx.sL r v5 v7 v8 v9 v10 F)) (hv : 0 ≤ m.f3) (hv2 : m.f3 ≤ 4611686018427387904) (hn0 : 0 < r.f1) (hn5 : r.f1 ≤ 5) (h1 : ¬ m.f3 < r.f2) (h2 : ¬ m.f3 % r.f1 = m.f1) :
    Calls Tryz.prog 103 #[.pointer (some ⟨g, 0, none⟩), .agg (Kx.mA m A c)] w fun e w' => e = .returned (.tuple #[]) ∧ ∃ v5' v7' v8' v9' v10' vout' : Value, Mem w0 w' (blk g 95 (Wa.wc r.f0 r.f1 r.f2 r.f3 r.f4 v5' r.f6 v7' v8' v9' v10' r.f11 r.f12 vout') :: row kM 27 vout' [] :: Kx.sL r v5' v7' v8' v9' v10' F) := by
  obtain ⟨B5, d5, rfl, _, _⟩ := hM.row_at 2 rfl
  have e1 : decide (m.f3 < r.f2) = false := by simpa using h1
  clear h1
  have e2 : (m.f3 % r.f1 == m.f1) = false := by simpa using h2
  have e2' : (m.f3 % r.f1 != m.f1) = true := by simpa using h2
  clear h2
  have HV := Aside0.mk (show 0 ≤ m.f3 ∧ m.f3 ≤ 4611686018427387904 from ⟨hv, hv2⟩)
  have HI := Aside0.mk (show 0 < r.f1 ∧ r.f1 ≤ 5 from ⟨hn0, hn5⟩)
  have M1 := Aside0.mk (hM.alloc (Kx.mA m A c) 27)
  clear hM hv hv2 hn0 hn5
  have cM := blk_cell (M1.out.blk_at 0 rfl)
  have cG := blk_cell (M1.out.blk_at 1 rfl)
  unfold Wa.wc at cG
  go_enter Tryz.func103, Tryz.ntmps103
  go_wp2_with fail
  have hW := M1.out.blk_at 1 rfl
  go_quiet ((go_at_call 97; exact primary_quiet _ _ g r.f0 r.f1 r.f2 r.f3 r.f4 _ r.f6 _ _ _ _ r.f11 r.f12 _ m.f3 hW HV.out.1 HV.out.2 HI.out.1 HI.out.2))
  clear hW
  go_wp2
  first | go_end0 | (refine bodyPost_ret (results_none rfl _ _ _) rfl ?_)
  exact ⟨rfl, _, _, _, _, _, _, Mem.sel (ps := [_, _, _, _, _, _, _, _]) (F := F) [1, 2, 3, 4, 5, 6, 7] 8 (M1.out.drewN _) rfl rfl⟩
theorem prep_a1 (w0 w : World) (F : List Res) (g : Nat) (r : Rep) (m : Msg) (v5 v7 v8 v9 v10 : Value) (A : Option Addr) (c : Nat) (hM : Mem w0 w (blk g 95 (Wa.wc r.f0 r.f1 r.f2 r.f3 r.f4 v5 r.f6 v7 v8 v9 v10 r.f11 r.f12 (.slice none 0 0)) :: row kM 27 (.slice none 0 0) [] :: Kx.sL r v5 v7 v8 v9 v10 F)) (hv : 0 ≤ m.f3) (hv2 : m.f3 ≤ 4611686018427387904) (hn0 : 0 < r.f1) (hn5 : r.f1 ≤ 5) (h1 : ¬ m.f3 < r.f2) (h2 : m.f3 % r.f1 = m.f1) (h3 : r.f2 < m.f3) (s : Rep) (hs : { clear r with f2 := m.f3, f4 := 2 } = s) :
    Calls Tryz.prog 103 #[.pointer (some ⟨g, 0, none⟩), .agg (Kx.mA m A c)] w fun e w' => e = .returned (.tuple #[]) ∧ ∃ v5' v7' v8' v9' v10' vout' : Value, Mem w0 w' (blk g 95 (Wa.wc s.f0 s.f1 s.f2 s.f3 s.f4 v5' s.f6 v7' v8' v9' v10' s.f11 s.f12 vout') :: row kM 27 vout' [toOne s m.f1 ⟨7, 0, 0, 0, s.f6, 0, 0, []⟩] :: Kx.sL s v5' v7' v8' v9' v10' F) := by
  obtain ⟨B5, d5, rfl, _, _⟩ := hM.row_at 2 rfl
  have HSS := Aside0.mk hs
  clear hs
  have e1 : decide (m.f3 < r.f2) = false := by simpa using h1
  clear h1
  have e2 : (m.f3 % r.f1 == m.f1) = true := by simpa using h2
  have e2' : (m.f3 % r.f1 != m.f1) = false := by simpa using h2
  clear h2
  have e3 : decide (r.f2 < m.f3) = true := by simpa using h3
  clear h3
  have HV := Aside0.mk (show 0 ≤ m.f3 ∧ m.f3 ≤ 4611686018427387904 from ⟨hv, hv2⟩)
  have HI := Aside0.mk (show 0 < r.f1 ∧ r.f1 ≤ 5 from ⟨hn0, hn5⟩)
  have M1 := Aside0.mk (hM.alloc (Kx.mA m A c) 27)
  clear hM hv hv2 hn0 hn5
  have cM := blk_cell (M1.out.blk_at 0 rfl)
  have cG := blk_cell (M1.out.blk_at 1 rfl)
  unfold Wa.wc at cG
  go_enter Tryz.func103, Tryz.ntmps103
  go_wp2_with fail
  have hW := M1.out.blk_at 1 rfl
  go_quiet ((go_at_call 97; exact primary_quiet _ _ g r.f0 r.f1 r.f2 r.f3 r.f4 _ r.f6 _ _ _ _ r.f11 r.f12 _ m.f3 hW HV.out.1 HV.out.2 HI.out.1 HI.out.2))
  clear hW
  go_wp2_with fail
  have fG := blk_frozen (M1.out.blk_at 1 rfl)
  have hg := blk_lt (M1.out.blk_at 1 rfl)
  go_quiet (fail)
  go_wp2_with fail
  refine (clear_calls w0 _ _ g r.f0 r.f1 m.f3 r.f3 2 _ r.f6 _ _ _ _ r.f11 r.f12 _ (Mem.sel (ps := [_, _, _, _, _, _, _, _]) (F := F) [1, 0, 2, 3, 4, 5, 6, 7] 8 (((M1.out.drewN _).set 1 rfl 2 (.int .i64 m.f3)).set 1 rfl 4 (.int .i64 2)) rfl rfl)).mono ?_
  rintro e wc ⟨rfl, hM⟩
  have M2 := Aside0.mk (Mem.sel (ps := [_, _, _, _, _, _, _, _]) (F := F) [0, 2, 1, 3, 4] 8 hM rfl rfl)
  clear hM M1 cM cG fG hg
  have HM0 := Aside0.mk (blk_cell (M2.out.blk_at 2 rfl))
  have HG0 := Aside0.mk (blk_cell (M2.out.blk_at 0 rfl))
  have cM := HM0.out
  have cG := HG0.out
  unfold Wa.wc at cG
  go_upto_region 5 with (fail)
  have M2D := Aside0.mk M2.out.drew
  have HS0 := Aside0.mk (show (∀ j : Nat, wc.drew.cell? ⟨w.heap.size, j, none⟩ = wc.cell? ⟨w.heap.size, j, none⟩) ∧ (∀ j : Nat, j < 13 → wc.drew.cell? ⟨g, j, none⟩ = wc.cell? ⟨g, j, none⟩) from ⟨fun _ => rfl, fun _ _ => rfl⟩)
  have H9 := HS0
  go_region_held3 (fun w' => (∀ j : Nat, w'.cell? ⟨w.heap.size, j, none⟩ = wc.cell? ⟨w.heap.size, j, none⟩) ∧ (∀ j : Nat, j < 13 → w'.cell? ⟨g, j, none⟩ = wc.cell? ⟨g, j, none⟩)) (first | with_reducible exact HS0.out | with_reducible exact H9.out | fail) ((go_at_call 126; refine (send_calls w0 _ emp _ g r.f0 r.f1 m.f3 r.f3 2 _ r.f6 v7 (.slice none 0 0) (.slice none 0 0) (.slice none 0 0) (-1) 0 (.slice none 0 0) [] m.f1 7 0 0 0 r.f6 0 0 none 0 [] (Mem.sel (ps := [_, _, _, _, _, _]) (F := F) [0, 1, 2, 3, 4, 5] 6 (Mem.cons_emp M2D.out) rfl rfl) (Rd.old (C_zero _)) (by decide) (by decide) (by decide)).mono ?_; rintro e w1 ⟨vo, rfl, hM⟩; have M3 := Aside0.mk (Mem.sel (ps := [_, _, _, _, _, _]) (F := F) [1, 2, 3, 4, 5] 6 hM rfl rfl); clear hM; have H9 := Aside0.mk (show (∀ j : Nat, w1.cell? ⟨w.heap.size, j, none⟩ = wc.cell? ⟨w.heap.size, j, none⟩) ∧ (∀ j : Nat, j < 13 → w1.cell? ⟨g, j, none⟩ = wc.cell? ⟨g, j, none⟩) from ⟨fun j => (blk_cell (M3.out.blk_at 2 rfl) j).trans (HM0.out j).symm, fun j hj => (blk_cell (M3.out.blk_at 0 rfl) j).trans (Eq.trans (wc_low _ _ _ _ _ _ _ _ _ _ _ _ _ _ _ j hj) (HG0.out j).symm)⟩)))
  go_wp2
  first | go_end0 | (refine bodyPost_ret (results_none rfl _ _ _) rfl ?_)
  have hs := HSS.out
  subst hs
  exact ⟨rfl, _, _, _, _, _, _, Mem.sel (ps := [_, _, _, _, _, _, _, _]) (F := F) [3, 4, 6, 7, 1, 2, 0] 8 (Mem.row_nil (Mem.row_nil (Mem.row_nil M3.out (Kd.int .i64) 3) (Kd.int .i64) 3) kE 68) rfl rfl⟩
theorem prep_a2 (w0 w : World) (F : List Res) (g : Nat) (r : Rep) (m : Msg) (v5 v7 v8 v9 v10 : Value) (A : Option Addr) (c : Nat) (hM : Mem w0 w (blk g 95 (Wa.wc r.f0 r.f1 r.f2 r.f3 r.f4 v5 r.f6 v7 v8 v9 v10 r.f11 r.f12 (.slice none 0 0)) :: row kM 27 (.slice none 0 0) [] :: Kx.sL r v5 v7 v8 v9 v10 F)) (hv : 0 ≤ m.f3) (hv2 : m.f3 ≤ 4611686018427387904) (hn0 : 0 < r.f1) (hn5 : r.f1 ≤ 5) (h1 : ¬ m.f3 < r.f2) (h2 : m.f3 % r.f1 = m.f1) (h3 : ¬ r.f2 < m.f3) (h4 : ¬ r.f4 = 0) (s : Rep) (hs : { clear r with f2 := m.f3, f4 := 2 } = s) :
    Calls Tryz.prog 103 #[.pointer (some ⟨g, 0, none⟩), .agg (Kx.mA m A c)] w fun e w' => e = .returned (.tuple #[]) ∧ ∃ v5' v7' v8' v9' v10' vout' : Value, Mem w0 w' (blk g 95 (Wa.wc s.f0 s.f1 s.f2 s.f3 s.f4 v5' s.f6 v7' v8' v9' v10' s.f11 s.f12 vout') :: row kM 27 vout' [toOne s m.f1 ⟨7, 0, 0, 0, s.f6, 0, 0, []⟩] :: Kx.sL s v5' v7' v8' v9' v10' F) := by
  obtain ⟨B5, d5, rfl, _, _⟩ := hM.row_at 2 rfl
  have HSS := Aside0.mk hs
  clear hs
  have e1 : decide (m.f3 < r.f2) = false := by simpa using h1
  clear h1
  have e2 : (m.f3 % r.f1 == m.f1) = true := by simpa using h2
  have e2' : (m.f3 % r.f1 != m.f1) = false := by simpa using h2
  clear h2
  have e3 : decide (r.f2 < m.f3) = false := by simpa using h3
  clear h3
  have e4 : (r.f4 == 0) = false := by simpa using h4
  have e4' : (r.f4 != 0) = true := by simpa using h4
  clear h4
  have HV := Aside0.mk (show 0 ≤ m.f3 ∧ m.f3 ≤ 4611686018427387904 from ⟨hv, hv2⟩)
  have HI := Aside0.mk (show 0 < r.f1 ∧ r.f1 ≤ 5 from ⟨hn0, hn5⟩)
  have M1 := Aside0.mk (hM.alloc (Kx.mA m A c) 27)
  clear hM hv hv2 hn0 hn5
  have cM := blk_cell (M1.out.blk_at 0 rfl)
  have cG := blk_cell (M1.out.blk_at 1 rfl)
  unfold Wa.wc at cG
  go_enter Tryz.func103, Tryz.ntmps103
  go_wp2_with fail
  have hW := M1.out.blk_at 1 rfl
  go_quiet ((go_at_call 97; exact primary_quiet _ _ g r.f0 r.f1 r.f2 r.f3 r.f4 _ r.f6 _ _ _ _ r.f11 r.f12 _ m.f3 hW HV.out.1 HV.out.2 HI.out.1 HI.out.2))
  clear hW
  go_wp2_with fail
  have fG := blk_frozen (M1.out.blk_at 1 rfl)
  have hg := blk_lt (M1.out.blk_at 1 rfl)
  go_quiet (fail)
  go_wp2_with fail
  refine (clear_calls w0 _ _ g r.f0 r.f1 m.f3 r.f3 2 _ r.f6 _ _ _ _ r.f11 r.f12 _ (Mem.sel (ps := [_, _, _, _, _, _, _, _]) (F := F) [1, 0, 2, 3, 4, 5, 6, 7] 8 (((M1.out.drewN _).set 1 rfl 2 (.int .i64 m.f3)).set 1 rfl 4 (.int .i64 2)) rfl rfl)).mono ?_
  rintro e wc ⟨rfl, hM⟩
  have M2 := Aside0.mk (Mem.sel (ps := [_, _, _, _, _, _, _, _]) (F := F) [0, 2, 1, 3, 4] 8 hM rfl rfl)
  clear hM M1 cM cG fG hg
  have HM0 := Aside0.mk (blk_cell (M2.out.blk_at 2 rfl))
  have HG0 := Aside0.mk (blk_cell (M2.out.blk_at 0 rfl))
  have cM := HM0.out
  have cG := HG0.out
  unfold Wa.wc at cG
  go_upto_region 5 with (fail)
  have M2D := Aside0.mk M2.out.drew
  have HS0 := Aside0.mk (show (∀ j : Nat, wc.drew.cell? ⟨w.heap.size, j, none⟩ = wc.cell? ⟨w.heap.size, j, none⟩) ∧ (∀ j : Nat, j < 13 → wc.drew.cell? ⟨g, j, none⟩ = wc.cell? ⟨g, j, none⟩) from ⟨fun _ => rfl, fun _ _ => rfl⟩)
  have H9 := HS0
  go_region_held3 (fun w' => (∀ j : Nat, w'.cell? ⟨w.heap.size, j, none⟩ = wc.cell? ⟨w.heap.size, j, none⟩) ∧ (∀ j : Nat, j < 13 → w'.cell? ⟨g, j, none⟩ = wc.cell? ⟨g, j, none⟩)) (first | with_reducible exact HS0.out | with_reducible exact H9.out | fail) ((go_at_call 126; refine (send_calls w0 _ emp _ g r.f0 r.f1 m.f3 r.f3 2 _ r.f6 v7 (.slice none 0 0) (.slice none 0 0) (.slice none 0 0) (-1) 0 (.slice none 0 0) [] m.f1 7 0 0 0 r.f6 0 0 none 0 [] (Mem.sel (ps := [_, _, _, _, _, _]) (F := F) [0, 1, 2, 3, 4, 5] 6 (Mem.cons_emp M2D.out) rfl rfl) (Rd.old (C_zero _)) (by decide) (by decide) (by decide)).mono ?_; rintro e w1 ⟨vo, rfl, hM⟩; have M3 := Aside0.mk (Mem.sel (ps := [_, _, _, _, _, _]) (F := F) [1, 2, 3, 4, 5] 6 hM rfl rfl); clear hM; have H9 := Aside0.mk (show (∀ j : Nat, w1.cell? ⟨w.heap.size, j, none⟩ = wc.cell? ⟨w.heap.size, j, none⟩) ∧ (∀ j : Nat, j < 13 → w1.cell? ⟨g, j, none⟩ = wc.cell? ⟨g, j, none⟩) from ⟨fun j => (blk_cell (M3.out.blk_at 2 rfl) j).trans (HM0.out j).symm, fun j hj => (blk_cell (M3.out.blk_at 0 rfl) j).trans (Eq.trans (wc_low _ _ _ _ _ _ _ _ _ _ _ _ _ _ _ j hj) (HG0.out j).symm)⟩)))
  go_wp2
  first | go_end0 | (refine bodyPost_ret (results_none rfl _ _ _) rfl ?_)
  have hs := HSS.out
  subst hs
  exact ⟨rfl, _, _, _, _, _, _, Mem.sel (ps := [_, _, _, _, _, _, _, _]) (F := F) [3, 4, 6, 7, 1, 2, 0] 8 (Mem.row_nil (Mem.row_nil (Mem.row_nil M3.out (Kd.int .i64) 3) (Kd.int .i64) 3) kE 68) rfl rfl⟩
end Go.Proofs.YtggbjokhniigkaaGreat.Tc
