/- Texts laid together: Uc4, Tt5, Tu5, Ub5, Uc5, Tt6. No condition. -/
import Derived.Deep.RegionHeld3
import Derived.Test.YtggbjokhniigkaaGreatYTz28
import Derived.Test.YtggbjokhniigkaaGreatYTz30
set_option linter.unusedVariables false
set_option linter.unusedSimpArgs false
set_option maxRecDepth 100000
set_option maxHeartbeats 8000000
namespace Go.Proofs.YtggbjokhniigkaaGreat.Uc4
open Ty Go.RowKit YtggbjokhniigkaaGreatW.PrintWords YtggbjokhniigkaaGreatW.PrintLast YtggbjokhniigkaaGreatW.PrintMore Mx Kx Wa Wd Vc Wj Tk Tb Tn Tz Ua Un Ub4 Cx
theorem few_lim {s : Rep} {ms : List Msg} (h : Lim s ms) : FewOf s ms :=
  ⟨⟨Nat.le_trans h.l5 (by decide), Nat.le_trans h.l5 (by decide), Nat.le_trans h.l7 (by decide), Nat.le_trans h.l8 (by decide), Nat.le_trans h.l9 (by decide), Nat.le_trans h.l10 (by decide)⟩, Nat.le_trans h.lm (by decide), rd_f7 (fun x hx => Nat.le_trans (h.lx x hx) (by decide))⟩
theorem good_4 (r : Rep) (m : Msg) (A5 A7 A8 A9 A10 A : Option Addr) (c5 c7 c8 c9 c10 c : Nat) (hk : m.f0 = 4) (hc : Fit r c5 c7 c8 c9 c10) (hs : r.f5.length ≤ 1200 ∧ r.f7.length ≤ 20 ∧ r.f8.length ≤ 20 ∧ r.f9.length ≤ 20 ∧ r.f10.length ≤ 1200) (hln : m.f7.length ≤ 1200) (hlc : m.f7.length ≤ c) : TakesAs r m A5 A7 A8 A9 A10 A c5 c7 c8 c9 c10 c := by
  refine both_4 r m A5 A7 A8 A9 A10 A c5 c7 c8 c9 c10 c hk hc hs hln hlc fun h1 h2 => ?_
  have n := nums (by omega) (by omega) h1 h2
  have P := (may_iff r).1 h1
  have i8 := (Tq.ids_pair _ _ _ (show idsFrom r.f1 (-1) r.f8 = true from P.2.2.2.2.2.2.2.2.2.2.2.2.2.2.1)).1
  have i9 := (Tq.ids_pair _ _ _ (show idsFrom r.f1 (-1) r.f9 = true from P.2.2.2.2.2.2.2.2.2.2.2.2.2.2.2.1)).1
  have f8 : r.f8.Pairwise (fun a b => a < b) ∧ r.f8.length ≤ 20 := ⟨i8, hs.2.2.1⟩
  have fr : Fine r := ⟨n.i0, n.i1, n.n5, n.w0, n.w1, hs.1, i9, hs.2.2.2.1, hs.2.2.2.2⟩
  exact ⟨(tChange r m).1, (tChange r m).2, few_lim (tChange_lim fr hs.2.1 hs.2.2.1 n.v0 n.v1), fun w0 w F g v5 v7 v8 v9 v10 hM hl => Ce.changes_calls w0 w F g r _ m v5 v7 v8 v9 v10 (.slice none 0 0) [] _ A c hM ⟨fr, f8, n.v0, n.v1, Nat.zero_le _⟩ rfl, fun w0 w F g v5 v7 v8 v9 v10 hM hl => Cu.change11_does w0 w F g r _ m v5 v7 v8 v9 v10 _ A c hM ⟨fr, f8, n.v0, n.v1⟩ rfl⟩
end Go.Proofs.YtggbjokhniigkaaGreat.Uc4
namespace Go.Proofs.YtggbjokhniigkaaGreat.Tt5
open Ty Go.RowKit YtggbjokhniigkaaGreatW.PrintWords YtggbjokhniigkaaGreatW.PrintLast YtggbjokhniigkaaGreatW.PrintMore Mx Kx Wa Wb Ta Tb
theorem takes_5 (w0 w : World) (F : List Res) (g : Nat) (r s : Rep) (m : Msg) (v5 v7 v8 v9 v10 vout : Value) (out : List Msg) (A : Option Addr) (c : Nat) (hk : m.f0 = 5) (hm : mayM r m = true)
    (hM : Mem w0 w (blk g 95 (Wa.wc r.f0 r.f1 r.f2 r.f3 r.f4 v5 r.f6 v7 v8 v9 v10 r.f11 r.f12 vout) :: row kM 27 vout [] :: Kx.sL r v5 v7 v8 v9 v10 F)) (hl : Kd.C kE w0 A m.f7.length m.f7) (hn : m.f7.length ≤ 1000000000)
    (hcall : ∀ (F : List Res) (w : World), Mem w0 w (blk g 95 (Wa.wc r.f0 r.f1 r.f2 r.f3 r.f4 v5 r.f6 v7 v8 v9 v10 r.f11 r.f12 vout) :: row kM 27 vout [] :: Kx.sL r v5 v7 v8 v9 v10 F) → Calls Tryz.prog 106 #[.pointer (some ⟨g, 0, none⟩), .agg #[.int .i64 m.f0, .int .i64 m.f1, .int .i64 m.f2, .int .i64 m.f3, .int .i64 m.f4, .int .i64 m.f5, .int .i64 m.f6, .slice A m.f7.length c]] w fun e w' => e = .returned (.tuple #[]) ∧ ∃ v5' v7' v8' v9' v10' vout' : Value, Mem w0 w' (blk g 95 (Wa.wc s.f0 s.f1 s.f2 s.f3 s.f4 v5' s.f6 v7' v8' v9' v10' s.f11 s.f12 vout') :: row kM 27 vout' out :: Kx.sL s v5' v7' v8' v9' v10' F)) :
    Calls Tryz.prog 65 #[.pointer (some ⟨g, 0, none⟩), .agg #[.int .i64 m.f0, .int .i64 m.f1, .int .i64 m.f2, .int .i64 m.f3, .int .i64 m.f4, .int .i64 m.f5, .int .i64 m.f6, .slice A m.f7.length c]] w fun e w' => e = .returned (.bool true) ∧ ∃ v5' v7' v8' v9' v10' vout' : Value, Mem w0 w' (blk g 95 (Wa.wc s.f0 s.f1 s.f2 s.f3 s.f4 v5' s.f6 v7' v8' v9' v10' s.f11 s.f12 vout') :: row kM 27 vout' out :: Kx.sL s v5' v7' v8' v9' v10' F) := by
  have hmf : ∀ (fn : Fn) (first cap : Array Value) (w : World), (Instr.makeFunc fn first cap).run Tryz.prog w = .ok (.func fn first cap) w := fun _ _ _ _ => rfl
  have HMF := Aside0.mk hmf
  obtain ⟨B5, d5, rfl, _, _⟩ := hM.row_at 2 rfl
  obtain ⟨B7, d7, rfl, _, _⟩ := hM.row_at 3 rfl
  obtain ⟨B8, d8, rfl, _, _⟩ := hM.row_at 4 rfl
  obtain ⟨B9, d9, rfl, _, _⟩ := hM.row_at 5 rfl
  obtain ⟨B10, d10, rfl, _, _⟩ := hM.row_at 6 rfl
  have HL := Aside0.mk hl
  have HN := Aside0.mk hn
  have CALL := Aside0.mk hcall
  have HMB := Aside0.mk hm
  have HMC : Aside0 (∀ w', Kd.C kE w' A m.f7.length m.f7 → Calls Tryz.prog 110 #[.agg #[.int .i64 r.f0, .int .i64 r.f1, .int .i64 r.f2, .int .i64 r.f3, .int .i64 r.f4, .slice B5 r.f5.length d5, .int .i64 r.f6, .slice B7 r.f7.length d7, .slice B8 r.f8.length d8, .slice B9 r.f9.length d9, .slice B10 r.f10.length d10, .int .i64 r.f11, .int .i64 r.f12], .agg #[.int .i64 5, .int .i64 m.f1, .int .i64 m.f2, .int .i64 m.f3, .int .i64 m.f4, .int .i64 m.f5, .int .i64 m.f6, .slice A m.f7.length c]] w' fun e w'' => e = .returned (.bool true) ∧ Mem w' w'' []) :=
    ⟨fun w' h => by have := mayM_calls r m B5 B7 B8 B9 B10 A d5 d7 d8 d9 d10 c w' h hn; (try unfold Kx.mA at this); rw [hm, hk] at this; exact this⟩
  rw [hk] at hcall CALL ⊢
  have M1 := Aside0.mk (((hM.alloc #[.int .i64 5, .int .i64 m.f1, .int .i64 m.f2, .int .i64 m.f3, .int .i64 m.f4, .int .i64 m.f5, .int .i64 m.f6, .slice A m.f7.length c] 27).allocAt #[.bool false] 4 (w.heap.size + 1) (by simp)).allocAt #[.nilFunc, .func (Fn.func 103) #[.pointer (some ⟨g, 0, none⟩)] #[], .func (Fn.func 104) #[.pointer (some ⟨g, 0, none⟩)] #[], .func (Fn.func 103) #[.pointer (some ⟨g, 0, none⟩)] #[], .func (Fn.func 105) #[.pointer (some ⟨g, 0, none⟩)] #[], .func (Fn.func 106) #[.pointer (some ⟨g, 0, none⟩)] #[], .func (Fn.func 107) #[.pointer (some ⟨g, 0, none⟩)] #[], .func (Fn.func 108) #[.pointer (some ⟨g, 0, none⟩)] #[], .func (Fn.func 109) #[.pointer (some ⟨g, 0, none⟩)] #[]] 122 (w.heap.size + 2) (by simp))
  clear hl hn hM hcall hm hk
  have cM := blk_cell (M1.out.blk_at 2 rfl)
  have cB := blk_cell (M1.out.blk_at 1 rfl)
  have cF := blk_cell (M1.out.blk_at 0 rfl)
  have cG := blk_cell (M1.out.blk_at 3 rfl)
  unfold Wa.wc at cG
  go_enter_defers Tryz.func65, Tryz.ntmps65
  go_wp2_with fail
  go_upto_region 3 with (fail)
  clear cM cB cF cG
  obtain ⟨wc, hwc⟩ : ∃ wc : World, ((w.alloc (Obj.cells #[.int .i64 5, .int .i64 m.f1, .int .i64 m.f2, .int .i64 m.f3, .int .i64 m.f4, .int .i64 m.f5, .int .i64 m.f6, .slice A m.f7.length c] 27)).alloc (Obj.cells #[.bool false] 4)).alloc (Obj.cells #[.nilFunc, .func (Fn.func 103) #[.pointer (some ⟨g, 0, none⟩)] #[], .func (Fn.func 104) #[.pointer (some ⟨g, 0, none⟩)] #[], .func (Fn.func 103) #[.pointer (some ⟨g, 0, none⟩)] #[], .func (Fn.func 105) #[.pointer (some ⟨g, 0, none⟩)] #[], .func (Fn.func 106) #[.pointer (some ⟨g, 0, none⟩)] #[], .func (Fn.func 107) #[.pointer (some ⟨g, 0, none⟩)] #[], .func (Fn.func 108) #[.pointer (some ⟨g, 0, none⟩)] #[], .func (Fn.func 109) #[.pointer (some ⟨g, 0, none⟩)] #[]] 122) = wc := ⟨_, rfl⟩
  rw [hwc] at M1 ⊢
  clear hwc
  have cM := blk_cell (M1.out.blk_at 2 rfl)
  have cG0 := blk_cell (M1.out.blk_at 3 rfl)
  have HG0 := Aside0.mk cG0
  have HM0 := Aside0.mk cM
  have cG := cG0
  unfold Wa.wc at cG
  clear cG0
  have M1D := Aside0.mk M1.out.drew
  have HS0 := Aside0.mk (show (∀ j : Nat, wc.drew.cell? ⟨w.heap.size, j, none⟩ = wc.cell? ⟨w.heap.size, j, none⟩) ∧ (∀ j : Nat, wc.drew.cell? ⟨g, j, none⟩ = wc.cell? ⟨g, j, none⟩) from ⟨fun _ => rfl, fun _ => rfl⟩)
  have H9 := HS0
  go_region_held3 (fun w' => (∀ j : Nat, w'.cell? ⟨w.heap.size, j, none⟩ = wc.cell? ⟨w.heap.size, j, none⟩) ∧ (∀ j : Nat, w'.cell? ⟨g, j, none⟩ = wc.cell? ⟨g, j, none⟩)) (first | with_reducible exact HS0.out | with_reducible exact H9.out | fail) ((go_at_call 110; refine (HMC.out _ (Kd.C_below HL.out M1D.out.below)).mono ?_; rintro e w1 ⟨rfl, hM⟩; have M2 := Aside0.mk (M1D.out.trans hM); clear hM; have H9 := Aside0.mk (show (∀ j : Nat, w1.cell? ⟨w.heap.size, j, none⟩ = wc.cell? ⟨w.heap.size, j, none⟩) ∧ (∀ j : Nat, w1.cell? ⟨g, j, none⟩ = wc.cell? ⟨g, j, none⟩) from ⟨fun j => (blk_cell (M2.out.blk_at 2 rfl) j).trans (HM0.out j).symm, fun j => (blk_cell (M2.out.blk_at 3 rfl) j).trans (HG0.out j).symm⟩)))
  clear H9 HS0 HM0 HG0 M1D
  have HF0 := Aside0.mk (blk_cell (M2.out.blk_at 0 rfl))
  have HM0 := Aside0.mk (blk_cell (M2.out.blk_at 2 rfl))
  have cM := HM0.out
  have cF := HF0.out
  go_wp2_with fail
  go_upto_region 5 with (fail)
  have M2D := Aside0.mk M2.out.drew
  have HS0 := Aside0.mk (show (∀ j : Nat, w1.drew.cell? ⟨w.heap.size, j, none⟩ = w1.cell? ⟨w.heap.size, j, none⟩) ∧ (∀ j : Nat, w1.drew.cell? ⟨w.heap.size + 1 + 1, j, none⟩ = w1.cell? ⟨w.heap.size + 1 + 1, j, none⟩) from ⟨fun _ => rfl, fun _ => rfl⟩)
  have H9 := HS0
  go_region_held3 (fun w' => (∀ j : Nat, w'.cell? ⟨w.heap.size, j, none⟩ = w1.cell? ⟨w.heap.size, j, none⟩) ∧ (∀ j : Nat, w'.cell? ⟨w.heap.size + 1 + 1, j, none⟩ = w1.cell? ⟨w.heap.size + 1 + 1, j, none⟩)) (first | with_reducible exact HS0.out | with_reducible exact H9.out | fail) ((go_at_call 106; refine (CALL.out (_ :: _ :: _ :: F) _ (Mem.sel (ps := [_, _, _, _, _, _, _, _, _, _]) (F := F) [3, 4, 5, 6, 7, 8, 9, 0, 1, 2] 10 M2D.out rfl rfl)).mono ?_; rintro e w2 ⟨rfl, v5', v7', v8', v9', v10', vout', hM⟩; have M3 := Aside0.mk (Mem.sel (ps := [_, _, _, _, _, _, _, _, _, _]) (F := F) [7, 8, 9, 0, 1, 2, 3, 4, 5, 6] 10 hM rfl rfl); clear hM; have H9 := Aside0.mk (show (∀ j : Nat, w2.cell? ⟨w.heap.size, j, none⟩ = w1.cell? ⟨w.heap.size, j, none⟩) ∧ (∀ j : Nat, w2.cell? ⟨w.heap.size + 1 + 1, j, none⟩ = w1.cell? ⟨w.heap.size + 1 + 1, j, none⟩) from ⟨fun j => (blk_cell (M3.out.blk_at 2 rfl) j).trans (HM0.out j).symm, fun j => (blk_cell (M3.out.blk_at 0 rfl) j).trans (HF0.out j).symm⟩)))
  clear H9 HS0 HM0 HF0 M2D
  have cB := blk_cell (M3.out.blk_at 1 rfl)
  have fB := blk_frozen (M3.out.blk_at 1 rfl)
  have hB := blk_lt (M3.out.blk_at 1 rfl)
  clear cM cF cG M1 M2
  go_wp2_with fail
  refine leaves_cons (f := 102) (args := #[.pointer (some ⟨w.heap.size + 1, 0, none⟩)]) (by simp) (by simp [go_sem]) ?_
  refine (catch_idle ⟨w.heap.size + 1, 0, none⟩ _).mono ?_
  rintro e u' w4 ⟨rfl, rfl, hM⟩
  have M4 := (M3.out.set 1 rfl 0 (.bool true)).trans hM
  have cE : w4.cell? ⟨w.heap.size + 1, 0, none⟩ = some (.bool true) := blk_cell (M4.blk_at 1 rfl) 0
  clear hM
  simp [Leaves, settle, results, Tryz.results65, go_sem, cE]
  exact ⟨_, _, _, _, _, _, Mem.sel (ps := [_, _, _, _, _, _, _, _, _, _]) (F := F) [3, 4, 5, 6, 7, 8, 9] 10 M4 rfl rfl⟩
end Go.Proofs.YtggbjokhniigkaaGreat.Tt5
namespace Go.Proofs.YtggbjokhniigkaaGreat.Tu5
open Ve Ty Go.RowKit YtggbjokhniigkaaGreatW.PrintWords YtggbjokhniigkaaGreatW.PrintLast YtggbjokhniigkaaGreatW.PrintMore Mx Kx Wa Wb Wc Wd Vc Rb Rd Sa Wj Tk Tn To Tr
theorem Take11_k5 (r : Rep) (m : Msg) (A5 A7 A8 A9 A10 A : Option Addr) (c5 c7 c8 c9 c10 c : Nat) (w : World) (h : RdRep w r A5 A7 A8 A9 A10) (hc : Fit r c5 c7 c8 c9 c10) (hs : r.f5.length ≤ 1200 ∧ r.f7.length ≤ 20 ∧ r.f8.length ≤ 20 ∧ r.f9.length ≤ 20 ∧ r.f10.length ≤ 1200) (hl : Kd.C kE w A m.f7.length m.f7) (hlc : m.f7.length ≤ c) (hln : m.f7.length ≤ 1000000) (hk : m.f0 = 5) (h1 : may r = true) (h2 : mayMsg r m = true) (s : Rep) (msgs : List Msg)
    (hcall : ∀ (F : List Res) (g : Nat) (v5 v7 v8 v9 v10 : Value) (w1 : World), Mem w w1 (blk g 25 (qc r.f0 r.f1 r.f2 r.f3 r.f4 v5 r.f6 v7 v8 v9 v10 r.f11 r.f12) :: Kx.sL r v5 v7 v8 v9 v10 F) → Kd.C kE w A m.f7.length m.f7 → Calls Tryz.prog 68 #[.pointer (some ⟨g, 0, none⟩), .agg #[.int .i64 m.f0, .int .i64 m.f1, .int .i64 m.f2, .int .i64 m.f3, .int .i64 m.f4, .int .i64 m.f5, .int .i64 m.f6, .slice A m.f7.length c]] w1 fun e w' => ∃ vout v5' v7' v8' v9' v10' : Value, e = .returned vout ∧ Mem w w' (blk g 25 (qc s.f0 s.f1 s.f2 s.f3 s.f4 v5' s.f6 v7' v8' v9' v10' s.f11 s.f12) :: row kE 68 v5' s.f5 :: row (Kd.int .i64) 3 v7' s.f7 :: row (Kd.int .i64) 3 v8' s.f8 :: row (Kd.int .i64) 3 v9' s.f9 :: row kE 68 v10' s.f10 :: row kM 27 vout msgs :: F)) :
    Calls Tryz.prog 35 #[.agg (Kx.rA r A5 A7 A8 A9 A10 c5 c7 c8 c9 c10), .agg #[.int .i64 m.f0, .int .i64 m.f1, .int .i64 m.f2, .int .i64 m.f3, .int .i64 m.f4, .int .i64 m.f5, .int .i64 m.f6, .slice A m.f7.length c]] w fun e w' => OutS w w' e s msgs 0 := by
  have E1 := Aside0.mk h1
  have CALL := Aside0.mk hcall
  have MSG : Aside0 (∀ w', Kd.C kE w' A m.f7.length m.f7 → Calls Tryz.prog 66 #[.agg (Kx.rA r A5 A7 A8 A9 A10 c5 c7 c8 c9 c10), .agg #[.int .i64 5, .int .i64 m.f1, .int .i64 m.f2, .int .i64 m.f3, .int .i64 m.f4, .int .i64 m.f5, .int .i64 m.f6, .slice A m.f7.length c]] w' fun e w'' => e = .returned (.bool true) ∧ Mem w' w'' []) :=
    ⟨fun w' h => by have := message11_calls r m A5 A7 A8 A9 A10 A c5 c7 c8 c9 c10 c w' h hlc hln; (try unfold Kx.mA at this); rw [h2, hk] at this; exact this⟩
  clear h1 h2
  rw [hk] at hcall CALL ⊢
  clear hk hcall
  have H := Aside0.mk h
  have HC := Aside0.mk hc
  have HS := Aside0.mk hs
  have HL := Aside0.mk hl
  have HLC := Aside0.mk hlc
  have HLN := Aside0.mk hln
  have M1 := Aside0.mk ((((Mem.nil w).alloc (Kx.rA r A5 A7 A8 A9 A10 c5 c7 c8 c9 c10) 25).allocAt #[.int .i64 5, .int .i64 m.f1, .int .i64 m.f2, .int .i64 m.f3, .int .i64 m.f4, .int .i64 m.f5, .int .i64 m.f6, .slice A m.f7.length c] 27 (w.heap.size + 1) (by simp)).allocAt #[.int .i64 0, .int .i64 0, .int .i64 0, .int .i64 0, .int .i64 0, .slice none 0 0, .int .i64 0, .slice none 0 0, .slice none 0 0, .slice none 0 0, .slice none 0 0, .int .i64 0, .int .i64 0] 25 (w.heap.size + 2) (by simp))
  clear h hc hs hl hlc hln
  go_enter Tryz.func35, Tryz.ntmps35
  go_wp2_with fail
  refine (May11_calls r A5 A7 A8 A9 A10 c5 c7 c8 c9 c10 _ (H.out.below M1.out.below) HC.out HS.out).mono ?_
  rintro e w1 ⟨he, hb⟩
  rw [E1.out] at he
  subst he
  have M2 := Aside0.mk (M1.out.grow hb)
  clear hb M1
  have cR := blk_cell (M2.out.blk_at 2 rfl)
  have cM := blk_cell (M2.out.blk_at 1 rfl)
  have cZ := blk_cell (M2.out.blk_at 0 rfl)
  have fZ := blk_frozen (M2.out.blk_at 0 rfl)
  go_wp2_with fail
  refine (MSG.out _ (Kd.C_below HL.out M2.out.below)).mono ?_
  rintro e w2 ⟨rfl, hM⟩
  have M3 := Aside0.mk (Mem.sel (ps := [_, _, _]) (F := []) [0, 1, 2] 3 (M2.out.trans hM) rfl rfl)
  clear hM M2 cR cM cZ fZ
  have cR := blk_cell (M3.out.blk_at 2 rfl)
  have cM := blk_cell (M3.out.blk_at 1 rfl)
  have cZ := blk_cell (M3.out.blk_at 0 rfl)
  have fZ := blk_frozen (M3.out.blk_at 0 rfl)
  go_wp2_with fail
  refine (Copy11_calls r A5 A7 A8 A9 A10 c5 c7 c8 c9 c10 _ (H.out.below M3.out.below) ⟨Nat.le_trans HS.out.1 (by decide), Nat.le_trans HS.out.2.1 (by decide), Nat.le_trans HS.out.2.2.1 (by decide), Nat.le_trans HS.out.2.2.2.1 (by decide), Nat.le_trans HS.out.2.2.2.2 (by decide)⟩).mono ?_
  rintro e w3 ⟨v5, v7, v8, v9, v10, rfl, hM⟩
  unfold rc
  obtain ⟨B5, d5, rfl, _, _⟩ := hM.row_at 0 rfl
  obtain ⟨B7, d7, rfl, _, _⟩ := hM.row_at 1 rfl
  obtain ⟨B8, d8, rfl, _, _⟩ := hM.row_at 2 rfl
  obtain ⟨B9, d9, rfl, _, _⟩ := hM.row_at 3 rfl
  obtain ⟨B10, d10, rfl, hd10, _⟩ := hM.row_at 4 rfl
  have M4 := Aside0.mk ((Mem.sel (ps := [_, _, _, _, _, _, _, _]) (F := []) [0, 1, 2, 3, 4, 5, 6, 7] 8 (M3.out.trans hM) rfl rfl).allocAt #[.int .i64 r.f0, .int .i64 r.f1, .int .i64 r.f2, .int .i64 r.f3, .int .i64 r.f4, .slice B5 r.f5.length d5, .int .i64 r.f6, .slice B7 r.f7.length d7, .slice B8 r.f8.length d8, .slice B9 r.f9.length d9, .slice B10 r.f10.length d10, .int .i64 r.f11, .int .i64 r.f12] 25 w3.heap.size rfl)
  clear hM M3 cR cM cZ fZ
  have cX := blk_cell (M4.out.blk_at 0 rfl)
  have cM := blk_cell (M4.out.blk_at 7 rfl)
  have cZ := blk_cell (M4.out.blk_at 6 rfl)
  have fZ := blk_frozen (M4.out.blk_at 6 rfl)
  have hbX := blk_lt (M4.out.blk_at 0 rfl)
  have hbZ := blk_lt (M4.out.blk_at 6 rfl)
  go_wp2_with fail
  refine (CALL.out _ w3.heap.size _ _ _ _ _ _ (Mem.sel (ps := [_, _, _, _, _, _, _, _, _]) (F := []) [0, 1, 2, 3, 4, 5, 6, 7, 8] 9 M4.out rfl rfl) HL.out).mono ?_
  rintro e w4 ⟨vo, v5, v7, v8, v9, v10, rfl, hM⟩
  obtain ⟨S5, s5, rfl, _, _⟩ := hM.row_at 1 rfl
  obtain ⟨S7, s7, rfl, _, _⟩ := hM.row_at 2 rfl
  obtain ⟨S8, s8, rfl, _, _⟩ := hM.row_at 3 rfl
  obtain ⟨S9, s9, rfl, _, _⟩ := hM.row_at 4 rfl
  obtain ⟨S10, s10, rfl, _, _⟩ := hM.row_at 5 rfl
  obtain ⟨So, so, rfl, _, _⟩ := hM.row_at 6 rfl
  have M5 := Aside0.mk (Mem.sel (ps := [_, _, _, _, _, _, _, _, _, _]) (F := []) [1, 2, 3, 4, 5, 6, 0, 7, 8, 9] 10 hM rfl rfl)
  clear hM M4 cX cM cZ fZ hbX hbZ
  have cX := blk_cell (M5.out.blk_at 6 rfl)
  have cZ := blk_cell (M5.out.blk_at 7 rfl)
  have fZ := blk_frozen (M5.out.blk_at 7 rfl)
  have hbX := blk_lt (M5.out.blk_at 6 rfl)
  have hbZ := blk_lt (M5.out.blk_at 7 rfl)
  unfold qc at cX
  go_wp2_with fail
  all_goals
    have MF := (M5.out.setRow 7 rfl [.int .i64 s.f0, .int .i64 s.f1, .int .i64 s.f2, .int .i64 s.f3, .int .i64 s.f4, .slice S5 s.f5.length s5, .int .i64 s.f6, .slice S7 s.f7.length s7, .slice S8 s.f8.length s8, .slice S9 s.f9.length s9, .slice S10 s.f10.length s10, .int .i64 s.f11, .int .i64 s.f12] rfl)
    have hgF := MF.blk_at 7 rfl
    refine bodyPost_ret (results_list (rs := [.cell 4 25, .tmp 5, .tmp 6]) rfl (by simp) (.cell (w.heap.size + 2) 25 #[.int .i64 s.f0, .int .i64 s.f1, .int .i64 s.f2, .int .i64 s.f3, .int .i64 s.f4, .slice S5 s.f5.length s5, .int .i64 s.f6, .slice S7 s.f7.length s7, .slice S8 s.f8.length s8, .slice S9 s.f9.length s9, .slice S10 s.f10.length s10, .int .i64 s.f11, .int .i64 s.f12] (0, 0) _ rfl hgF Tryz.underlying25 rfl (by kernel_rfl) (.tmp (.tmp .nil)))) rfl ?_
    exact OutS_of (Mem.sel (ps := [_, _, _, _, _, _, _, _, _, _]) (F := []) [0, 1, 2, 3, 4, 5] 10 MF rfl rfl)
end Go.Proofs.YtggbjokhniigkaaGreat.Tu5
namespace Go.Proofs.YtggbjokhniigkaaGreat.Ub5
open Ty Go.RowKit YtggbjokhniigkaaGreatW.PrintWords YtggbjokhniigkaaGreatW.PrintLast YtggbjokhniigkaaGreatW.PrintMore Mx Kx Wa Wb Wc Wd Vc Sa Wj Tk Tb Tn Tt Tx Tr Tz Ua Tt5 Tu5
theorem both_5 (r : Rep) (m : Msg) (A5 A7 A8 A9 A10 A : Option Addr) (c5 c7 c8 c9 c10 c : Nat) (hk : m.f0 = 5) (hc : Fit r c5 c7 c8 c9 c10) (hs : r.f5.length ≤ 1200 ∧ r.f7.length ≤ 20 ∧ r.f8.length ≤ 20 ∧ r.f9.length ≤ 20 ∧ r.f10.length ≤ 1200) (hln : m.f7.length ≤ 1200) (hlc : m.f7.length ≤ c)
    (hgood : may r = true → mayM r m = true → ∃ (s : Rep) (msgs : List Msg), FewOf s msgs ∧
      (∀ (w0 w : World) (F : List Res) (g : Nat) (v5 v7 v8 v9 v10 : Value), Mem w0 w (blk g 95 (Wa.wc r.f0 r.f1 r.f2 r.f3 r.f4 v5 r.f6 v7 v8 v9 v10 r.f11 r.f12 (.slice none 0 0)) :: row kM 27 (.slice none 0 0) [] :: Kx.sL r v5 v7 v8 v9 v10 F) → Kd.C kE w0 A m.f7.length m.f7 → Calls Tryz.prog 106 #[.pointer (some ⟨g, 0, none⟩), .agg (Kx.mA m A c)] w fun e w' => e = .returned (.tuple #[]) ∧ ∃ v5' v7' v8' v9' v10' vout' : Value, Mem w0 w' (blk g 95 (Wa.wc s.f0 s.f1 s.f2 s.f3 s.f4 v5' s.f6 v7' v8' v9' v10' s.f11 s.f12 vout') :: row kM 27 vout' msgs :: Kx.sL s v5' v7' v8' v9' v10' F)) ∧
      (∀ (w0 w : World) (F : List Res) (g : Nat) (v5 v7 v8 v9 v10 : Value), Mem w0 w (blk g 25 (qc r.f0 r.f1 r.f2 r.f3 r.f4 v5 r.f6 v7 v8 v9 v10 r.f11 r.f12) :: Kx.sL r v5 v7 v8 v9 v10 F) → Kd.C kE w0 A m.f7.length m.f7 → Calls Tryz.prog 68 #[.pointer (some ⟨g, 0, none⟩), .agg (Kx.mA m A c)] w fun e w' => ∃ vout v5' v7' v8' v9' v10' : Value, e = .returned vout ∧ Mem w0 w' (blk g 25 (qc s.f0 s.f1 s.f2 s.f3 s.f4 v5' s.f6 v7' v8' v9' v10' s.f11 s.f12) :: row kE 68 v5' s.f5 :: row (Kd.int .i64) 3 v7' s.f7 :: row (Kd.int .i64) 3 v8' s.f8 :: row (Kd.int .i64) 3 v9' s.f9 :: row kE 68 v10' s.f10 :: row kM 27 vout msgs :: F))) : TakesAs r m A5 A7 A8 A9 A10 A c5 c7 c8 c9 c10 c := by
  refine takesAs_of r m A5 A7 A8 A9 A10 A c5 c7 c8 c9 c10 c (by omega) (by omega) hc hs hln hlc fun h1 h2 => ?_
  obtain ⟨s, msgs, hf, g1, g2⟩ := hgood h1 h2
  have hn : Small r := ⟨Nat.le_trans hs.1 (by decide), Nat.le_trans hs.2.1 (by decide), Nat.le_trans hs.2.2.1 (by decide), Nat.le_trans hs.2.2.2.1 (by decide), Nat.le_trans hs.2.2.2.2 (by decide)⟩
  refine ⟨s, msgs, hf, fun w h hl => ?_, fun w h hl => ?_⟩
  · exact Take_ok r m A5 A7 A8 A9 A10 A c5 c7 c8 c9 c10 c w h hn hl h1 s msgs (fun w0 w F g v5 v7 v8 v9 v10 hM hl => takes_5 w0 w F g r s m v5 v7 v8 v9 v10 (.slice none 0 0) msgs A c hk h2 hM hl (Nat.le_trans hln (by decide)) (fun F w hM => g1 w0 w F g v5 v7 v8 v9 v10 hM hl))
  · exact Take11_k5 r m A5 A7 A8 A9 A10 A c5 c7 c8 c9 c10 c w h hc hs hl hlc (Nat.le_trans hln (by decide)) hk h1 ((mayMsg_in r m (by omega) (by omega)).trans h2) s msgs (fun F g v5 v7 v8 v9 v10 w1 hM hl => g2 w w1 F g v5 v7 v8 v9 v10 hM hl)
end Go.Proofs.YtggbjokhniigkaaGreat.Ub5
namespace Go.Proofs.YtggbjokhniigkaaGreat.Uc5
open Ty Go.RowKit YtggbjokhniigkaaGreatW.PrintWords YtggbjokhniigkaaGreatW.PrintLast YtggbjokhniigkaaGreatW.PrintMore Mx Kx Wa Wd Vc Wj Tk Tb Tn Tz Ua Un Ub5 Cx
theorem few_lim {s : Rep} {ms : List Msg} (h : Lim s ms) : FewOf s ms :=
  ⟨⟨Nat.le_trans h.l5 (by decide), Nat.le_trans h.l5 (by decide), Nat.le_trans h.l7 (by decide), Nat.le_trans h.l8 (by decide), Nat.le_trans h.l9 (by decide), Nat.le_trans h.l10 (by decide)⟩, Nat.le_trans h.lm (by decide), rd_f7 (fun x hx => Nat.le_trans (h.lx x hx) (by decide))⟩
theorem good_5 (r : Rep) (m : Msg) (A5 A7 A8 A9 A10 A : Option Addr) (c5 c7 c8 c9 c10 c : Nat) (hk : m.f0 = 5) (hc : Fit r c5 c7 c8 c9 c10) (hs : r.f5.length ≤ 1200 ∧ r.f7.length ≤ 20 ∧ r.f8.length ≤ 20 ∧ r.f9.length ≤ 20 ∧ r.f10.length ≤ 1200) (hln : m.f7.length ≤ 1200) (hlc : m.f7.length ≤ c) : TakesAs r m A5 A7 A8 A9 A10 A c5 c7 c8 c9 c10 c := by
  refine both_5 r m A5 A7 A8 A9 A10 A c5 c7 c8 c9 c10 c hk hc hs hln hlc fun h1 h2 => ?_
  have n := nums (by omega) (by omega) h1 h2
  have P := (may_iff r).1 h1
  have i8 := (Tq.ids_pair _ _ _ (show idsFrom r.f1 (-1) r.f8 = true from P.2.2.2.2.2.2.2.2.2.2.2.2.2.2.1)).1
  have i9 := (Tq.ids_pair _ _ _ (show idsFrom r.f1 (-1) r.f9 = true from P.2.2.2.2.2.2.2.2.2.2.2.2.2.2.2.1)).1
  have f8 : r.f8.Pairwise (fun a b => a < b) ∧ r.f8.length ≤ 20 := ⟨i8, hs.2.2.1⟩
  have fr : Fine r := ⟨n.i0, n.i1, n.n5, n.w0, n.w1, hs.1, i9, hs.2.2.2.1, hs.2.2.2.2⟩
  exact ⟨(tState r m).1, (tState r m).2, few_lim (tState_lim fr hs.2.1 hs.2.2.1 n.v0 n.v1 hln), fun w0 w F g v5 v7 v8 v9 v10 hM hl => Cs.state_calls w0 w F g r _ m v5 v7 v8 v9 v10 (.slice none 0 0) [] _ A c hM ⟨fr, fun w' h => Kd.C_below hl h.below, n.v0, n.v1, hln, hlc, Nat.zero_le _⟩ rfl, fun w0 w F g v5 v7 v8 v9 v10 hM hl => Ct.state11_calls w0 w F g r _ m v5 v7 v8 v9 v10 _ A c hM ⟨fr, fun w' h => Kd.C_below hl h.below, n.v0, n.v1, hln⟩ rfl⟩
end Go.Proofs.YtggbjokhniigkaaGreat.Uc5
namespace Go.Proofs.YtggbjokhniigkaaGreat.Tt6
open Ty Go.RowKit YtggbjokhniigkaaGreatW.PrintWords YtggbjokhniigkaaGreatW.PrintLast YtggbjokhniigkaaGreatW.PrintMore Mx Kx Wa Wb Ta Tb
theorem takes_6 (w0 w : World) (F : List Res) (g : Nat) (r s : Rep) (m : Msg) (v5 v7 v8 v9 v10 vout : Value) (out : List Msg) (A : Option Addr) (c : Nat) (hk : m.f0 = 6) (hm : mayM r m = true)
    (hM : Mem w0 w (blk g 95 (Wa.wc r.f0 r.f1 r.f2 r.f3 r.f4 v5 r.f6 v7 v8 v9 v10 r.f11 r.f12 vout) :: row kM 27 vout [] :: Kx.sL r v5 v7 v8 v9 v10 F)) (hl : Kd.C kE w0 A m.f7.length m.f7) (hn : m.f7.length ≤ 1000000000)
    (hcall : ∀ (F : List Res) (w : World), Mem w0 w (blk g 95 (Wa.wc r.f0 r.f1 r.f2 r.f3 r.f4 v5 r.f6 v7 v8 v9 v10 r.f11 r.f12 vout) :: row kM 27 vout [] :: Kx.sL r v5 v7 v8 v9 v10 F) → Calls Tryz.prog 107 #[.pointer (some ⟨g, 0, none⟩), .agg #[.int .i64 m.f0, .int .i64 m.f1, .int .i64 m.f2, .int .i64 m.f3, .int .i64 m.f4, .int .i64 m.f5, .int .i64 m.f6, .slice A m.f7.length c]] w fun e w' => e = .returned (.tuple #[]) ∧ ∃ v5' v7' v8' v9' v10' vout' : Value, Mem w0 w' (blk g 95 (Wa.wc s.f0 s.f1 s.f2 s.f3 s.f4 v5' s.f6 v7' v8' v9' v10' s.f11 s.f12 vout') :: row kM 27 vout' out :: Kx.sL s v5' v7' v8' v9' v10' F)) :
    Calls Tryz.prog 65 #[.pointer (some ⟨g, 0, none⟩), .agg #[.int .i64 m.f0, .int .i64 m.f1, .int .i64 m.f2, .int .i64 m.f3, .int .i64 m.f4, .int .i64 m.f5, .int .i64 m.f6, .slice A m.f7.length c]] w fun e w' => e = .returned (.bool true) ∧ ∃ v5' v7' v8' v9' v10' vout' : Value, Mem w0 w' (blk g 95 (Wa.wc s.f0 s.f1 s.f2 s.f3 s.f4 v5' s.f6 v7' v8' v9' v10' s.f11 s.f12 vout') :: row kM 27 vout' out :: Kx.sL s v5' v7' v8' v9' v10' F) := by
  have hmf : ∀ (fn : Fn) (first cap : Array Value) (w : World), (Instr.makeFunc fn first cap).run Tryz.prog w = .ok (.func fn first cap) w := fun _ _ _ _ => rfl
  have HMF := Aside0.mk hmf
  obtain ⟨B5, d5, rfl, _, _⟩ := hM.row_at 2 rfl
  obtain ⟨B7, d7, rfl, _, _⟩ := hM.row_at 3 rfl
  obtain ⟨B8, d8, rfl, _, _⟩ := hM.row_at 4 rfl
  obtain ⟨B9, d9, rfl, _, _⟩ := hM.row_at 5 rfl
  obtain ⟨B10, d10, rfl, _, _⟩ := hM.row_at 6 rfl
  have HL := Aside0.mk hl
  have HN := Aside0.mk hn
  have CALL := Aside0.mk hcall
  have HMB := Aside0.mk hm
  have HMC : Aside0 (∀ w', Kd.C kE w' A m.f7.length m.f7 → Calls Tryz.prog 110 #[.agg #[.int .i64 r.f0, .int .i64 r.f1, .int .i64 r.f2, .int .i64 r.f3, .int .i64 r.f4, .slice B5 r.f5.length d5, .int .i64 r.f6, .slice B7 r.f7.length d7, .slice B8 r.f8.length d8, .slice B9 r.f9.length d9, .slice B10 r.f10.length d10, .int .i64 r.f11, .int .i64 r.f12], .agg #[.int .i64 6, .int .i64 m.f1, .int .i64 m.f2, .int .i64 m.f3, .int .i64 m.f4, .int .i64 m.f5, .int .i64 m.f6, .slice A m.f7.length c]] w' fun e w'' => e = .returned (.bool true) ∧ Mem w' w'' []) :=
    ⟨fun w' h => by have := mayM_calls r m B5 B7 B8 B9 B10 A d5 d7 d8 d9 d10 c w' h hn; (try unfold Kx.mA at this); rw [hm, hk] at this; exact this⟩
  rw [hk] at hcall CALL ⊢
  have M1 := Aside0.mk (((hM.alloc #[.int .i64 6, .int .i64 m.f1, .int .i64 m.f2, .int .i64 m.f3, .int .i64 m.f4, .int .i64 m.f5, .int .i64 m.f6, .slice A m.f7.length c] 27).allocAt #[.bool false] 4 (w.heap.size + 1) (by simp)).allocAt #[.nilFunc, .func (Fn.func 103) #[.pointer (some ⟨g, 0, none⟩)] #[], .func (Fn.func 104) #[.pointer (some ⟨g, 0, none⟩)] #[], .func (Fn.func 103) #[.pointer (some ⟨g, 0, none⟩)] #[], .func (Fn.func 105) #[.pointer (some ⟨g, 0, none⟩)] #[], .func (Fn.func 106) #[.pointer (some ⟨g, 0, none⟩)] #[], .func (Fn.func 107) #[.pointer (some ⟨g, 0, none⟩)] #[], .func (Fn.func 108) #[.pointer (some ⟨g, 0, none⟩)] #[], .func (Fn.func 109) #[.pointer (some ⟨g, 0, none⟩)] #[]] 122 (w.heap.size + 2) (by simp))
  clear hl hn hM hcall hm hk
  have cM := blk_cell (M1.out.blk_at 2 rfl)
  have cB := blk_cell (M1.out.blk_at 1 rfl)
  have cF := blk_cell (M1.out.blk_at 0 rfl)
  have cG := blk_cell (M1.out.blk_at 3 rfl)
  unfold Wa.wc at cG
  go_enter_defers Tryz.func65, Tryz.ntmps65
  go_wp2_with fail
  go_upto_region 3 with (fail)
  clear cM cB cF cG
  obtain ⟨wc, hwc⟩ : ∃ wc : World, ((w.alloc (Obj.cells #[.int .i64 6, .int .i64 m.f1, .int .i64 m.f2, .int .i64 m.f3, .int .i64 m.f4, .int .i64 m.f5, .int .i64 m.f6, .slice A m.f7.length c] 27)).alloc (Obj.cells #[.bool false] 4)).alloc (Obj.cells #[.nilFunc, .func (Fn.func 103) #[.pointer (some ⟨g, 0, none⟩)] #[], .func (Fn.func 104) #[.pointer (some ⟨g, 0, none⟩)] #[], .func (Fn.func 103) #[.pointer (some ⟨g, 0, none⟩)] #[], .func (Fn.func 105) #[.pointer (some ⟨g, 0, none⟩)] #[], .func (Fn.func 106) #[.pointer (some ⟨g, 0, none⟩)] #[], .func (Fn.func 107) #[.pointer (some ⟨g, 0, none⟩)] #[], .func (Fn.func 108) #[.pointer (some ⟨g, 0, none⟩)] #[], .func (Fn.func 109) #[.pointer (some ⟨g, 0, none⟩)] #[]] 122) = wc := ⟨_, rfl⟩
  rw [hwc] at M1 ⊢
  clear hwc
  have cM := blk_cell (M1.out.blk_at 2 rfl)
  have cG0 := blk_cell (M1.out.blk_at 3 rfl)
  have HG0 := Aside0.mk cG0
  have HM0 := Aside0.mk cM
  have cG := cG0
  unfold Wa.wc at cG
  clear cG0
  have M1D := Aside0.mk M1.out.drew
  have HS0 := Aside0.mk (show (∀ j : Nat, wc.drew.cell? ⟨w.heap.size, j, none⟩ = wc.cell? ⟨w.heap.size, j, none⟩) ∧ (∀ j : Nat, wc.drew.cell? ⟨g, j, none⟩ = wc.cell? ⟨g, j, none⟩) from ⟨fun _ => rfl, fun _ => rfl⟩)
  have H9 := HS0
  go_region_held3 (fun w' => (∀ j : Nat, w'.cell? ⟨w.heap.size, j, none⟩ = wc.cell? ⟨w.heap.size, j, none⟩) ∧ (∀ j : Nat, w'.cell? ⟨g, j, none⟩ = wc.cell? ⟨g, j, none⟩)) (first | with_reducible exact HS0.out | with_reducible exact H9.out | fail) ((go_at_call 110; refine (HMC.out _ (Kd.C_below HL.out M1D.out.below)).mono ?_; rintro e w1 ⟨rfl, hM⟩; have M2 := Aside0.mk (M1D.out.trans hM); clear hM; have H9 := Aside0.mk (show (∀ j : Nat, w1.cell? ⟨w.heap.size, j, none⟩ = wc.cell? ⟨w.heap.size, j, none⟩) ∧ (∀ j : Nat, w1.cell? ⟨g, j, none⟩ = wc.cell? ⟨g, j, none⟩) from ⟨fun j => (blk_cell (M2.out.blk_at 2 rfl) j).trans (HM0.out j).symm, fun j => (blk_cell (M2.out.blk_at 3 rfl) j).trans (HG0.out j).symm⟩)))
  clear H9 HS0 HM0 HG0 M1D
  have HF0 := Aside0.mk (blk_cell (M2.out.blk_at 0 rfl))
  have HM0 := Aside0.mk (blk_cell (M2.out.blk_at 2 rfl))
  have cM := HM0.out
  have cF := HF0.out
  go_wp2_with fail
  go_upto_region 5 with (fail)
  have M2D := Aside0.mk M2.out.drew
  have HS0 := Aside0.mk (show (∀ j : Nat, w1.drew.cell? ⟨w.heap.size, j, none⟩ = w1.cell? ⟨w.heap.size, j, none⟩) ∧ (∀ j : Nat, w1.drew.cell? ⟨w.heap.size + 1 + 1, j, none⟩ = w1.cell? ⟨w.heap.size + 1 + 1, j, none⟩) from ⟨fun _ => rfl, fun _ => rfl⟩)
  have H9 := HS0
  go_region_held3 (fun w' => (∀ j : Nat, w'.cell? ⟨w.heap.size, j, none⟩ = w1.cell? ⟨w.heap.size, j, none⟩) ∧ (∀ j : Nat, w'.cell? ⟨w.heap.size + 1 + 1, j, none⟩ = w1.cell? ⟨w.heap.size + 1 + 1, j, none⟩)) (first | with_reducible exact HS0.out | with_reducible exact H9.out | fail) ((go_at_call 107; refine (CALL.out (_ :: _ :: _ :: F) _ (Mem.sel (ps := [_, _, _, _, _, _, _, _, _, _]) (F := F) [3, 4, 5, 6, 7, 8, 9, 0, 1, 2] 10 M2D.out rfl rfl)).mono ?_; rintro e w2 ⟨rfl, v5', v7', v8', v9', v10', vout', hM⟩; have M3 := Aside0.mk (Mem.sel (ps := [_, _, _, _, _, _, _, _, _, _]) (F := F) [7, 8, 9, 0, 1, 2, 3, 4, 5, 6] 10 hM rfl rfl); clear hM; have H9 := Aside0.mk (show (∀ j : Nat, w2.cell? ⟨w.heap.size, j, none⟩ = w1.cell? ⟨w.heap.size, j, none⟩) ∧ (∀ j : Nat, w2.cell? ⟨w.heap.size + 1 + 1, j, none⟩ = w1.cell? ⟨w.heap.size + 1 + 1, j, none⟩) from ⟨fun j => (blk_cell (M3.out.blk_at 2 rfl) j).trans (HM0.out j).symm, fun j => (blk_cell (M3.out.blk_at 0 rfl) j).trans (HF0.out j).symm⟩)))
  clear H9 HS0 HM0 HF0 M2D
  have cB := blk_cell (M3.out.blk_at 1 rfl)
  have fB := blk_frozen (M3.out.blk_at 1 rfl)
  have hB := blk_lt (M3.out.blk_at 1 rfl)
  clear cM cF cG M1 M2
  go_wp2_with fail
  refine leaves_cons (f := 102) (args := #[.pointer (some ⟨w.heap.size + 1, 0, none⟩)]) (by simp) (by simp [go_sem]) ?_
  refine (catch_idle ⟨w.heap.size + 1, 0, none⟩ _).mono ?_
  rintro e u' w4 ⟨rfl, rfl, hM⟩
  have M4 := (M3.out.set 1 rfl 0 (.bool true)).trans hM
  have cE : w4.cell? ⟨w.heap.size + 1, 0, none⟩ = some (.bool true) := blk_cell (M4.blk_at 1 rfl) 0
  clear hM
  simp [Leaves, settle, results, Tryz.results65, go_sem, cE]
  exact ⟨_, _, _, _, _, _, Mem.sel (ps := [_, _, _, _, _, _, _, _, _, _]) (F := F) [3, 4, 5, 6, 7, 8, 9] 10 M4 rfl rfl⟩
end Go.Proofs.YtggbjokhniigkaaGreat.Tt6
