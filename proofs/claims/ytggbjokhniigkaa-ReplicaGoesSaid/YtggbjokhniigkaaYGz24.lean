/- Texts laid together: Tt6, Tt8, Iu, Gt. No condition. -/
import Derived.Deep.RegionHeld3
import Derived.Test.YtggbjokhniigkaaYGz20
import Derived.Test.YtggbjokhniigkaaYGz21
import Derived.Test.YtggbjokhniigkaaYGz22
import Derived.Test.YtggbjokhniigkaaYGz23
set_option linter.unusedVariables false
set_option linter.unusedSimpArgs false
set_option maxRecDepth 100000
set_option maxHeartbeats 8000000
namespace Go.Proofs.Ytggbjokhniigkaa.Tt6
open Ty Go.RowKit YtggbjokhniigkaaW.PrintWords YtggbjokhniigkaaW.PrintLast YtggbjokhniigkaaW.PrintMore Mx Kx Wa Wb Ta Tb
theorem takes_6 (w0 w : World) (F : List Res) (g : Nat) (r s : Rep) (m : Msg) (v5 v7 v8 v9 v10 vout : Value) (out : List Msg) (A : Option Addr) (c : Nat) (hk : m.f0 = 6) (hm : mayM r m = true)
    (hM : Mem w0 w (blk g 99 (Wa.wc r.f0 r.f1 r.f2 r.f3 r.f4 v5 r.f6 v7 v8 v9 v10 r.f11 r.f12 vout) :: row kM 29 vout [] :: Kx.sL r v5 v7 v8 v9 v10 F)) (hl : Kd.C kE w0 A m.f7.length m.f7) (hn : m.f7.length ≤ 1000000000)
    (hcall : ∀ (F : List Res) (w : World), Mem w0 w (blk g 99 (Wa.wc r.f0 r.f1 r.f2 r.f3 r.f4 v5 r.f6 v7 v8 v9 v10 r.f11 r.f12 vout) :: row kM 29 vout [] :: Kx.sL r v5 v7 v8 v9 v10 F) → Calls Try.prog 100 #[.pointer (some ⟨g, 0, none⟩), .agg #[.int .i64 m.f0, .int .i64 m.f1, .int .i64 m.f2, .int .i64 m.f3, .int .i64 m.f4, .int .i64 m.f5, .int .i64 m.f6, .slice A m.f7.length c]] w fun e w' => e = .returned (.tuple #[]) ∧ ∃ v5' v7' v8' v9' v10' vout' : Value, Mem w0 w' (blk g 99 (Wa.wc s.f0 s.f1 s.f2 s.f3 s.f4 v5' s.f6 v7' v8' v9' v10' s.f11 s.f12 vout') :: row kM 29 vout' out :: Kx.sL s v5' v7' v8' v9' v10' F)) :
    Calls Try.prog 86 #[.pointer (some ⟨g, 0, none⟩), .agg #[.int .i64 m.f0, .int .i64 m.f1, .int .i64 m.f2, .int .i64 m.f3, .int .i64 m.f4, .int .i64 m.f5, .int .i64 m.f6, .slice A m.f7.length c]] w fun e w' => e = .returned (.bool true) ∧ ∃ v5' v7' v8' v9' v10' vout' : Value, Mem w0 w' (blk g 99 (Wa.wc s.f0 s.f1 s.f2 s.f3 s.f4 v5' s.f6 v7' v8' v9' v10' s.f11 s.f12 vout') :: row kM 29 vout' out :: Kx.sL s v5' v7' v8' v9' v10' F) := by
  have hmf : ∀ (fn : Fn) (first cap : Array Value) (w : World), (Instr.makeFunc fn first cap).run Try.prog w = .ok (.func fn first cap) w := fun _ _ _ _ => rfl
  have HMF := Aside0.mk hmf
  obtain ⟨B5, d5, rfl, _, _⟩ := hM.row_at 2 rfl
  obtain ⟨B7, d7, rfl, _, _⟩ := hM.row_at 3 rfl
  obtain ⟨B8, d8, rfl, _, _⟩ := hM.row_at 4 rfl
  obtain ⟨B9, d9, rfl, _, _⟩ := hM.row_at 5 rfl
  obtain ⟨B10, d10, rfl, _, _⟩ := hM.row_at 6 rfl
  have HL := Aside0.mk hl
  have HN := Aside0.mk hn
  have CALL := Aside0.mk hcall
  have HMB := Aside0.mk hm
  have HMC : Aside0 (∀ w', Kd.C kE w' A m.f7.length m.f7 → Calls Try.prog 103 #[.agg #[.int .i64 r.f0, .int .i64 r.f1, .int .i64 r.f2, .int .i64 r.f3, .int .i64 r.f4, .slice B5 r.f5.length d5, .int .i64 r.f6, .slice B7 r.f7.length d7, .slice B8 r.f8.length d8, .slice B9 r.f9.length d9, .slice B10 r.f10.length d10, .int .i64 r.f11, .int .i64 r.f12], .agg #[.int .i64 6, .int .i64 m.f1, .int .i64 m.f2, .int .i64 m.f3, .int .i64 m.f4, .int .i64 m.f5, .int .i64 m.f6, .slice A m.f7.length c]] w' fun e w'' => e = .returned (.bool true) ∧ Mem w' w'' []) :=
    ⟨fun w' h => by have := mayM_calls r m B5 B7 B8 B9 B10 A d5 d7 d8 d9 d10 c w' h hn; (try unfold Kx.mA at this); rw [hm, hk] at this; exact this⟩
  rw [hk] at hcall CALL ⊢
  have M1 := Aside0.mk (((hM.alloc #[.int .i64 6, .int .i64 m.f1, .int .i64 m.f2, .int .i64 m.f3, .int .i64 m.f4, .int .i64 m.f5, .int .i64 m.f6, .slice A m.f7.length c] 29).allocAt #[.bool false] 4 (w.heap.size + 1) (by simp)).allocAt #[.nilFunc, .func (Fn.func 96) #[.pointer (some ⟨g, 0, none⟩)] #[], .func (Fn.func 97) #[.pointer (some ⟨g, 0, none⟩)] #[], .func (Fn.func 96) #[.pointer (some ⟨g, 0, none⟩)] #[], .func (Fn.func 98) #[.pointer (some ⟨g, 0, none⟩)] #[], .func (Fn.func 99) #[.pointer (some ⟨g, 0, none⟩)] #[], .func (Fn.func 100) #[.pointer (some ⟨g, 0, none⟩)] #[], .func (Fn.func 101) #[.pointer (some ⟨g, 0, none⟩)] #[], .func (Fn.func 102) #[.pointer (some ⟨g, 0, none⟩)] #[]] 103 (w.heap.size + 2) (by simp))
  clear hl hn hM hcall hm hk
  have cM := blk_cell (M1.out.blk_at 2 rfl)
  have cB := blk_cell (M1.out.blk_at 1 rfl)
  have cF := blk_cell (M1.out.blk_at 0 rfl)
  have cG := blk_cell (M1.out.blk_at 3 rfl)
  unfold Wa.wc at cG
  go_enter_defers Try.func86, Try.ntmps86
  go_wp2_with fail
  go_upto_region 3 with (fail)
  clear cM cB cF cG
  obtain ⟨wc, hwc⟩ : ∃ wc : World, ((w.alloc (Obj.cells #[.int .i64 6, .int .i64 m.f1, .int .i64 m.f2, .int .i64 m.f3, .int .i64 m.f4, .int .i64 m.f5, .int .i64 m.f6, .slice A m.f7.length c] 29)).alloc (Obj.cells #[.bool false] 4)).alloc (Obj.cells #[.nilFunc, .func (Fn.func 96) #[.pointer (some ⟨g, 0, none⟩)] #[], .func (Fn.func 97) #[.pointer (some ⟨g, 0, none⟩)] #[], .func (Fn.func 96) #[.pointer (some ⟨g, 0, none⟩)] #[], .func (Fn.func 98) #[.pointer (some ⟨g, 0, none⟩)] #[], .func (Fn.func 99) #[.pointer (some ⟨g, 0, none⟩)] #[], .func (Fn.func 100) #[.pointer (some ⟨g, 0, none⟩)] #[], .func (Fn.func 101) #[.pointer (some ⟨g, 0, none⟩)] #[], .func (Fn.func 102) #[.pointer (some ⟨g, 0, none⟩)] #[]] 103) = wc := ⟨_, rfl⟩
  rw [hwc] at M1 ⊢
  clear hwc
  have cM := blk_cell (M1.out.blk_at 2 rfl)
  have cG0 := blk_cell (M1.out.blk_at 3 rfl)
  have HG0 := Aside0.mk cG0
  have HM0 := Aside0.mk cM
  have cG := cG0
  unfold Wa.wc at cG
  clear cG0
  have M1D := Aside0.mk M1.out.drew
  have HS0 := Aside0.mk (show (∀ j : Nat, wc.drew.cell? ⟨w.heap.size, j, none⟩ = wc.cell? ⟨w.heap.size, j, none⟩) ∧ (∀ j : Nat, wc.drew.cell? ⟨g, j, none⟩ = wc.cell? ⟨g, j, none⟩) from ⟨fun _ => rfl, fun _ => rfl⟩)
  have H9 := HS0
  go_region_held3 (fun w' => (∀ j : Nat, w'.cell? ⟨w.heap.size, j, none⟩ = wc.cell? ⟨w.heap.size, j, none⟩) ∧ (∀ j : Nat, w'.cell? ⟨g, j, none⟩ = wc.cell? ⟨g, j, none⟩)) (first | with_reducible exact HS0.out | with_reducible exact H9.out | fail) ((go_at_call 103; refine (HMC.out _ (Kd.C_below HL.out M1D.out.below)).mono ?_; rintro e w1 ⟨rfl, hM⟩; have M2 := Aside0.mk (M1D.out.trans hM); clear hM; have H9 := Aside0.mk (show (∀ j : Nat, w1.cell? ⟨w.heap.size, j, none⟩ = wc.cell? ⟨w.heap.size, j, none⟩) ∧ (∀ j : Nat, w1.cell? ⟨g, j, none⟩ = wc.cell? ⟨g, j, none⟩) from ⟨fun j => (blk_cell (M2.out.blk_at 2 rfl) j).trans (HM0.out j).symm, fun j => (blk_cell (M2.out.blk_at 3 rfl) j).trans (HG0.out j).symm⟩)))
  clear H9 HS0 HM0 HG0 M1D
  have HF0 := Aside0.mk (blk_cell (M2.out.blk_at 0 rfl))
  have HM0 := Aside0.mk (blk_cell (M2.out.blk_at 2 rfl))
  have cM := HM0.out
  have cF := HF0.out
  go_wp2_with fail
  go_upto_region 5 with (fail)
  have M2D := Aside0.mk M2.out.drew
  have HS0 := Aside0.mk (show (∀ j : Nat, w1.drew.cell? ⟨w.heap.size, j, none⟩ = w1.cell? ⟨w.heap.size, j, none⟩) ∧ (∀ j : Nat, w1.drew.cell? ⟨w.heap.size + 1 + 1, j, none⟩ = w1.cell? ⟨w.heap.size + 1 + 1, j, none⟩) from ⟨fun _ => rfl, fun _ => rfl⟩)
  have H9 := HS0
  go_region_held3 (fun w' => (∀ j : Nat, w'.cell? ⟨w.heap.size, j, none⟩ = w1.cell? ⟨w.heap.size, j, none⟩) ∧ (∀ j : Nat, w'.cell? ⟨w.heap.size + 1 + 1, j, none⟩ = w1.cell? ⟨w.heap.size + 1 + 1, j, none⟩)) (first | with_reducible exact HS0.out | with_reducible exact H9.out | fail) ((go_at_call 100; refine (CALL.out (_ :: _ :: _ :: F) _ (Mem.sel (ps := [_, _, _, _, _, _, _, _, _, _]) (F := F) [3, 4, 5, 6, 7, 8, 9, 0, 1, 2] 10 M2D.out rfl rfl)).mono ?_; rintro e w2 ⟨rfl, v5', v7', v8', v9', v10', vout', hM⟩; have M3 := Aside0.mk (Mem.sel (ps := [_, _, _, _, _, _, _, _, _, _]) (F := F) [7, 8, 9, 0, 1, 2, 3, 4, 5, 6] 10 hM rfl rfl); clear hM; have H9 := Aside0.mk (show (∀ j : Nat, w2.cell? ⟨w.heap.size, j, none⟩ = w1.cell? ⟨w.heap.size, j, none⟩) ∧ (∀ j : Nat, w2.cell? ⟨w.heap.size + 1 + 1, j, none⟩ = w1.cell? ⟨w.heap.size + 1 + 1, j, none⟩) from ⟨fun j => (blk_cell (M3.out.blk_at 2 rfl) j).trans (HM0.out j).symm, fun j => (blk_cell (M3.out.blk_at 0 rfl) j).trans (HF0.out j).symm⟩)))
  clear H9 HS0 HM0 HF0 M2D
  have cB := blk_cell (M3.out.blk_at 1 rfl)
  have fB := blk_frozen (M3.out.blk_at 1 rfl)
  have hB := blk_lt (M3.out.blk_at 1 rfl)
  clear cM cF cG M1 M2
  go_wp2_with fail
  refine leaves_cons (f := 95) (args := #[.pointer (some ⟨w.heap.size + 1, 0, none⟩)]) (by simp) (by simp [go_sem]) ?_
  refine (catch_idle ⟨w.heap.size + 1, 0, none⟩ _).mono ?_
  rintro e u' w4 ⟨rfl, rfl, hM⟩
  have M4 := (M3.out.set 1 rfl 0 (.bool true)).trans hM
  have cE : w4.cell? ⟨w.heap.size + 1, 0, none⟩ = some (.bool true) := blk_cell (M4.blk_at 1 rfl) 0
  clear hM
  simp [Leaves, settle, results, Try.results86, go_sem, cE]
  exact ⟨_, _, _, _, _, _, Mem.sel (ps := [_, _, _, _, _, _, _, _, _, _]) (F := F) [3, 4, 5, 6, 7, 8, 9] 10 M4 rfl rfl⟩
end Go.Proofs.Ytggbjokhniigkaa.Tt6
namespace Go.Proofs.Ytggbjokhniigkaa.Tt8
open Ty Go.RowKit YtggbjokhniigkaaW.PrintWords YtggbjokhniigkaaW.PrintLast YtggbjokhniigkaaW.PrintMore Mx Kx Wa Wb Ta Tb
theorem takes_8 (w0 w : World) (F : List Res) (g : Nat) (r s : Rep) (m : Msg) (v5 v7 v8 v9 v10 vout : Value) (out : List Msg) (A : Option Addr) (c : Nat) (hk : m.f0 = 8) (hm : mayM r m = true)
    (hM : Mem w0 w (blk g 99 (Wa.wc r.f0 r.f1 r.f2 r.f3 r.f4 v5 r.f6 v7 v8 v9 v10 r.f11 r.f12 vout) :: row kM 29 vout [] :: Kx.sL r v5 v7 v8 v9 v10 F)) (hl : Kd.C kE w0 A m.f7.length m.f7) (hn : m.f7.length ≤ 1000000000)
    (hcall : ∀ (F : List Res) (w : World), Mem w0 w (blk g 99 (Wa.wc r.f0 r.f1 r.f2 r.f3 r.f4 v5 r.f6 v7 v8 v9 v10 r.f11 r.f12 vout) :: row kM 29 vout [] :: Kx.sL r v5 v7 v8 v9 v10 F) → Calls Try.prog 102 #[.pointer (some ⟨g, 0, none⟩), .agg #[.int .i64 m.f0, .int .i64 m.f1, .int .i64 m.f2, .int .i64 m.f3, .int .i64 m.f4, .int .i64 m.f5, .int .i64 m.f6, .slice A m.f7.length c]] w fun e w' => e = .returned (.tuple #[]) ∧ ∃ v5' v7' v8' v9' v10' vout' : Value, Mem w0 w' (blk g 99 (Wa.wc s.f0 s.f1 s.f2 s.f3 s.f4 v5' s.f6 v7' v8' v9' v10' s.f11 s.f12 vout') :: row kM 29 vout' out :: Kx.sL s v5' v7' v8' v9' v10' F)) :
    Calls Try.prog 86 #[.pointer (some ⟨g, 0, none⟩), .agg #[.int .i64 m.f0, .int .i64 m.f1, .int .i64 m.f2, .int .i64 m.f3, .int .i64 m.f4, .int .i64 m.f5, .int .i64 m.f6, .slice A m.f7.length c]] w fun e w' => e = .returned (.bool true) ∧ ∃ v5' v7' v8' v9' v10' vout' : Value, Mem w0 w' (blk g 99 (Wa.wc s.f0 s.f1 s.f2 s.f3 s.f4 v5' s.f6 v7' v8' v9' v10' s.f11 s.f12 vout') :: row kM 29 vout' out :: Kx.sL s v5' v7' v8' v9' v10' F) := by
  have hmf : ∀ (fn : Fn) (first cap : Array Value) (w : World), (Instr.makeFunc fn first cap).run Try.prog w = .ok (.func fn first cap) w := fun _ _ _ _ => rfl
  have HMF := Aside0.mk hmf
  obtain ⟨B5, d5, rfl, _, _⟩ := hM.row_at 2 rfl
  obtain ⟨B7, d7, rfl, _, _⟩ := hM.row_at 3 rfl
  obtain ⟨B8, d8, rfl, _, _⟩ := hM.row_at 4 rfl
  obtain ⟨B9, d9, rfl, _, _⟩ := hM.row_at 5 rfl
  obtain ⟨B10, d10, rfl, _, _⟩ := hM.row_at 6 rfl
  have HL := Aside0.mk hl
  have HN := Aside0.mk hn
  have CALL := Aside0.mk hcall
  have HMB := Aside0.mk hm
  have HMC : Aside0 (∀ w', Kd.C kE w' A m.f7.length m.f7 → Calls Try.prog 103 #[.agg #[.int .i64 r.f0, .int .i64 r.f1, .int .i64 r.f2, .int .i64 r.f3, .int .i64 r.f4, .slice B5 r.f5.length d5, .int .i64 r.f6, .slice B7 r.f7.length d7, .slice B8 r.f8.length d8, .slice B9 r.f9.length d9, .slice B10 r.f10.length d10, .int .i64 r.f11, .int .i64 r.f12], .agg #[.int .i64 8, .int .i64 m.f1, .int .i64 m.f2, .int .i64 m.f3, .int .i64 m.f4, .int .i64 m.f5, .int .i64 m.f6, .slice A m.f7.length c]] w' fun e w'' => e = .returned (.bool true) ∧ Mem w' w'' []) :=
    ⟨fun w' h => by have := mayM_calls r m B5 B7 B8 B9 B10 A d5 d7 d8 d9 d10 c w' h hn; (try unfold Kx.mA at this); rw [hm, hk] at this; exact this⟩
  rw [hk] at hcall CALL ⊢
  have M1 := Aside0.mk (((hM.alloc #[.int .i64 8, .int .i64 m.f1, .int .i64 m.f2, .int .i64 m.f3, .int .i64 m.f4, .int .i64 m.f5, .int .i64 m.f6, .slice A m.f7.length c] 29).allocAt #[.bool false] 4 (w.heap.size + 1) (by simp)).allocAt #[.nilFunc, .func (Fn.func 96) #[.pointer (some ⟨g, 0, none⟩)] #[], .func (Fn.func 97) #[.pointer (some ⟨g, 0, none⟩)] #[], .func (Fn.func 96) #[.pointer (some ⟨g, 0, none⟩)] #[], .func (Fn.func 98) #[.pointer (some ⟨g, 0, none⟩)] #[], .func (Fn.func 99) #[.pointer (some ⟨g, 0, none⟩)] #[], .func (Fn.func 100) #[.pointer (some ⟨g, 0, none⟩)] #[], .func (Fn.func 101) #[.pointer (some ⟨g, 0, none⟩)] #[], .func (Fn.func 102) #[.pointer (some ⟨g, 0, none⟩)] #[]] 103 (w.heap.size + 2) (by simp))
  clear hl hn hM hcall hm hk
  have cM := blk_cell (M1.out.blk_at 2 rfl)
  have cB := blk_cell (M1.out.blk_at 1 rfl)
  have cF := blk_cell (M1.out.blk_at 0 rfl)
  have cG := blk_cell (M1.out.blk_at 3 rfl)
  unfold Wa.wc at cG
  go_enter_defers Try.func86, Try.ntmps86
  go_wp2_with fail
  go_upto_region 3 with (fail)
  clear cM cB cF cG
  obtain ⟨wc, hwc⟩ : ∃ wc : World, ((w.alloc (Obj.cells #[.int .i64 8, .int .i64 m.f1, .int .i64 m.f2, .int .i64 m.f3, .int .i64 m.f4, .int .i64 m.f5, .int .i64 m.f6, .slice A m.f7.length c] 29)).alloc (Obj.cells #[.bool false] 4)).alloc (Obj.cells #[.nilFunc, .func (Fn.func 96) #[.pointer (some ⟨g, 0, none⟩)] #[], .func (Fn.func 97) #[.pointer (some ⟨g, 0, none⟩)] #[], .func (Fn.func 96) #[.pointer (some ⟨g, 0, none⟩)] #[], .func (Fn.func 98) #[.pointer (some ⟨g, 0, none⟩)] #[], .func (Fn.func 99) #[.pointer (some ⟨g, 0, none⟩)] #[], .func (Fn.func 100) #[.pointer (some ⟨g, 0, none⟩)] #[], .func (Fn.func 101) #[.pointer (some ⟨g, 0, none⟩)] #[], .func (Fn.func 102) #[.pointer (some ⟨g, 0, none⟩)] #[]] 103) = wc := ⟨_, rfl⟩
  rw [hwc] at M1 ⊢
  clear hwc
  have cM := blk_cell (M1.out.blk_at 2 rfl)
  have cG0 := blk_cell (M1.out.blk_at 3 rfl)
  have HG0 := Aside0.mk cG0
  have HM0 := Aside0.mk cM
  have cG := cG0
  unfold Wa.wc at cG
  clear cG0
  have M1D := Aside0.mk M1.out.drew
  have HS0 := Aside0.mk (show (∀ j : Nat, wc.drew.cell? ⟨w.heap.size, j, none⟩ = wc.cell? ⟨w.heap.size, j, none⟩) ∧ (∀ j : Nat, wc.drew.cell? ⟨g, j, none⟩ = wc.cell? ⟨g, j, none⟩) from ⟨fun _ => rfl, fun _ => rfl⟩)
  have H9 := HS0
  go_region_held3 (fun w' => (∀ j : Nat, w'.cell? ⟨w.heap.size, j, none⟩ = wc.cell? ⟨w.heap.size, j, none⟩) ∧ (∀ j : Nat, w'.cell? ⟨g, j, none⟩ = wc.cell? ⟨g, j, none⟩)) (first | with_reducible exact HS0.out | with_reducible exact H9.out | fail) ((go_at_call 103; refine (HMC.out _ (Kd.C_below HL.out M1D.out.below)).mono ?_; rintro e w1 ⟨rfl, hM⟩; have M2 := Aside0.mk (M1D.out.trans hM); clear hM; have H9 := Aside0.mk (show (∀ j : Nat, w1.cell? ⟨w.heap.size, j, none⟩ = wc.cell? ⟨w.heap.size, j, none⟩) ∧ (∀ j : Nat, w1.cell? ⟨g, j, none⟩ = wc.cell? ⟨g, j, none⟩) from ⟨fun j => (blk_cell (M2.out.blk_at 2 rfl) j).trans (HM0.out j).symm, fun j => (blk_cell (M2.out.blk_at 3 rfl) j).trans (HG0.out j).symm⟩)))
  clear H9 HS0 HM0 HG0 M1D
  have HF0 := Aside0.mk (blk_cell (M2.out.blk_at 0 rfl))
  have HM0 := Aside0.mk (blk_cell (M2.out.blk_at 2 rfl))
  have cM := HM0.out
  have cF := HF0.out
  go_wp2_with fail
  go_upto_region 5 with (fail)
  have M2D := Aside0.mk M2.out.drew
  have HS0 := Aside0.mk (show (∀ j : Nat, w1.drew.cell? ⟨w.heap.size, j, none⟩ = w1.cell? ⟨w.heap.size, j, none⟩) ∧ (∀ j : Nat, w1.drew.cell? ⟨w.heap.size + 1 + 1, j, none⟩ = w1.cell? ⟨w.heap.size + 1 + 1, j, none⟩) from ⟨fun _ => rfl, fun _ => rfl⟩)
  have H9 := HS0
  go_region_held3 (fun w' => (∀ j : Nat, w'.cell? ⟨w.heap.size, j, none⟩ = w1.cell? ⟨w.heap.size, j, none⟩) ∧ (∀ j : Nat, w'.cell? ⟨w.heap.size + 1 + 1, j, none⟩ = w1.cell? ⟨w.heap.size + 1 + 1, j, none⟩)) (first | with_reducible exact HS0.out | with_reducible exact H9.out | fail) ((go_at_call 102; refine (CALL.out (_ :: _ :: _ :: F) _ (Mem.sel (ps := [_, _, _, _, _, _, _, _, _, _]) (F := F) [3, 4, 5, 6, 7, 8, 9, 0, 1, 2] 10 M2D.out rfl rfl)).mono ?_; rintro e w2 ⟨rfl, v5', v7', v8', v9', v10', vout', hM⟩; have M3 := Aside0.mk (Mem.sel (ps := [_, _, _, _, _, _, _, _, _, _]) (F := F) [7, 8, 9, 0, 1, 2, 3, 4, 5, 6] 10 hM rfl rfl); clear hM; have H9 := Aside0.mk (show (∀ j : Nat, w2.cell? ⟨w.heap.size, j, none⟩ = w1.cell? ⟨w.heap.size, j, none⟩) ∧ (∀ j : Nat, w2.cell? ⟨w.heap.size + 1 + 1, j, none⟩ = w1.cell? ⟨w.heap.size + 1 + 1, j, none⟩) from ⟨fun j => (blk_cell (M3.out.blk_at 2 rfl) j).trans (HM0.out j).symm, fun j => (blk_cell (M3.out.blk_at 0 rfl) j).trans (HF0.out j).symm⟩)))
  clear H9 HS0 HM0 HF0 M2D
  have cB := blk_cell (M3.out.blk_at 1 rfl)
  have fB := blk_frozen (M3.out.blk_at 1 rfl)
  have hB := blk_lt (M3.out.blk_at 1 rfl)
  clear cM cF cG M1 M2
  go_wp2_with fail
  refine leaves_cons (f := 95) (args := #[.pointer (some ⟨w.heap.size + 1, 0, none⟩)]) (by simp) (by simp [go_sem]) ?_
  refine (catch_idle ⟨w.heap.size + 1, 0, none⟩ _).mono ?_
  rintro e u' w4 ⟨rfl, rfl, hM⟩
  have M4 := (M3.out.set 1 rfl 0 (.bool true)).trans hM
  have cE : w4.cell? ⟨w.heap.size + 1, 0, none⟩ = some (.bool true) := blk_cell (M4.blk_at 1 rfl) 0
  clear hM
  simp [Leaves, settle, results, Try.results86, go_sem, cE]
  exact ⟨_, _, _, _, _, _, Mem.sel (ps := [_, _, _, _, _, _, _, _, _, _]) (F := F) [3, 4, 5, 6, 7, 8, 9] 10 M4 rfl rfl⟩
end Go.Proofs.Ytggbjokhniigkaa.Tt8
namespace Go.Proofs.Ytggbjokhniigkaa.Iu
open Ty Go.RowKit YtggbjokhniigkaaW.PrintWords YtggbjokhniigkaaW.PrintLast YtggbjokhniigkaaW.PrintMore Mx Kx Wa Wb Wc Wd Vc Sa Wj Tk Tb Tn Tt Tx Tr Tz Ua T9 Un Cx Cp
theorem take_is (r : Rep) (m : Msg) (A5 A7 A8 A9 A10 A : Option Addr) (c5 c7 c8 c9 c10 c : Nat) (w : World) (h : RdRep w r A5 A7 A8 A9 A10) (hl : Kd.C kE w A m.f7.length m.f7) (hs : r.f5.length ≤ 1200 ∧ r.f7.length ≤ 20 ∧ r.f8.length ≤ 20 ∧ r.f9.length ≤ 20 ∧ r.f10.length ≤ 1200) (hln : m.f7.length ≤ 1200) (hlc : m.f7.length ≤ c) (k1 : 1 ≤ m.f0) (k8 : m.f0 ≤ 8) (h1 : may r = true) (h2 : mayM r m = true) :
    Calls Try.prog 42 #[.agg (rc r (.slice A5 r.f5.length c5) (.slice A7 r.f7.length c7) (.slice A8 r.f8.length c8) (.slice A9 r.f9.length c9) (.slice A10 r.f10.length c10)), .agg (Kx.mA m A c)] w fun e w' => ∃ v5 v7 v8 v9 v10 vout : Value, e = .returned (.tuple #[.agg (rc (act r m).1 v5 v7 v8 v9 v10), vout, .int .i64 0]) ∧ Mem w w' (rows (act r m).1 v5 v7 v8 v9 v10 ++ [row kM 29 vout (act r m).2]) := by
  have hn : Small r := ⟨Nat.le_trans hs.1 (by decide), Nat.le_trans hs.2.1 (by decide), Nat.le_trans hs.2.2.1 (by decide), Nat.le_trans hs.2.2.2.1 (by decide), Nat.le_trans hs.2.2.2.2 (by decide)⟩
  have n := nums k1 k8 h1 h2
  have P := (may_iff r).1 h1
  have i8 := (Tq.ids_pair _ _ _ (show idsFrom r.f1 (-1) r.f8 = true from P.2.2.2.2.2.2.2.2.2.2.2.2.2.2.1)).1
  have i9 := (Tq.ids_pair _ _ _ (show idsFrom r.f1 (-1) r.f9 = true from P.2.2.2.2.2.2.2.2.2.2.2.2.2.2.2.1)).1
  have f8 : r.f8.Pairwise (fun a b => a < b) ∧ r.f8.length ≤ 20 := ⟨i8, hs.2.2.1⟩
  have fr : Fine r := ⟨n.i0, n.i1, n.n5, n.w0, n.w1, hs.1, i9, hs.2.2.2.1, hs.2.2.2.2⟩
  have hp : PreparedIn r m := ⟨n.i0, n.i1, n.n5, n.w0, n.w1, hs.1, P.2.2.2.2.2.2.2.2.2.2.2.2.1, P.1, n.f0, n.f1, P.2.2.2.2.2.2.2.2.2.2.2.2.2.1, n.c0, n.c1⟩
  have k : m.f0 = 1 ∨ m.f0 = 2 ∨ m.f0 = 3 ∨ m.f0 = 4 ∨ m.f0 = 5 ∨ m.f0 = 6 ∨ m.f0 = 7 ∨ m.f0 = 8 := by omega
  rcases k with hk | hk | hk | hk | hk | hk | hk | hk
  · have e : act r m = tPrepare r m := by unfold act; simp [hk]
    rw [e]
    exact Take_ok r m A5 A7 A8 A9 A10 A c5 c7 c8 c9 c10 c w h hn hl h1 (tPrepare r m).1 (tPrepare r m).2 (fun w0 w F g v5 v7 v8 v9 v10 hM hl => Tt1.takes_1 w0 w F g r (tPrepare r m).1 m v5 v7 v8 v9 v10 (.slice none 0 0) (tPrepare r m).2 A c hk h2 hM hl (Nat.le_trans hln (by decide)) (fun F w hM => Is.entry_is w0 w F g r m v5 v7 v8 v9 v10 A c hM hl n hln hlc hs.1 hk ((may_P k1 k8 h2).2.2.2.2.2.2.2.2.2.2.2 hk)))
  · have e : act r m = tPrepared r m := by unfold act; simp [hk]
    rw [e]
    exact Take_ok r m A5 A7 A8 A9 A10 A c5 c7 c8 c9 c10 c w h hn hl h1 (tPrepared r m).1 (tPrepared r m).2 (fun w0 w F g v5 v7 v8 v9 v10 hM hl => Tt2.takes_2 w0 w F g r (tPrepared r m).1 m v5 v7 v8 v9 v10 (.slice none 0 0) (tPrepared r m).2 A c hk h2 hM hl (Nat.le_trans hln (by decide)) (fun F w hM => Cp.prepared_calls w0 w F g r _ m v5 v7 v8 v9 v10 (.slice none 0 0) [] _ A c hM hp (Nat.zero_le _) rfl))
  · have e : act r m = tPrepare r m := by unfold act; simp [hk]
    rw [e]
    exact Take_ok r m A5 A7 A8 A9 A10 A c5 c7 c8 c9 c10 c w h hn hl h1 (tPrepare r m).1 (tPrepare r m).2 (fun w0 w F g v5 v7 v8 v9 v10 hM hl => Tt3.takes_3 w0 w F g r (tPrepare r m).1 m v5 v7 v8 v9 v10 (.slice none 0 0) (tPrepare r m).2 A c hk h2 hM hl (Nat.le_trans hln (by decide)) (fun F w hM => Is.commit_is w0 w F g r m v5 v7 v8 v9 v10 A c hM hl n hln hlc hs.1 (by omega)))
  · have e : act r m = tChange r m := by unfold act; simp [hk]
    rw [e]
    exact Take_ok r m A5 A7 A8 A9 A10 A c5 c7 c8 c9 c10 c w h hn hl h1 (tChange r m).1 (tChange r m).2 (fun w0 w F g v5 v7 v8 v9 v10 hM hl => Tt4.takes_4 w0 w F g r (tChange r m).1 m v5 v7 v8 v9 v10 (.slice none 0 0) (tChange r m).2 A c hk h2 hM hl (Nat.le_trans hln (by decide)) (fun F w hM => Ce.changes_calls w0 w F g r _ m v5 v7 v8 v9 v10 (.slice none 0 0) [] _ A c hM ⟨fr, f8, n.v0, n.v1, Nat.zero_le _⟩ rfl))
  · have e : act r m = tState r m := by unfold act; simp [hk]
    rw [e]
    exact Take_ok r m A5 A7 A8 A9 A10 A c5 c7 c8 c9 c10 c w h hn hl h1 (tState r m).1 (tState r m).2 (fun w0 w F g v5 v7 v8 v9 v10 hM hl => Tt5.takes_5 w0 w F g r (tState r m).1 m v5 v7 v8 v9 v10 (.slice none 0 0) (tState r m).2 A c hk h2 hM hl (Nat.le_trans hln (by decide)) (fun F w hM => Cs.state_calls w0 w F g r _ m v5 v7 v8 v9 v10 (.slice none 0 0) [] _ A c hM ⟨fr, fun w' h => Kd.C_below hl h.below, n.v0, n.v1, hln, hlc, Nat.zero_le _⟩ rfl))
  · have e : act r m = tView r m := by unfold act; simp [hk]
    rw [e]
    exact Take_ok r m A5 A7 A8 A9 A10 A c5 c7 c8 c9 c10 c w h hn hl h1 (tView r m).1 (tView r m).2 (fun w0 w F g v5 v7 v8 v9 v10 hM hl => Tt6.takes_6 w0 w F g r (tView r m).1 m v5 v7 v8 v9 v10 (.slice none 0 0) (tView r m).2 A c hk h2 hM hl (Nat.le_trans hln (by decide)) (fun F w hM => Is.view_is w0 w F g r m v5 v7 v8 v9 v10 A c hM hl n hln hlc hs.1))
  · have e : act r m = tAsk r m := by unfold act; simp [hk]
    rw [e]
    exact Take_ok r m A5 A7 A8 A9 A10 A c5 c7 c8 c9 c10 c w h hn hl h1 (tAsk r m).1 (tAsk r m).2 (fun w0 w F g v5 v7 v8 v9 v10 hM hl => Tt7.takes_7 w0 w F g r (tAsk r m).1 m v5 v7 v8 v9 v10 (.slice none 0 0) (tAsk r m).2 A c hk h2 hM hl (Nat.le_trans hln (by decide)) (fun F w hM => Tj.ask_calls w0 w F g r m v5 v7 v8 v9 v10 A c hM h2 (by omega)))
  · have e : act r m = tLog r m := by unfold act; simp [hk]
    rw [e]
    exact Take_ok r m A5 A7 A8 A9 A10 A c5 c7 c8 c9 c10 c w h hn hl h1 (tLog r m).1 (tLog r m).2 (fun w0 w F g v5 v7 v8 v9 v10 hM hl => Tt8.takes_8 w0 w F g r (tLog r m).1 m v5 v7 v8 v9 v10 (.slice none 0 0) (tLog r m).2 A c hk h2 hM hl (Nat.le_trans hln (by decide)) (fun F w hM => It.log_is w0 w F g r m v5 v7 v8 v9 v10 A c hM hl n hln hlc hs.1))
/-- Refused. -/
theorem take_bad_is (r : Rep) (m : Msg) (A5 A7 A8 A9 A10 A : Option Addr) (c5 c7 c8 c9 c10 c : Nat) (w : World) (h : RdRep w r A5 A7 A8 A9 A10) (hl : Kd.C kE w A m.f7.length m.f7) (hs : r.f5.length ≤ 1200 ∧ r.f7.length ≤ 20 ∧ r.f8.length ≤ 20 ∧ r.f9.length ≤ 20 ∧ r.f10.length ≤ 1200) (hln : m.f7.length ≤ 1200) (hlc : m.f7.length ≤ c) (hb : ¬ (1 ≤ m.f0 ∧ m.f0 ≤ 8 ∧ mayM r m = true)) (h1 : may r = true) :
    Calls Try.prog 42 #[.agg (rc r (.slice A5 r.f5.length c5) (.slice A7 r.f7.length c7) (.slice A8 r.f8.length c8) (.slice A9 r.f9.length c9) (.slice A10 r.f10.length c10)), .agg (Kx.mA m A c)] w fun e w' => ∃ v5 v7 v8 v9 v10 vout : Value, e = .returned (.tuple #[.agg (rc (r, ([] : List Msg)).1 v5 v7 v8 v9 v10), vout, .int .i64 1]) ∧ Mem w w' (rows (r, ([] : List Msg)).1 v5 v7 v8 v9 v10 ++ [row kM 29 vout (r, ([] : List Msg)).2]) := by
  have hn : Small r := ⟨Nat.le_trans hs.1 (by decide), Nat.le_trans hs.2.1 (by decide), Nat.le_trans hs.2.2.1 (by decide), Nat.le_trans hs.2.2.2.1 (by decide), Nat.le_trans hs.2.2.2.2 (by decide)⟩
  refine Take_e2 r m A5 A7 A8 A9 A10 A c5 c7 c8 c9 c10 c w h hn hl h1 (fun w0 w F g v5 v7 v8 v9 v10 hM hl => ?_)
  by_cases k1 : m.f0 < 1
  · exact takes_lo w0 w F g r m v5 v7 v8 v9 v10 (.slice none 0 0) A c k1 hM hl (Nat.le_trans hln (by decide))
  by_cases k9 : 9 ≤ m.f0
  · exact takes_hi w0 w F g r m v5 v7 v8 v9 v10 (.slice none 0 0) A c k9 hM hl (Nat.le_trans hln (by decide))
  have h2 : mayM r m = false := by
    cases q : mayM r m with
    | false => rfl
    | true => exact absurd ⟨by omega, by omega, q⟩ hb
  exact takes_no w0 w F g r m v5 v7 v8 v9 v10 (.slice none 0 0) A c (by omega) (by omega) h2 hM hl (Nat.le_trans hln (by decide))
end Go.Proofs.Ytggbjokhniigkaa.Iu
namespace Go.Proofs.Ytggbjokhniigkaa.Gt
open Ty Go.RowKit YtggbjokhniigkaaW.PrintWords YtggbjokhniigkaaW.PrintLast YtggbjokhniigkaaW.PrintMore Mx Kx Wa Wb Wc Wd Vc Tk Tb Pv Ua
theorem ids_len (n : Int) : ∀ (l : List Int) (x : Int), idsFrom n x l = true → x < n → (l.length : Int) ≤ n - 1 - x
  | [], x, _, h => by simp; omega
  | y :: l, x, h, hx => by
    unfold idsFrom at h
    simp only [Bool.and_eq_true, decide_eq_true_eq] at h
    have := ids_len n l y h.2 h.1.2
    rw [List.length_cons]
    push_cast
    omega
theorem log_len {l : List Entry} (h : log l = true) : l.length ≤ 1000 := by
  unfold log at h
  simp only [Bool.and_eq_true, decide_eq_true_eq] at h
  exact h.2
/-- How long its rows are. -/
theorem may_short {r : Rep} (h : MayS r) : r.f5.length ≤ 1200 ∧ r.f7.length ≤ 20 ∧ r.f8.length ≤ 20 ∧ r.f9.length ≤ 20 ∧ r.f10.length ≤ 1200 := by
  have hz := size_pos h.sz
  have h5 := log_len h.lg
  have h10 := log_len h.lb
  have h7 := h.l7
  have h8 := ids_len r.f1 r.f8 (-1) h.d8 (by omega)
  have h9 := ids_len r.f1 r.f9 (-1) h.d9 (by omega)
  omega
theorem may_small {r : Rep} (h : MayS r) : Small r := by
  have hs := may_short h
  exact ⟨Nat.le_trans hs.1 (by decide), Nat.le_trans hs.2.1 (by decide), Nat.le_trans hs.2.2.1 (by decide), Nat.le_trans hs.2.2.2.1 (by decide), Nat.le_trans hs.2.2.2.2 (by decide)⟩
theorem may_maxLen {r : Rep} (h : MayS r) : r.f5.length ≤ 9223372036854775807 ∧ r.f7.length ≤ 9223372036854775807 ∧ r.f8.length ≤ 9223372036854775807 ∧ r.f9.length ≤ 9223372036854775807 ∧ r.f10.length ≤ 9223372036854775807 := by
  have hs := may_short h
  exact ⟨Nat.le_trans hs.1 (by decide), Nat.le_trans hs.2.1 (by decide), Nat.le_trans hs.2.2.1 (by decide), Nat.le_trans hs.2.2.2.1 (by decide), Nat.le_trans hs.2.2.2.2 (by decide)⟩
theorem step_any (r : Rep) (m : Msg) (hm : MayS r) (hw : Low r) (h5 : m.f0 ≠ 5) (h6 : m.f0 = 6 → r.f6 ≤ (m.f7.length : Int)) (h8 : m.f0 = 8 → m.f4 = 0) (hln : m.f7.length ≤ 1200) :
    ∃ (s : Rep) (code : Int) (msgs : List Msg), Keeps r s ∧ (code = 0 ∨ s = r) ∧ ∀ (A5 A7 A8 A9 A10 A : Option Addr) (c5 c7 c8 c9 c10 c : Nat) (w : World), RdRep w r A5 A7 A8 A9 A10 → Kd.C kE w A m.f7.length m.f7 → m.f7.length ≤ c →
      Calls Try.prog 42 #[.agg (Kx.rA r A5 A7 A8 A9 A10 c5 c7 c8 c9 c10), .agg (Kx.mA m A c)] w fun e w' => ∃ v5 v7 v8 v9 v10 vout : Value, e = .returned (.tuple #[.agg (rc s v5 v7 v8 v9 v10), vout, .int .i64 code]) ∧ Mem w w' (rows s v5 v7 v8 v9 v10 ++ [row kM 29 vout msgs]) := by
  have h1 : may r = true := (mayS_iff r).2 hm
  by_cases hg : 1 ≤ m.f0 ∧ m.f0 ≤ 8 ∧ mayM r m = true
  · exact ⟨(act r m).1, 0, (act r m).2, act_keeps hm hw (may_P hg.1 hg.2.1 hg.2.2) h5 h6 h8, .inl rfl, fun A5 A7 A8 A9 A10 A c5 c7 c8 c9 c10 c w h hl hlc => Iu.take_is r m A5 A7 A8 A9 A10 A c5 c7 c8 c9 c10 c w h hl (may_short hm) hln hlc hg.1 hg.2.1 h1 hg.2.2⟩
  · exact ⟨r, 1, [], Keeps.same hm hw, .inr rfl, fun A5 A7 A8 A9 A10 A c5 c7 c8 c9 c10 c w h hl hlc => Iu.take_bad_is r m A5 A7 A8 A9 A10 A c5 c7 c8 c9 c10 c w h hl (may_short hm) hln hlc hg h1⟩
end Go.Proofs.Ytggbjokhniigkaa.Gt
