/- Texts laid together: T9, Tx, Tt, Ua. No condition. -/
import Derived.Deep.RegionHeld3
import Derived.Test.YtggbjokhniigkaaGreatYTz13
set_option linter.unusedVariables false
set_option linter.unusedSimpArgs false
set_option maxRecDepth 100000
set_option maxHeartbeats 8000000
namespace Go.Proofs.YtggbjokhniigkaaGreat.T9
open Ty Go.RowKit YtggbjokhniigkaaGreatW.PrintWords YtggbjokhniigkaaGreatW.PrintLast YtggbjokhniigkaaGreatW.PrintMore Mx Kx Wa Wb Ta Tb
theorem takes_lo (w0 w : World) (F : List Res) (g : Nat) (r : Rep) (m : Msg) (v5 v7 v8 v9 v10 vout : Value) (A : Option Addr) (c : Nat) (h0 : m.f0 < 1)
    (hM : Mem w0 w (blk g 95 (Wa.wc r.f0 r.f1 r.f2 r.f3 r.f4 v5 r.f6 v7 v8 v9 v10 r.f11 r.f12 vout) :: row kM 27 vout [] :: Kx.sL r v5 v7 v8 v9 v10 F)) (hl : Kd.C kE w0 A m.f7.length m.f7) (hn : m.f7.length ≤ 1000000000) :
    Calls Tryz.prog 65 #[.pointer (some ⟨g, 0, none⟩), .agg (Kx.mA m A c)] w fun e w' => e = .returned (.bool false) ∧ Mem w0 w' (blk g 95 (Wa.wc r.f0 r.f1 r.f2 r.f3 r.f4 v5 r.f6 v7 v8 v9 v10 r.f11 r.f12 vout) :: row kM 27 vout [] :: Kx.sL r v5 v7 v8 v9 v10 F) := by
  have hmf : ∀ (fn : Fn) (first cap : Array Value) (w : World), (Instr.makeFunc fn first cap).run Tryz.prog w = .ok (.func fn first cap) w := fun _ _ _ _ => rfl
  obtain ⟨B5, d5, rfl, _, _⟩ := hM.row_at 2 rfl
  obtain ⟨B7, d7, rfl, _, _⟩ := hM.row_at 3 rfl
  obtain ⟨B8, d8, rfl, _, _⟩ := hM.row_at 4 rfl
  obtain ⟨B9, d9, rfl, _, _⟩ := hM.row_at 5 rfl
  obtain ⟨B10, d10, rfl, _, _⟩ := hM.row_at 6 rfl
  have HL := Aside0.mk hl
  have HN := Aside0.mk hn
  have k1 : decide (m.f0 < 1) = true := decide_eq_true h0
  have M1 := Aside0.mk (((hM.alloc (Kx.mA m A c) 27).allocAt #[.bool false] 4 (w.heap.size + 1) (by simp)).allocAt #[.nilFunc, .func (Fn.func 103) #[.pointer (some ⟨g, 0, none⟩)] #[], .func (Fn.func 104) #[.pointer (some ⟨g, 0, none⟩)] #[], .func (Fn.func 103) #[.pointer (some ⟨g, 0, none⟩)] #[], .func (Fn.func 105) #[.pointer (some ⟨g, 0, none⟩)] #[], .func (Fn.func 106) #[.pointer (some ⟨g, 0, none⟩)] #[], .func (Fn.func 107) #[.pointer (some ⟨g, 0, none⟩)] #[], .func (Fn.func 108) #[.pointer (some ⟨g, 0, none⟩)] #[], .func (Fn.func 109) #[.pointer (some ⟨g, 0, none⟩)] #[]] 122 (w.heap.size + 2) (by simp))
  clear hl hn hM h0
  have cM := blk_cell (M1.out.blk_at 2 rfl)
  have cB := blk_cell (M1.out.blk_at 1 rfl)
  have cF := blk_cell (M1.out.blk_at 0 rfl)
  have cG := blk_cell (M1.out.blk_at 3 rfl)
  unfold Wa.wc at cG
  go_enter_defers Tryz.func65, Tryz.ntmps65
  go_wp2_with fail
  go_upto_region 3 with (fail)
  clear cM cB cF cG
  obtain ⟨wc, hwc⟩ : ∃ wc : World, ((w.alloc (Obj.cells (Kx.mA m A c) 27)).alloc (Obj.cells #[.bool false] 4)).alloc (Obj.cells #[.nilFunc, .func (Fn.func 103) #[.pointer (some ⟨g, 0, none⟩)] #[], .func (Fn.func 104) #[.pointer (some ⟨g, 0, none⟩)] #[], .func (Fn.func 103) #[.pointer (some ⟨g, 0, none⟩)] #[], .func (Fn.func 105) #[.pointer (some ⟨g, 0, none⟩)] #[], .func (Fn.func 106) #[.pointer (some ⟨g, 0, none⟩)] #[], .func (Fn.func 107) #[.pointer (some ⟨g, 0, none⟩)] #[], .func (Fn.func 108) #[.pointer (some ⟨g, 0, none⟩)] #[], .func (Fn.func 109) #[.pointer (some ⟨g, 0, none⟩)] #[]] 122) = wc := ⟨_, rfl⟩
  rw [hwc] at M1 ⊢
  clear hwc
  have cM := blk_cell (M1.out.blk_at 2 rfl)
  have cG0 := blk_cell (M1.out.blk_at 3 rfl)
  have HG0 := Aside0.mk cG0
  have HM0 := Aside0.mk cM
  have cG := cG0
  unfold Wa.wc at cG
  clear cG0
  go_quiet (fail)
  clear HM0 HG0 cM cG
  have cB : wc.cell? ⟨w.heap.size + 1, 0, none⟩ = some (.bool false) := blk_cell (M1.out.blk_at 1 rfl) 0
  have fB : wc.frozen? ⟨w.heap.size + 1, 0, none⟩ = false := blk_frozen (M1.out.blk_at 1 rfl) 0
  go_wp2
  refine leaves_cons (f := 102) (args := #[.pointer (some ⟨w.heap.size + 1, 0, none⟩)]) (by simp) (by simp [go_sem]) ?_
  refine (catch_panicking ⟨w.heap.size + 1, 0, none⟩ [] _ false (by exact cB) (by exact fB)).mono ?_
  rintro e u' w4 ⟨rfl, rfl, w3, hM, rfl⟩
  have M4 := ((M1.out.drewN _).trans hM).set 1 rfl 0 (.bool false)
  have cE : (w3.setCell ⟨w.heap.size + 1, 0, none⟩ (.bool false)).cell? ⟨w.heap.size + 1, 0, none⟩ = some (.bool false) := blk_cell (M4.blk_at 1 rfl) 0
  clear hM
  simp [Leaves, settle, results, Tryz.results65, go_sem, cE]
  exact Mem.sel (ps := [_, _, _, _, _, _, _, _, _, _]) (F := F) [3, 4, 5, 6, 7, 8, 9] 10 M4 rfl rfl
theorem takes_hi (w0 w : World) (F : List Res) (g : Nat) (r : Rep) (m : Msg) (v5 v7 v8 v9 v10 vout : Value) (A : Option Addr) (c : Nat) (h0 : 9 ≤ m.f0)
    (hM : Mem w0 w (blk g 95 (Wa.wc r.f0 r.f1 r.f2 r.f3 r.f4 v5 r.f6 v7 v8 v9 v10 r.f11 r.f12 vout) :: row kM 27 vout [] :: Kx.sL r v5 v7 v8 v9 v10 F)) (hl : Kd.C kE w0 A m.f7.length m.f7) (hn : m.f7.length ≤ 1000000000) :
    Calls Tryz.prog 65 #[.pointer (some ⟨g, 0, none⟩), .agg (Kx.mA m A c)] w fun e w' => e = .returned (.bool false) ∧ Mem w0 w' (blk g 95 (Wa.wc r.f0 r.f1 r.f2 r.f3 r.f4 v5 r.f6 v7 v8 v9 v10 r.f11 r.f12 vout) :: row kM 27 vout [] :: Kx.sL r v5 v7 v8 v9 v10 F) := by
  have hmf : ∀ (fn : Fn) (first cap : Array Value) (w : World), (Instr.makeFunc fn first cap).run Tryz.prog w = .ok (.func fn first cap) w := fun _ _ _ _ => rfl
  obtain ⟨B5, d5, rfl, _, _⟩ := hM.row_at 2 rfl
  obtain ⟨B7, d7, rfl, _, _⟩ := hM.row_at 3 rfl
  obtain ⟨B8, d8, rfl, _, _⟩ := hM.row_at 4 rfl
  obtain ⟨B9, d9, rfl, _, _⟩ := hM.row_at 5 rfl
  obtain ⟨B10, d10, rfl, _, _⟩ := hM.row_at 6 rfl
  have HL := Aside0.mk hl
  have HN := Aside0.mk hn
  have k1 : decide (m.f0 < 1) = false := decide_eq_false (by omega)
  have k2 : decide (9 ≤ m.f0) = true := decide_eq_true h0
  have M1 := Aside0.mk (((hM.alloc (Kx.mA m A c) 27).allocAt #[.bool false] 4 (w.heap.size + 1) (by simp)).allocAt #[.nilFunc, .func (Fn.func 103) #[.pointer (some ⟨g, 0, none⟩)] #[], .func (Fn.func 104) #[.pointer (some ⟨g, 0, none⟩)] #[], .func (Fn.func 103) #[.pointer (some ⟨g, 0, none⟩)] #[], .func (Fn.func 105) #[.pointer (some ⟨g, 0, none⟩)] #[], .func (Fn.func 106) #[.pointer (some ⟨g, 0, none⟩)] #[], .func (Fn.func 107) #[.pointer (some ⟨g, 0, none⟩)] #[], .func (Fn.func 108) #[.pointer (some ⟨g, 0, none⟩)] #[], .func (Fn.func 109) #[.pointer (some ⟨g, 0, none⟩)] #[]] 122 (w.heap.size + 2) (by simp))
  clear hl hn hM h0
  have cM := blk_cell (M1.out.blk_at 2 rfl)
  have cB := blk_cell (M1.out.blk_at 1 rfl)
  have cF := blk_cell (M1.out.blk_at 0 rfl)
  have cG := blk_cell (M1.out.blk_at 3 rfl)
  unfold Wa.wc at cG
  go_enter_defers Tryz.func65, Tryz.ntmps65
  go_wp2_with fail
  go_upto_region 3 with (fail)
  clear cM cB cF cG
  obtain ⟨wc, hwc⟩ : ∃ wc : World, ((w.alloc (Obj.cells (Kx.mA m A c) 27)).alloc (Obj.cells #[.bool false] 4)).alloc (Obj.cells #[.nilFunc, .func (Fn.func 103) #[.pointer (some ⟨g, 0, none⟩)] #[], .func (Fn.func 104) #[.pointer (some ⟨g, 0, none⟩)] #[], .func (Fn.func 103) #[.pointer (some ⟨g, 0, none⟩)] #[], .func (Fn.func 105) #[.pointer (some ⟨g, 0, none⟩)] #[], .func (Fn.func 106) #[.pointer (some ⟨g, 0, none⟩)] #[], .func (Fn.func 107) #[.pointer (some ⟨g, 0, none⟩)] #[], .func (Fn.func 108) #[.pointer (some ⟨g, 0, none⟩)] #[], .func (Fn.func 109) #[.pointer (some ⟨g, 0, none⟩)] #[]] 122) = wc := ⟨_, rfl⟩
  rw [hwc] at M1 ⊢
  clear hwc
  have cM := blk_cell (M1.out.blk_at 2 rfl)
  have cG0 := blk_cell (M1.out.blk_at 3 rfl)
  have HG0 := Aside0.mk cG0
  have HM0 := Aside0.mk cM
  have cG := cG0
  unfold Wa.wc at cG
  clear cG0
  go_quiet (fail)
  clear HM0 HG0 cM cG
  have cB : wc.cell? ⟨w.heap.size + 1, 0, none⟩ = some (.bool false) := blk_cell (M1.out.blk_at 1 rfl) 0
  have fB : wc.frozen? ⟨w.heap.size + 1, 0, none⟩ = false := blk_frozen (M1.out.blk_at 1 rfl) 0
  go_wp2
  refine leaves_cons (f := 102) (args := #[.pointer (some ⟨w.heap.size + 1, 0, none⟩)]) (by simp) (by simp [go_sem]) ?_
  refine (catch_panicking ⟨w.heap.size + 1, 0, none⟩ [] _ false (by exact cB) (by exact fB)).mono ?_
  rintro e u' w4 ⟨rfl, rfl, w3, hM, rfl⟩
  have M4 := ((M1.out.drewN _).trans hM).set 1 rfl 0 (.bool false)
  have cE : (w3.setCell ⟨w.heap.size + 1, 0, none⟩ (.bool false)).cell? ⟨w.heap.size + 1, 0, none⟩ = some (.bool false) := blk_cell (M4.blk_at 1 rfl) 0
  clear hM
  simp [Leaves, settle, results, Tryz.results65, go_sem, cE]
  exact Mem.sel (ps := [_, _, _, _, _, _, _, _, _, _]) (F := F) [3, 4, 5, 6, 7, 8, 9] 10 M4 rfl rfl
end Go.Proofs.YtggbjokhniigkaaGreat.T9
namespace Go.Proofs.YtggbjokhniigkaaGreat.Tx
open Ty Go.RowKit YtggbjokhniigkaaGreatW.PrintWords YtggbjokhniigkaaGreatW.PrintLast YtggbjokhniigkaaGreatW.PrintMore Mx Kx Wa Wb Wc Wd
theorem Take_e1 (r : Rep) (m : Msg) (A5 A7 A8 A9 A10 A : Option Addr) (c5 c7 c8 c9 c10 c : Nat) (w : World) (h : RdRep w r A5 A7 A8 A9 A10) (hn : Small r) (hl : Kd.C kE w A m.f7.length m.f7) (h1 : may r = false) :
    Calls Tryz.prog 34 #[.agg (rc r (.slice A5 r.f5.length c5) (.slice A7 r.f7.length c7) (.slice A8 r.f8.length c8) (.slice A9 r.f9.length c9) (.slice A10 r.f10.length c10)), .agg (Kx.mA m A c)] w fun e w' => ∃ v5 v7 v8 v9 v10 vout : Value, e = .returned (.tuple #[.agg (rc r v5 v7 v8 v9 v10), vout, .int .i64 1]) ∧ Mem w w' (rows r v5 v7 v8 v9 v10 ++ [row kM 27 vout []]) := by
  have E1 := Aside0.mk h1
  clear h1
  have H := Aside0.mk h
  have HN := Aside0.mk hn
  have HL := Aside0.mk hl
  have M1 := Aside0.mk ((((Mem.nil w).alloc (Kx.rA r A5 A7 A8 A9 A10 c5 c7 c8 c9 c10) 25).allocAt (Kx.mA m A c) 27 (w.heap.size + 1) (by simp)).allocAt #[.int .i64 0, .int .i64 0, .int .i64 0, .int .i64 0, .int .i64 0, .slice none 0 0, .int .i64 0, .slice none 0 0, .slice none 0 0, .slice none 0 0, .slice none 0 0, .int .i64 0, .int .i64 0] 25 (w.heap.size + 2) (by simp))
  clear h hn hl
  unfold rc
  go_enter Tryz.func34, Tryz.ntmps34
  go_wp2_with fail
  refine (copied_calls r A5 A7 A8 A9 A10 c5 c7 c8 c9 c10 _ (H.out.below M1.out.below) HN.out).mono ?_
  rintro e w2 ⟨v5, v7, v8, v9, v10, rfl, hM⟩
  unfold rc
  obtain ⟨B5, d5, rfl, _, _⟩ := hM.row_at 0 rfl
  obtain ⟨B7, d7, rfl, _, _⟩ := hM.row_at 1 rfl
  obtain ⟨B8, d8, rfl, _, _⟩ := hM.row_at 2 rfl
  obtain ⟨B9, d9, rfl, _, _⟩ := hM.row_at 3 rfl
  obtain ⟨B10, d10, rfl, _, _⟩ := hM.row_at 4 rfl
  have M3 := Aside0.mk (Mem.sel (ps := [_, _, _, _, _, _, _, _]) (F := []) [0, 1, 2, 3, 4, 5, 6, 7] 8 (M1.out.trans hM) rfl rfl)
  clear hM M1
  have hb0 := blk_lt (M3.out.blk_at 5 rfl)
  have hb1 := blk_lt (M3.out.blk_at 6 rfl)
  have hb2 := blk_lt (M3.out.blk_at 7 rfl)
  have M4 := Aside0.mk (M3.out.allocAt #[.int .i64 r.f0, .int .i64 r.f1, .int .i64 r.f2, .int .i64 r.f3, .int .i64 r.f4, .slice B5 r.f5.length d5, .int .i64 r.f6, .slice B7 r.f7.length d7, .slice B8 r.f8.length d8, .slice B9 r.f9.length d9, .slice B10 r.f10.length d10, .int .i64 r.f11, .int .i64 r.f12, .slice none 0 0] 95 w2.heap.size rfl)
  clear M3
  have cR := blk_cell (M4.out.blk_at 8 rfl)
  go_wp2_with fail
  refine (May_calls r A5 A7 A8 A9 A10 c5 c7 c8 c9 c10 _ (Kd.C_below H.out.h5 M4.out.below) (Kd.C_below H.out.h7 M4.out.below) (Kd.C_below H.out.h8 M4.out.below) (Kd.C_below H.out.h9 M4.out.below) (Kd.C_below H.out.h10 M4.out.below) HN.out).mono ?_
  rintro e w3 ⟨he, hM⟩
  rw [E1.out] at he
  subst he
  have M5 := Aside0.mk (Mem.sel (ps := [_, _, _, _, _, _, _, _, _]) (F := []) [0, 1, 2, 3, 4, 5, 6, 7, 8] 9 (M4.out.trans hM) rfl rfl)
  clear hM M4 cR hb0 hb1 hb2
  have cR := blk_cell (M5.out.blk_at 8 rfl)
  have cM := blk_cell (M5.out.blk_at 7 rfl)
  have cZ := blk_cell (M5.out.blk_at 6 rfl)
  have fZ := blk_frozen (M5.out.blk_at 6 rfl)
  have hbW := blk_lt (M5.out.blk_at 0 rfl)
  have hbZ := blk_lt (M5.out.blk_at 6 rfl)
  go_wp2_with fail
  refine (copied_calls r A5 A7 A8 A9 A10 c5 c7 c8 c9 c10 _ (H.out.below M5.out.below) HN.out).mono ?_
  rintro e w5 ⟨v5, v7, v8, v9, v10, rfl, hM⟩
  unfold rc
  obtain ⟨C5, e5, rfl, _, _⟩ := hM.row_at 0 rfl
  obtain ⟨C7, e7, rfl, _, _⟩ := hM.row_at 1 rfl
  obtain ⟨C8, e8, rfl, _, _⟩ := hM.row_at 2 rfl
  obtain ⟨C9, e9, rfl, _, _⟩ := hM.row_at 3 rfl
  obtain ⟨C10, e10, rfl, _, _⟩ := hM.row_at 4 rfl
  have M6 := Aside0.mk (M5.out.trans hM)
  clear hM M5
  have cZ := blk_cell (M6.out.blk_at 11 rfl)
  have fZ := blk_frozen (M6.out.blk_at 11 rfl)
  have hbZ := blk_lt (M6.out.blk_at 11 rfl)
  go_wp2_with fail
  all_goals
    have MF := (M6.out.setRow 11 rfl [.int .i64 r.f0, .int .i64 r.f1, .int .i64 r.f2, .int .i64 r.f3, .int .i64 r.f4, .slice C5 r.f5.length e5, .int .i64 r.f6, .slice C7 r.f7.length e7, .slice C8 r.f8.length e8, .slice C9 r.f9.length e9, .slice C10 r.f10.length e10, .int .i64 r.f11, .int .i64 r.f12] rfl)
    have hgF := MF.blk_at 11 rfl
    refine bodyPost_ret (results_list (rs := [.cell 4 25, .tmp 5, .tmp 6]) rfl (by simp) (.cell (w.heap.size + 2) 25 #[.int .i64 r.f0, .int .i64 r.f1, .int .i64 r.f2, .int .i64 r.f3, .int .i64 r.f4, .slice C5 r.f5.length e5, .int .i64 r.f6, .slice C7 r.f7.length e7, .slice C8 r.f8.length e8, .slice C9 r.f9.length e9, .slice C10 r.f10.length e10, .int .i64 r.f11, .int .i64 r.f12] (0, 0) _ rfl hgF Tryz.underlying25 rfl (by kernel_rfl) (.tmp (.tmp .nil)))) rfl ?_
    exact ⟨_, _, _, _, _, _, rfl, Mem.sel (ps := [_, _, _, _, _, _, _, _, _, _, _, _, _, _, _]) (F := []) [1, 2, 3, 4, 5, 0] 15 (Mem.row_nil MF kM 27) rfl rfl⟩
theorem Take_e2 (r : Rep) (m : Msg) (A5 A7 A8 A9 A10 A : Option Addr) (c5 c7 c8 c9 c10 c : Nat) (w : World) (h : RdRep w r A5 A7 A8 A9 A10) (hn : Small r) (hl : Kd.C kE w A m.f7.length m.f7) (h1 : may r = true) (hT : ∀ (w0 w : World) (F : List Res) (g : Nat) (v5 v7 v8 v9 v10 : Value), Mem w0 w (blk g 95 (Wa.wc r.f0 r.f1 r.f2 r.f3 r.f4 v5 r.f6 v7 v8 v9 v10 r.f11 r.f12 (.slice none 0 0)) :: row kM 27 (.slice none 0 0) [] :: Kx.sL r v5 v7 v8 v9 v10 F) → Kd.C kE w0 A m.f7.length m.f7 → Calls Tryz.prog 65 #[.pointer (some ⟨g, 0, none⟩), .agg (Kx.mA m A c)] w fun e w' => e = .returned (.bool false) ∧ Mem w0 w' (blk g 95 (Wa.wc r.f0 r.f1 r.f2 r.f3 r.f4 v5 r.f6 v7 v8 v9 v10 r.f11 r.f12 (.slice none 0 0)) :: row kM 27 (.slice none 0 0) [] :: Kx.sL r v5 v7 v8 v9 v10 F)) :
    Calls Tryz.prog 34 #[.agg (rc r (.slice A5 r.f5.length c5) (.slice A7 r.f7.length c7) (.slice A8 r.f8.length c8) (.slice A9 r.f9.length c9) (.slice A10 r.f10.length c10)), .agg (Kx.mA m A c)] w fun e w' => ∃ v5 v7 v8 v9 v10 vout : Value, e = .returned (.tuple #[.agg (rc r v5 v7 v8 v9 v10), vout, .int .i64 1]) ∧ Mem w w' (rows r v5 v7 v8 v9 v10 ++ [row kM 27 vout []]) := by
  have E1 := Aside0.mk h1
  replace hT := Aside0.mk hT
  clear h1
  have H := Aside0.mk h
  have HN := Aside0.mk hn
  have HL := Aside0.mk hl
  have M1 := Aside0.mk ((((Mem.nil w).alloc (Kx.rA r A5 A7 A8 A9 A10 c5 c7 c8 c9 c10) 25).allocAt (Kx.mA m A c) 27 (w.heap.size + 1) (by simp)).allocAt #[.int .i64 0, .int .i64 0, .int .i64 0, .int .i64 0, .int .i64 0, .slice none 0 0, .int .i64 0, .slice none 0 0, .slice none 0 0, .slice none 0 0, .slice none 0 0, .int .i64 0, .int .i64 0] 25 (w.heap.size + 2) (by simp))
  clear h hn hl
  unfold rc
  go_enter Tryz.func34, Tryz.ntmps34
  go_wp2_with fail
  refine (copied_calls r A5 A7 A8 A9 A10 c5 c7 c8 c9 c10 _ (H.out.below M1.out.below) HN.out).mono ?_
  rintro e w2 ⟨v5, v7, v8, v9, v10, rfl, hM⟩
  unfold rc
  obtain ⟨B5, d5, rfl, _, _⟩ := hM.row_at 0 rfl
  obtain ⟨B7, d7, rfl, _, _⟩ := hM.row_at 1 rfl
  obtain ⟨B8, d8, rfl, _, _⟩ := hM.row_at 2 rfl
  obtain ⟨B9, d9, rfl, _, _⟩ := hM.row_at 3 rfl
  obtain ⟨B10, d10, rfl, _, _⟩ := hM.row_at 4 rfl
  have M3 := Aside0.mk (Mem.sel (ps := [_, _, _, _, _, _, _, _]) (F := []) [0, 1, 2, 3, 4, 5, 6, 7] 8 (M1.out.trans hM) rfl rfl)
  clear hM M1
  have hb0 := blk_lt (M3.out.blk_at 5 rfl)
  have hb1 := blk_lt (M3.out.blk_at 6 rfl)
  have hb2 := blk_lt (M3.out.blk_at 7 rfl)
  have M4 := Aside0.mk (M3.out.allocAt #[.int .i64 r.f0, .int .i64 r.f1, .int .i64 r.f2, .int .i64 r.f3, .int .i64 r.f4, .slice B5 r.f5.length d5, .int .i64 r.f6, .slice B7 r.f7.length d7, .slice B8 r.f8.length d8, .slice B9 r.f9.length d9, .slice B10 r.f10.length d10, .int .i64 r.f11, .int .i64 r.f12, .slice none 0 0] 95 w2.heap.size rfl)
  clear M3
  have cR := blk_cell (M4.out.blk_at 8 rfl)
  go_wp2_with fail
  refine (May_calls r A5 A7 A8 A9 A10 c5 c7 c8 c9 c10 _ (Kd.C_below H.out.h5 M4.out.below) (Kd.C_below H.out.h7 M4.out.below) (Kd.C_below H.out.h8 M4.out.below) (Kd.C_below H.out.h9 M4.out.below) (Kd.C_below H.out.h10 M4.out.below) HN.out).mono ?_
  rintro e w3 ⟨he, hM⟩
  rw [E1.out] at he
  subst he
  have M5 := Aside0.mk (Mem.sel (ps := [_, _, _, _, _, _, _, _, _]) (F := []) [0, 1, 2, 3, 4, 5, 6, 7, 8] 9 (M4.out.trans hM) rfl rfl)
  clear hM M4 cR hb0 hb1 hb2
  have cR := blk_cell (M5.out.blk_at 8 rfl)
  have cM := blk_cell (M5.out.blk_at 7 rfl)
  have cZ := blk_cell (M5.out.blk_at 6 rfl)
  have fZ := blk_frozen (M5.out.blk_at 6 rfl)
  have hbW := blk_lt (M5.out.blk_at 0 rfl)
  have hbZ := blk_lt (M5.out.blk_at 6 rfl)
  go_wp2_with fail
  refine (hT.out w _ [_, _, _] w2.heap.size _ _ _ _ _ (Mem.sel (ps := [_, _, _, _, _, _, _, _, _, _]) (F := []) [1, 0, 2, 3, 4, 5, 6, 7, 8, 9] 10 (Mem.row_nil M5.out kM 27) rfl rfl) HL.out).mono ?_
  rintro e w4 ⟨rfl, hM⟩
  have M7 := Aside0.mk hM
  clear hM M5 cR cM cZ fZ hbW hbZ
  have cR := blk_cell (M7.out.blk_at 9 rfl)
  go_wp2_with fail
  refine (copied_calls r A5 A7 A8 A9 A10 c5 c7 c8 c9 c10 _ (H.out.below M7.out.below) HN.out).mono ?_
  rintro e w5 ⟨v5, v7, v8, v9, v10, rfl, hM⟩
  unfold rc
  obtain ⟨C5, e5, rfl, _, _⟩ := hM.row_at 0 rfl
  obtain ⟨C7, e7, rfl, _, _⟩ := hM.row_at 1 rfl
  obtain ⟨C8, e8, rfl, _, _⟩ := hM.row_at 2 rfl
  obtain ⟨C9, e9, rfl, _, _⟩ := hM.row_at 3 rfl
  obtain ⟨C10, e10, rfl, _, _⟩ := hM.row_at 4 rfl
  have M6 := Aside0.mk (M7.out.trans hM)
  clear hM M7
  have cZ := blk_cell (M6.out.blk_at 12 rfl)
  have fZ := blk_frozen (M6.out.blk_at 12 rfl)
  have hbZ := blk_lt (M6.out.blk_at 12 rfl)
  go_wp2_with fail
  all_goals
    have MF := (M6.out.setRow 12 rfl [.int .i64 r.f0, .int .i64 r.f1, .int .i64 r.f2, .int .i64 r.f3, .int .i64 r.f4, .slice C5 r.f5.length e5, .int .i64 r.f6, .slice C7 r.f7.length e7, .slice C8 r.f8.length e8, .slice C9 r.f9.length e9, .slice C10 r.f10.length e10, .int .i64 r.f11, .int .i64 r.f12] rfl)
    have hgF := MF.blk_at 12 rfl
    refine bodyPost_ret (results_list (rs := [.cell 4 25, .tmp 5, .tmp 6]) rfl (by simp) (.cell (w.heap.size + 2) 25 #[.int .i64 r.f0, .int .i64 r.f1, .int .i64 r.f2, .int .i64 r.f3, .int .i64 r.f4, .slice C5 r.f5.length e5, .int .i64 r.f6, .slice C7 r.f7.length e7, .slice C8 r.f8.length e8, .slice C9 r.f9.length e9, .slice C10 r.f10.length e10, .int .i64 r.f11, .int .i64 r.f12] (0, 0) _ rfl hgF Tryz.underlying25 rfl (by kernel_rfl) (.tmp (.tmp .nil)))) rfl ?_
    exact ⟨_, _, _, _, _, _, rfl, Mem.sel (ps := [_, _, _, _, _, _, _, _, _, _, _, _, _, _, _, _]) (F := []) [1, 2, 3, 4, 5, 0] 16 (Mem.row_nil MF kM 27) rfl rfl⟩
theorem Take_ok (r : Rep) (m : Msg) (A5 A7 A8 A9 A10 A : Option Addr) (c5 c7 c8 c9 c10 c : Nat) (w : World) (h : RdRep w r A5 A7 A8 A9 A10) (hn : Small r) (hl : Kd.C kE w A m.f7.length m.f7) (h1 : may r = true) (s : Rep) (out : List Msg) (hT : ∀ (w0 w : World) (F : List Res) (g : Nat) (v5 v7 v8 v9 v10 : Value), Mem w0 w (blk g 95 (Wa.wc r.f0 r.f1 r.f2 r.f3 r.f4 v5 r.f6 v7 v8 v9 v10 r.f11 r.f12 (.slice none 0 0)) :: row kM 27 (.slice none 0 0) [] :: Kx.sL r v5 v7 v8 v9 v10 F) → Kd.C kE w0 A m.f7.length m.f7 → Calls Tryz.prog 65 #[.pointer (some ⟨g, 0, none⟩), .agg (Kx.mA m A c)] w fun e w' => e = .returned (.bool true) ∧ ∃ v5' v7' v8' v9' v10' vout' : Value, Mem w0 w' (blk g 95 (Wa.wc s.f0 s.f1 s.f2 s.f3 s.f4 v5' s.f6 v7' v8' v9' v10' s.f11 s.f12 vout') :: row kM 27 vout' out :: Kx.sL s v5' v7' v8' v9' v10' F)) :
    Calls Tryz.prog 34 #[.agg (rc r (.slice A5 r.f5.length c5) (.slice A7 r.f7.length c7) (.slice A8 r.f8.length c8) (.slice A9 r.f9.length c9) (.slice A10 r.f10.length c10)), .agg (Kx.mA m A c)] w fun e w' => ∃ v5 v7 v8 v9 v10 vout : Value, e = .returned (.tuple #[.agg (rc s v5 v7 v8 v9 v10), vout, .int .i64 0]) ∧ Mem w w' (rows s v5 v7 v8 v9 v10 ++ [row kM 27 vout out]) := by
  have E1 := Aside0.mk h1
  replace hT := Aside0.mk hT
  clear h1
  have H := Aside0.mk h
  have HN := Aside0.mk hn
  have HL := Aside0.mk hl
  have M1 := Aside0.mk ((((Mem.nil w).alloc (Kx.rA r A5 A7 A8 A9 A10 c5 c7 c8 c9 c10) 25).allocAt (Kx.mA m A c) 27 (w.heap.size + 1) (by simp)).allocAt #[.int .i64 0, .int .i64 0, .int .i64 0, .int .i64 0, .int .i64 0, .slice none 0 0, .int .i64 0, .slice none 0 0, .slice none 0 0, .slice none 0 0, .slice none 0 0, .int .i64 0, .int .i64 0] 25 (w.heap.size + 2) (by simp))
  clear h hn hl
  unfold rc
  go_enter Tryz.func34, Tryz.ntmps34
  go_wp2_with fail
  refine (copied_calls r A5 A7 A8 A9 A10 c5 c7 c8 c9 c10 _ (H.out.below M1.out.below) HN.out).mono ?_
  rintro e w2 ⟨v5, v7, v8, v9, v10, rfl, hM⟩
  unfold rc
  obtain ⟨B5, d5, rfl, _, _⟩ := hM.row_at 0 rfl
  obtain ⟨B7, d7, rfl, _, _⟩ := hM.row_at 1 rfl
  obtain ⟨B8, d8, rfl, _, _⟩ := hM.row_at 2 rfl
  obtain ⟨B9, d9, rfl, _, _⟩ := hM.row_at 3 rfl
  obtain ⟨B10, d10, rfl, _, _⟩ := hM.row_at 4 rfl
  have M3 := Aside0.mk (Mem.sel (ps := [_, _, _, _, _, _, _, _]) (F := []) [0, 1, 2, 3, 4, 5, 6, 7] 8 (M1.out.trans hM) rfl rfl)
  clear hM M1
  have hb0 := blk_lt (M3.out.blk_at 5 rfl)
  have hb1 := blk_lt (M3.out.blk_at 6 rfl)
  have hb2 := blk_lt (M3.out.blk_at 7 rfl)
  have M4 := Aside0.mk (M3.out.allocAt #[.int .i64 r.f0, .int .i64 r.f1, .int .i64 r.f2, .int .i64 r.f3, .int .i64 r.f4, .slice B5 r.f5.length d5, .int .i64 r.f6, .slice B7 r.f7.length d7, .slice B8 r.f8.length d8, .slice B9 r.f9.length d9, .slice B10 r.f10.length d10, .int .i64 r.f11, .int .i64 r.f12, .slice none 0 0] 95 w2.heap.size rfl)
  clear M3
  have cR := blk_cell (M4.out.blk_at 8 rfl)
  go_wp2_with fail
  refine (May_calls r A5 A7 A8 A9 A10 c5 c7 c8 c9 c10 _ (Kd.C_below H.out.h5 M4.out.below) (Kd.C_below H.out.h7 M4.out.below) (Kd.C_below H.out.h8 M4.out.below) (Kd.C_below H.out.h9 M4.out.below) (Kd.C_below H.out.h10 M4.out.below) HN.out).mono ?_
  rintro e w3 ⟨he, hM⟩
  rw [E1.out] at he
  subst he
  have M5 := Aside0.mk (Mem.sel (ps := [_, _, _, _, _, _, _, _, _]) (F := []) [0, 1, 2, 3, 4, 5, 6, 7, 8] 9 (M4.out.trans hM) rfl rfl)
  clear hM M4 cR hb0 hb1 hb2
  have cR := blk_cell (M5.out.blk_at 8 rfl)
  have cM := blk_cell (M5.out.blk_at 7 rfl)
  have cZ := blk_cell (M5.out.blk_at 6 rfl)
  have fZ := blk_frozen (M5.out.blk_at 6 rfl)
  have hbW := blk_lt (M5.out.blk_at 0 rfl)
  have hbZ := blk_lt (M5.out.blk_at 6 rfl)
  go_wp2_with fail
  refine (hT.out w _ [_, _, _] w2.heap.size _ _ _ _ _ (Mem.sel (ps := [_, _, _, _, _, _, _, _, _, _]) (F := []) [1, 0, 2, 3, 4, 5, 6, 7, 8, 9] 10 (Mem.row_nil M5.out kM 27) rfl rfl) HL.out).mono ?_
  rintro e w4 ⟨rfl, v5, v7, v8, v9, v10, vo, hM⟩
  obtain ⟨Co, eo, rfl, _, _⟩ := hM.row_at 1 rfl
  obtain ⟨C5, e5, rfl, _, _⟩ := hM.row_at 2 rfl
  obtain ⟨C7, e7, rfl, _, _⟩ := hM.row_at 3 rfl
  obtain ⟨C8, e8, rfl, _, _⟩ := hM.row_at 4 rfl
  obtain ⟨C9, e9, rfl, _, _⟩ := hM.row_at 5 rfl
  obtain ⟨C10, e10, rfl, _, _⟩ := hM.row_at 6 rfl
  have M6 := Aside0.mk hM
  clear hM M5 cR cM cZ fZ hbW hbZ
  have cW := blk_cell (M6.out.blk_at 0 rfl)
  have cZ := blk_cell (M6.out.blk_at 7 rfl)
  have fZ := blk_frozen (M6.out.blk_at 7 rfl)
  have hbZ := blk_lt (M6.out.blk_at 7 rfl)
  have nWZ := Wh0.blk_ne M6.out 0 7 rfl rfl (by decide)
  unfold Wa.wc at cW
  go_upto_region 4 with (fail)
  go_region
  all_goals
    go_wp2
    have MF := (M6.out.setRow 7 rfl [.int .i64 s.f0, .int .i64 s.f1, .int .i64 s.f2, .int .i64 s.f3, .int .i64 s.f4, .slice C5 s.f5.length e5, .int .i64 s.f6, .slice C7 s.f7.length e7, .slice C8 s.f8.length e8, .slice C9 s.f9.length e9, .slice C10 s.f10.length e10, .int .i64 s.f11, .int .i64 s.f12] rfl).drew
    have hgF := MF.blk_at 7 rfl
    refine bodyPost_ret (results_list (rs := [.cell 4 25, .tmp 5, .tmp 6]) rfl (by simp) (.cell (w.heap.size + 2) 25 #[.int .i64 s.f0, .int .i64 s.f1, .int .i64 s.f2, .int .i64 s.f3, .int .i64 s.f4, .slice C5 s.f5.length e5, .int .i64 s.f6, .slice C7 s.f7.length e7, .slice C8 s.f8.length e8, .slice C9 s.f9.length e9, .slice C10 s.f10.length e10, .int .i64 s.f11, .int .i64 s.f12] (0, 0) _ rfl hgF Tryz.underlying25 rfl (by kernel_rfl) (.tmp (.tmp .nil)))) rfl ?_
    exact ⟨_, _, _, _, _, _, rfl, Mem.sel (ps := [_, _, _, _, _, _, _, _, _, _]) (F := []) [2, 3, 4, 5, 6, 1] 10 MF rfl rfl⟩
end Go.Proofs.YtggbjokhniigkaaGreat.Tx
namespace Go.Proofs.YtggbjokhniigkaaGreat.Tt
open Ty Go.RowKit YtggbjokhniigkaaGreatW.PrintWords YtggbjokhniigkaaGreatW.PrintLast YtggbjokhniigkaaGreatW.PrintMore Mx Kx Wa Wb Ta Tb
theorem takes_no (w0 w : World) (F : List Res) (g : Nat) (r : Rep) (m : Msg) (v5 v7 v8 v9 v10 vout : Value) (A : Option Addr) (c : Nat) (hk : 1 ≤ m.f0) (hk8 : m.f0 ≤ 8) (hm : mayM r m = false)
    (hM : Mem w0 w (blk g 95 (Wa.wc r.f0 r.f1 r.f2 r.f3 r.f4 v5 r.f6 v7 v8 v9 v10 r.f11 r.f12 vout) :: row kM 27 vout [] :: Kx.sL r v5 v7 v8 v9 v10 F)) (hl : Kd.C kE w0 A m.f7.length m.f7) (hn : m.f7.length ≤ 1000000000) :
    Calls Tryz.prog 65 #[.pointer (some ⟨g, 0, none⟩), .agg (Kx.mA m A c)] w fun e w' => e = .returned (.bool false) ∧ Mem w0 w' (blk g 95 (Wa.wc r.f0 r.f1 r.f2 r.f3 r.f4 v5 r.f6 v7 v8 v9 v10 r.f11 r.f12 vout) :: row kM 27 vout [] :: Kx.sL r v5 v7 v8 v9 v10 F) := by
  have hmf : ∀ (fn : Fn) (first cap : Array Value) (w : World), (Instr.makeFunc fn first cap).run Tryz.prog w = .ok (.func fn first cap) w := fun _ _ _ _ => rfl
  obtain ⟨B5, d5, rfl, _, _⟩ := hM.row_at 2 rfl
  obtain ⟨B7, d7, rfl, _, _⟩ := hM.row_at 3 rfl
  obtain ⟨B8, d8, rfl, _, _⟩ := hM.row_at 4 rfl
  obtain ⟨B9, d9, rfl, _, _⟩ := hM.row_at 5 rfl
  obtain ⟨B10, d10, rfl, _, _⟩ := hM.row_at 6 rfl
  have HL := Aside0.mk hl
  have HN := Aside0.mk hn
  have HMC : Aside0 (∀ w', Kd.C kE w' A m.f7.length m.f7 → Calls Tryz.prog 110 #[.agg #[.int .i64 r.f0, .int .i64 r.f1, .int .i64 r.f2, .int .i64 r.f3, .int .i64 r.f4, .slice B5 r.f5.length d5, .int .i64 r.f6, .slice B7 r.f7.length d7, .slice B8 r.f8.length d8, .slice B9 r.f9.length d9, .slice B10 r.f10.length d10, .int .i64 r.f11, .int .i64 r.f12], .agg (Kx.mA m A c)] w' fun e w'' => e = .returned (.bool false) ∧ Mem w' w'' []) :=
    ⟨fun w' h => by have := mayM_calls r m B5 B7 B8 B9 B10 A d5 d7 d8 d9 d10 c w' h hn; rw [hm] at this; exact this⟩
  have k1 : decide (m.f0 < 1) = false := by simp; omega
  have k2 : decide (9 ≤ m.f0) = false := by simp; omega
  have M1 := Aside0.mk (((hM.alloc (Kx.mA m A c) 27).allocAt #[.bool false] 4 (w.heap.size + 1) (by simp)).allocAt #[.nilFunc, .func (Fn.func 103) #[.pointer (some ⟨g, 0, none⟩)] #[], .func (Fn.func 104) #[.pointer (some ⟨g, 0, none⟩)] #[], .func (Fn.func 103) #[.pointer (some ⟨g, 0, none⟩)] #[], .func (Fn.func 105) #[.pointer (some ⟨g, 0, none⟩)] #[], .func (Fn.func 106) #[.pointer (some ⟨g, 0, none⟩)] #[], .func (Fn.func 107) #[.pointer (some ⟨g, 0, none⟩)] #[], .func (Fn.func 108) #[.pointer (some ⟨g, 0, none⟩)] #[], .func (Fn.func 109) #[.pointer (some ⟨g, 0, none⟩)] #[]] 122 (w.heap.size + 2) (by simp))
  clear hl hn hM hm hk hk8
  have cM := blk_cell (M1.out.blk_at 2 rfl)
  have cB := blk_cell (M1.out.blk_at 1 rfl)
  have cF := blk_cell (M1.out.blk_at 0 rfl)
  have cG := blk_cell (M1.out.blk_at 3 rfl)
  unfold Wa.wc at cG
  go_enter_defers Tryz.func65, Tryz.ntmps65
  go_wp2_with fail
  go_upto_region 3 with (fail)
  clear cM cB cF cG
  obtain ⟨wc, hwc⟩ : ∃ wc : World, ((w.alloc (Obj.cells (Kx.mA m A c) 27)).alloc (Obj.cells #[.bool false] 4)).alloc (Obj.cells #[.nilFunc, .func (Fn.func 103) #[.pointer (some ⟨g, 0, none⟩)] #[], .func (Fn.func 104) #[.pointer (some ⟨g, 0, none⟩)] #[], .func (Fn.func 103) #[.pointer (some ⟨g, 0, none⟩)] #[], .func (Fn.func 105) #[.pointer (some ⟨g, 0, none⟩)] #[], .func (Fn.func 106) #[.pointer (some ⟨g, 0, none⟩)] #[], .func (Fn.func 107) #[.pointer (some ⟨g, 0, none⟩)] #[], .func (Fn.func 108) #[.pointer (some ⟨g, 0, none⟩)] #[], .func (Fn.func 109) #[.pointer (some ⟨g, 0, none⟩)] #[]] 122) = wc := ⟨_, rfl⟩
  rw [hwc] at M1 ⊢
  clear hwc
  have cM := blk_cell (M1.out.blk_at 2 rfl)
  have cG0 := blk_cell (M1.out.blk_at 3 rfl)
  have HG0 := Aside0.mk cG0
  have HM0 := Aside0.mk cM
  have cG := cG0
  unfold Wa.wc at cG
  clear cG0
  have M1D := Aside0.mk M1.out.drew
  have HS0 := Aside0.mk (show (∀ j : Nat, wc.drew.cell? ⟨w.heap.size, j, none⟩ = wc.cell? ⟨w.heap.size, j, none⟩) ∧ (∀ j : Nat, wc.drew.cell? ⟨g, j, none⟩ = wc.cell? ⟨g, j, none⟩) from ⟨fun _ => rfl, fun _ => rfl⟩)
  have H9 := HS0
  go_region_held3 (fun w' => (∀ j : Nat, w'.cell? ⟨w.heap.size, j, none⟩ = wc.cell? ⟨w.heap.size, j, none⟩) ∧ (∀ j : Nat, w'.cell? ⟨g, j, none⟩ = wc.cell? ⟨g, j, none⟩)) (first | with_reducible exact HS0.out | with_reducible exact H9.out | fail) ((go_at_call 110; refine (HMC.out _ (Kd.C_below HL.out M1D.out.below)).mono ?_; rintro e w1 ⟨rfl, hM⟩; have M2 := Aside0.mk (M1D.out.trans hM); clear hM; have H9 := Aside0.mk (show (∀ j : Nat, w1.cell? ⟨w.heap.size, j, none⟩ = wc.cell? ⟨w.heap.size, j, none⟩) ∧ (∀ j : Nat, w1.cell? ⟨g, j, none⟩ = wc.cell? ⟨g, j, none⟩) from ⟨fun j => (blk_cell (M2.out.blk_at 2 rfl) j).trans (HM0.out j).symm, fun j => (blk_cell (M2.out.blk_at 3 rfl) j).trans (HG0.out j).symm⟩)))
  clear H9 HS0 HM0 HG0 M1D cM cG M1
  have cB : w1.cell? ⟨w.heap.size + 1, 0, none⟩ = some (.bool false) := blk_cell (M2.out.blk_at 1 rfl) 0
  have fB : w1.frozen? ⟨w.heap.size + 1, 0, none⟩ = false := blk_frozen (M2.out.blk_at 1 rfl) 0
  go_wp2
  refine leaves_cons (f := 102) (args := #[.pointer (some ⟨w.heap.size + 1, 0, none⟩)]) (by simp) (by simp [go_sem]) ?_
  refine (catch_panicking ⟨w.heap.size + 1, 0, none⟩ [] _ false cB fB).mono ?_
  rintro e u' w4 ⟨rfl, rfl, w3, hM, rfl⟩
  have M4 := (M2.out.trans hM).set 1 rfl 0 (.bool false)
  have cE : (w3.setCell ⟨w.heap.size + 1, 0, none⟩ (.bool false)).cell? ⟨w.heap.size + 1, 0, none⟩ = some (.bool false) := blk_cell (M4.blk_at 1 rfl) 0
  clear hM
  simp [Leaves, settle, results, Tryz.results65, go_sem, cE]
  exact Mem.sel (ps := [_, _, _, _, _, _, _, _, _, _]) (F := F) [3, 4, 5, 6, 7, 8, 9] 10 M4 rfl rfl
end Go.Proofs.YtggbjokhniigkaaGreat.Tt
namespace Go.Proofs.YtggbjokhniigkaaGreat.Ua
open Ty Go.RowKit YtggbjokhniigkaaGreatW.PrintWords YtggbjokhniigkaaGreatW.PrintLast YtggbjokhniigkaaGreatW.PrintMore Mx Kx Wa Wb Wc Wd Vc Sa Wj Tk Tb Tn Tt Tx Tr Tz
def FewOf (s : Rep) (msgs : List Msg) : Prop := (s.f5.length ≤ 1000000 ∧ Small s) ∧ (msgs.length ≤ 1000000000 ∧ ∀ i, (rd_Msg msgs i).f7.length ≤ 1000000000)
theorem rd_f7 {l : List Msg} {n : Nat} (h : ∀ x ∈ l, x.f7.length ≤ n) (i : Int) : (rd_Msg l i).f7.length ≤ n := by
  unfold rd_Msg
  rcases Nat.lt_or_ge i.toNat l.length with g | g
  · rw [List.getD, List.getElem?_eq_getElem g]
    exact h _ (List.getElem_mem g)
  · rw [List.getD, List.getElem?_eq_none g]
    exact Nat.zero_le _
theorem few_same {r : Rep} (hs : r.f5.length ≤ 1200 ∧ r.f7.length ≤ 20 ∧ r.f8.length ≤ 20 ∧ r.f9.length ≤ 20 ∧ r.f10.length ≤ 1200) : FewOf r [] :=
  ⟨⟨Nat.le_trans hs.1 (by decide), ⟨Nat.le_trans hs.1 (by decide), Nat.le_trans hs.2.1 (by decide), Nat.le_trans hs.2.2.1 (by decide), Nat.le_trans hs.2.2.2.1 (by decide), Nat.le_trans hs.2.2.2.2 (by decide)⟩⟩, Nat.zero_le _, rd_f7 (by simp)⟩
theorem mayP_iff (r : Rep) (m : Msg) : mayMsgP r m ↔ mayMsg r m = true := by
  unfold mayMsgP mayMsg mayM
  simp only [Bool.and_eq_true, decide_eq_true_eq, Bool.or_eq_true, Bool.not_eq_true', beq_eq_false_iff_ne, beq_iff_eq, ne_eq]
  constructor
  · rintro ⟨a1, a2, a3, a4, a5, a6, a7, a8, a9, a10, a11, a12⟩
    refine ⟨a1, a2, a3, a4, a5, a6, a7, a8, a9, a10, a11, ?_⟩
    by_cases h : m.f0 = 1
    · exact .inr (by have := a12 h; omega)
    · exact .inl h
  · rintro ⟨a1, a2, a3, a4, a5, a6, a7, a8, a9, a10, a11, a12⟩
    exact ⟨a1, a2, a3, a4, a5, a6, a7, a8, a9, a10, a11, fun h => a12.elim (fun h' => absurd h h') (fun h' => by omega)⟩
theorem mayMsg_in (r : Rep) (m : Msg) (h1 : 1 ≤ m.f0) (h8 : m.f0 ≤ 8) : mayMsg r m = mayM r m := by simp [mayMsg, h1, h8]
theorem may_P {r : Rep} {m : Msg} (h1 : 1 ≤ m.f0) (h8 : m.f0 ≤ 8) (h : mayM r m = true) : mayMsgP r m := (mayP_iff r m).2 ((mayMsg_in r m h1 h8).trans h)
/-- Refused, or what both make of it. -/
theorem takesAs_of (r : Rep) (m : Msg) (A5 A7 A8 A9 A10 A : Option Addr) (c5 c7 c8 c9 c10 c : Nat) (k1 : 1 ≤ m.f0) (k8 : m.f0 ≤ 8) (hc : Fit r c5 c7 c8 c9 c10) (hs : r.f5.length ≤ 1200 ∧ r.f7.length ≤ 20 ∧ r.f8.length ≤ 20 ∧ r.f9.length ≤ 20 ∧ r.f10.length ≤ 1200) (hln : m.f7.length ≤ 1200) (hlc : m.f7.length ≤ c)
    (hgood : may r = true → mayM r m = true → ∃ (s : Rep) (msgs : List Msg), FewOf s msgs ∧ (∀ w, RdRep w r A5 A7 A8 A9 A10 → Kd.C kE w A m.f7.length m.f7 → Calls Tryz.prog 34 #[.agg (rc r (.slice A5 r.f5.length c5) (.slice A7 r.f7.length c7) (.slice A8 r.f8.length c8) (.slice A9 r.f9.length c9) (.slice A10 r.f10.length c10)), .agg (Kx.mA m A c)] w fun e w' => ∃ v5 v7 v8 v9 v10 vout : Value, e = .returned (.tuple #[.agg (rc s v5 v7 v8 v9 v10), vout, .int .i64 0]) ∧ Mem w w' (rows s v5 v7 v8 v9 v10 ++ [row kM 27 vout msgs])) ∧ (∀ w, RdRep w r A5 A7 A8 A9 A10 → Kd.C kE w A m.f7.length m.f7 → Calls Tryz.prog 35 #[.agg (Kx.rA r A5 A7 A8 A9 A10 c5 c7 c8 c9 c10), .agg (Kx.mA m A c)] w fun e w' => OutS w w' e s msgs 0)) : TakesAs r m A5 A7 A8 A9 A10 A c5 c7 c8 c9 c10 c := by
  have hn : Small r := ⟨Nat.le_trans hs.1 (by decide), Nat.le_trans hs.2.1 (by decide), Nat.le_trans hs.2.2.1 (by decide), Nat.le_trans hs.2.2.2.1 (by decide), Nat.le_trans hs.2.2.2.2 (by decide)⟩
  have hin : mayMsg r m = mayM r m := mayMsg_in r m k1 k8
  cases h1 : may r with
  | false => exact ⟨r, [], 1, (few_same hs).1, (few_same hs).2, fun w h hl => Take_e1 r m A5 A7 A8 A9 A10 A c5 c7 c8 c9 c10 c w h hn hl h1, fun w h hl => Take11_e1 r m A5 A7 A8 A9 A10 A c5 c7 c8 c9 c10 c w h hc hs hl hlc (Nat.le_trans hln (by decide)) h1⟩
  | true =>
    cases h2 : mayM r m with
    | false => exact ⟨r, [], 1, (few_same hs).1, (few_same hs).2, fun w h hl => Take_e2 r m A5 A7 A8 A9 A10 A c5 c7 c8 c9 c10 c w h hn hl h1 (fun w0 w F g v5 v7 v8 v9 v10 hM hl => takes_no w0 w F g r m v5 v7 v8 v9 v10 (.slice none 0 0) A c k1 k8 h2 hM hl (Nat.le_trans hln (by decide))), fun w h hl => Take11_e2 r m A5 A7 A8 A9 A10 A c5 c7 c8 c9 c10 c w h hc hs hl hlc (Nat.le_trans hln (by decide)) h1 (hin.trans h2)⟩
    | true =>
      obtain ⟨s, msgs, hf, t1, t2⟩ := hgood h1 h2
      exact ⟨s, msgs, 0, hf.1, hf.2, t1, t2⟩
end Go.Proofs.YtggbjokhniigkaaGreat.Ua
