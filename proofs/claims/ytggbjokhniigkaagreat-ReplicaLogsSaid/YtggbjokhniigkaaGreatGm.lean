/- Texts laid together: Ta, Tt. No condition. -/
import Derived.Test.YtggbjokhniigkaaGreatGc
import Derived.Defers
import Derived.Recover
import Derived.Laws.Pointers
import Derived.KernelRfl
import Derived.Test.YtggbjokhniigkaaGreatTbq
import Derived.Deep.RegionHeld3
/- Walks: the closure that worker.takes defers. -/
namespace Go.Proofs.YtggbjokhniigkaaGreat.Ta
open Go.Proofs.YtggbjokhniigkaaGreat.Ty Go.RowKit Go.Proofs.YtggbjokhniigkaaGreatW.PrintWords Go.Proofs.YtggbjokhniigkaaGreatW.PrintLast Go.Proofs.YtggbjokhniigkaaGreatW.PrintMore Go.Proofs.YtggbjokhniigkaaGreat.Mx Go.Proofs.YtggbjokhniigkaaGreat.Kx Go.Proofs.YtggbjokhniigkaaGreat.Wa
set_option linter.unusedVariables false
set_option linter.unusedSimpArgs false
set_option maxRecDepth 100000
theorem ta_nil (w : World) : (Instr.typeAssert Value.nilIface 20 124 true).run Tryz.prog w = .ok (.tuple #[.agg #[], .bool false]) w := by kernel_rfl
theorem ta_refusal (w : World) : (Instr.typeAssert (Value.iface 124 (.agg #[])) 20 124 true).run Tryz.prog w = .ok (.tuple #[.agg #[], .bool true]) w := by kernel_rfl
theorem catch_idle (p : Addr) (w : World) :
    CallsD Tryz.prog 102 #[.pointer (some p)] .returning w fun e u' w' =>
      e = .returned (.tuple #[]) ∧ u' = .returning ∧ Mem w w' [] := by
  refine callsD_of_wpS Tryz.func102 rfl fun c₀ cs hu => ?_
  apply wpS_seq
  apply wpS_region
  simp [wpOpsS, go_sem, recoverD, hu, Tryz.ntmps102, Exit.thenS, ta_nil]
  apply wpS_seq
  apply wpS_region
  simp [wpOpsS, go_sem, Exit.thenS]
  refine wpS_cond (t := false) (by simp [Act.eval, Array.replicate]) ?_
  simp only [Bool.false_eq_true, if_false]
  refine wpS_of_wp (wp_skip ?_)
  have hM : Mem w (w.alloc (Obj.cells #[] 124)) [] := Mem.sel (ps := [_]) (F := []) [] 1 ((Mem.nil w).alloc #[] 124) rfl rfl
  cases c₀
  simp_all [bodyPostS, results, Tryz.results102]
theorem catch_panicking (p : Addr) (older : List PanicEntry) (w : World) (x : Bool) (hc : w.cell? p = some (.bool x)) (hz : w.frozen? p = false) :
    CallsD Tryz.prog 102 #[.pointer (some p)] (.panicking ({ v := .iface 124 (.agg #[]), recovered := false } :: older)) w fun e u' w' =>
      e = .returned (.tuple #[]) ∧ u' = .panicking ({ v := .iface 124 (.agg #[]), recovered := true } :: older) ∧ ∃ w1, Mem w w1 [] ∧ w' = w1.setCell p (.bool false) := by
  refine callsD_of_wpS Tryz.func102 rfl fun c₀ cs hu => ?_
  apply wpS_seq
  apply wpS_region
  simp [wpOpsS, go_sem, recoverD, hu, Tryz.ntmps102, Exit.thenS, ta_refusal]
  apply wpS_seq
  apply wpS_region
  simp [wpOpsS, go_sem, Exit.thenS]
  refine wpS_cond (t := true) (by simp [Act.eval, Array.replicate]) ?_
  simp only [if_true]
  have hM : Mem w (w.alloc (Obj.cells #[] 124)) [] := Mem.sel (ps := [_]) (F := []) [] 1 ((Mem.nil w).alloc #[] 124) rfl rfl
  have hlt := World.block_lt_of_cell? w p hc
  have hc' : (w.alloc (Obj.cells #[] 124)).cell? p = some (.bool x) := (hM.below.cell hlt).trans hc
  have hz' : (w.alloc (Obj.cells #[] 124)).frozen? p = false := (hM.below.frozen hlt).trans hz
  apply wpS_region
  simp [wpOpsS, go_sem, hc', hz', bodyPostS, results, Tryz.results102]
  exact ⟨_, hM, rfl⟩
end Go.Proofs.YtggbjokhniigkaaGreat.Ta
/- Walks: worker.takes. -/
namespace Go.Proofs.YtggbjokhniigkaaGreat.Tt
open Go.Proofs.YtggbjokhniigkaaGreat.Ty Go.RowKit Go.Proofs.YtggbjokhniigkaaGreatW.PrintWords Go.Proofs.YtggbjokhniigkaaGreatW.PrintLast Go.Proofs.YtggbjokhniigkaaGreatW.PrintMore Go.Proofs.YtggbjokhniigkaaGreat.Mx Go.Proofs.YtggbjokhniigkaaGreat.Kx Go.Proofs.YtggbjokhniigkaaGreat.Wa Go.Proofs.YtggbjokhniigkaaGreat.Wb Go.Proofs.YtggbjokhniigkaaGreat.Ta Go.Proofs.YtggbjokhniigkaaGreat.Tb
set_option linter.unusedVariables false
set_option linter.unusedSimpArgs false
set_option maxRecDepth 100000 in
set_option maxHeartbeats 8000000 in
theorem takes_no (w0 w : World) (F : List Res) (g : Nat) (r : Rep) (m : Msg) (v5 v7 v8 v9 v10 vout : Value) (A : Option Addr) (c : Nat) (hk : 1 ≤ m.f0) (hk8 : m.f0 ≤ 8) (hm : mayM r m = false)
    (hM : Mem w0 w (blk g 95 (Wa.wc r.f0 r.f1 r.f2 r.f3 r.f4 v5 r.f6 v7 v8 v9 v10 r.f11 r.f12 vout) :: row kM 27 vout [] :: row kE 68 v5 r.f5 :: row (Kd.int .i64) 3 v7 r.f7 :: row (Kd.int .i64) 3 v8 r.f8 :: row (Kd.int .i64) 3 v9 r.f9 :: row kE 68 v10 r.f10 :: F)) (hl : Kd.C kE w0 A m.f7.length m.f7) (hn : m.f7.length ≤ 1000000000) :
    Calls Tryz.prog 65 #[.pointer (some ⟨g, 0, none⟩), .agg #[.int .i64 m.f0, .int .i64 m.f1, .int .i64 m.f2, .int .i64 m.f3, .int .i64 m.f4, .int .i64 m.f5, .int .i64 m.f6, .slice A m.f7.length c]] w fun e w' => e = .returned (.bool false) ∧ Mem w0 w' (blk g 95 (Wa.wc r.f0 r.f1 r.f2 r.f3 r.f4 v5 r.f6 v7 v8 v9 v10 r.f11 r.f12 vout) :: row kM 27 vout [] :: row kE 68 v5 r.f5 :: row (Kd.int .i64) 3 v7 r.f7 :: row (Kd.int .i64) 3 v8 r.f8 :: row (Kd.int .i64) 3 v9 r.f9 :: row kE 68 v10 r.f10 :: F) := by
  have hmf : ∀ (fn : Fn) (first cap : Array Value) (w : World), (Instr.makeFunc fn first cap).run Tryz.prog w = .ok (.func fn first cap) w := fun _ _ _ _ => rfl
  obtain ⟨B5, d5, rfl, _, _⟩ := hM.row_at 2 rfl
  obtain ⟨B7, d7, rfl, _, _⟩ := hM.row_at 3 rfl
  obtain ⟨B8, d8, rfl, _, _⟩ := hM.row_at 4 rfl
  obtain ⟨B9, d9, rfl, _, _⟩ := hM.row_at 5 rfl
  obtain ⟨B10, d10, rfl, _, _⟩ := hM.row_at 6 rfl
  have HL := Aside0.mk hl
  have HN := Aside0.mk hn
  have HMC : Aside0 (∀ w', Kd.C kE w' A m.f7.length m.f7 → Calls Tryz.prog 110 #[.agg #[.int .i64 r.f0, .int .i64 r.f1, .int .i64 r.f2, .int .i64 r.f3, .int .i64 r.f4, .slice B5 r.f5.length d5, .int .i64 r.f6, .slice B7 r.f7.length d7, .slice B8 r.f8.length d8, .slice B9 r.f9.length d9, .slice B10 r.f10.length d10, .int .i64 r.f11, .int .i64 r.f12], .agg #[.int .i64 m.f0, .int .i64 m.f1, .int .i64 m.f2, .int .i64 m.f3, .int .i64 m.f4, .int .i64 m.f5, .int .i64 m.f6, .slice A m.f7.length c]] w' fun e w'' => e = .returned (.bool false) ∧ Mem w' w'' []) :=
    ⟨fun w' h => by have := mayM_calls r m B5 B7 B8 B9 B10 A d5 d7 d8 d9 d10 c w' h hn; rw [hm] at this; exact this⟩
  have k1 : decide (m.f0 < 1) = false := by simp; omega
  have k2 : decide (9 ≤ m.f0) = false := by simp; omega
  have M1 := Aside0.mk (((hM.alloc #[.int .i64 m.f0, .int .i64 m.f1, .int .i64 m.f2, .int .i64 m.f3, .int .i64 m.f4, .int .i64 m.f5, .int .i64 m.f6, .slice A m.f7.length c] 27).allocAt #[.bool false] 4 (w.heap.size + 1) (by simp)).allocAt #[.nilFunc, .func (Fn.func 103) #[.pointer (some ⟨g, 0, none⟩)] #[], .func (Fn.func 104) #[.pointer (some ⟨g, 0, none⟩)] #[], .func (Fn.func 103) #[.pointer (some ⟨g, 0, none⟩)] #[], .func (Fn.func 105) #[.pointer (some ⟨g, 0, none⟩)] #[], .func (Fn.func 106) #[.pointer (some ⟨g, 0, none⟩)] #[], .func (Fn.func 107) #[.pointer (some ⟨g, 0, none⟩)] #[], .func (Fn.func 108) #[.pointer (some ⟨g, 0, none⟩)] #[], .func (Fn.func 109) #[.pointer (some ⟨g, 0, none⟩)] #[]] 122 (w.heap.size + 2) (by simp))
  clear hl hn hM hm hk hk8
  have cM := blk_cell (M1.out.blk_at 2 rfl)
  have cB := blk_cell (M1.out.blk_at 1 rfl)
  have cF := blk_cell (M1.out.blk_at 0 rfl)
  have cG := blk_cell (M1.out.blk_at 3 rfl)
  unfold Wa.wc at cG
  go_enter_defers Tryz.func65, Tryz.ntmps65
  go_wp2_with fail
  go_upto_region 3 with (fail)
  clear cM cB cF cG
  obtain ⟨wc, hwc⟩ : ∃ wc : World, ((w.alloc (Obj.cells #[.int .i64 m.f0, .int .i64 m.f1, .int .i64 m.f2, .int .i64 m.f3, .int .i64 m.f4, .int .i64 m.f5, .int .i64 m.f6, .slice A m.f7.length c] 27)).alloc (Obj.cells #[.bool false] 4)).alloc (Obj.cells #[.nilFunc, .func (Fn.func 103) #[.pointer (some ⟨g, 0, none⟩)] #[], .func (Fn.func 104) #[.pointer (some ⟨g, 0, none⟩)] #[], .func (Fn.func 103) #[.pointer (some ⟨g, 0, none⟩)] #[], .func (Fn.func 105) #[.pointer (some ⟨g, 0, none⟩)] #[], .func (Fn.func 106) #[.pointer (some ⟨g, 0, none⟩)] #[], .func (Fn.func 107) #[.pointer (some ⟨g, 0, none⟩)] #[], .func (Fn.func 108) #[.pointer (some ⟨g, 0, none⟩)] #[], .func (Fn.func 109) #[.pointer (some ⟨g, 0, none⟩)] #[]] 122) = wc := ⟨_, rfl⟩
  rw [hwc] at M1 ⊢
  clear hwc
  have cM := blk_cell (M1.out.blk_at 2 rfl)
  have cG0 := blk_cell (M1.out.blk_at 3 rfl)
  have HG0 := Aside0.mk cG0
  have HM0 := Aside0.mk cM
  have cG := cG0
  unfold Wa.wc at cG
  clear cG0
  have M1D := Aside0.mk M1.out.drew
  have HS0 := Aside0.mk (show (∀ j : Nat, wc.drew.cell? ⟨w.heap.size, j, none⟩ = wc.cell? ⟨w.heap.size, j, none⟩) ∧ (∀ j : Nat, wc.drew.cell? ⟨g, j, none⟩ = wc.cell? ⟨g, j, none⟩) from ⟨fun _ => rfl, fun _ => rfl⟩)
  have H9 := HS0
  go_region_held3 (fun w' => (∀ j : Nat, w'.cell? ⟨w.heap.size, j, none⟩ = wc.cell? ⟨w.heap.size, j, none⟩) ∧ (∀ j : Nat, w'.cell? ⟨g, j, none⟩ = wc.cell? ⟨g, j, none⟩)) (first | with_reducible exact HS0.out | with_reducible exact H9.out | fail) ((go_at_call 110; refine (HMC.out _ (Kd.C_below HL.out M1D.out.below)).mono ?_; rintro e w1 ⟨rfl, hM⟩; have M2 := Aside0.mk (M1D.out.trans hM); clear hM; have H9 := Aside0.mk (show (∀ j : Nat, w1.cell? ⟨w.heap.size, j, none⟩ = wc.cell? ⟨w.heap.size, j, none⟩) ∧ (∀ j : Nat, w1.cell? ⟨g, j, none⟩ = wc.cell? ⟨g, j, none⟩) from ⟨fun j => (blk_cell (M2.out.blk_at 2 rfl) j).trans (HM0.out j).symm, fun j => (blk_cell (M2.out.blk_at 3 rfl) j).trans (HG0.out j).symm⟩)))
  clear H9 HS0 HM0 HG0 M1D cM cG M1
  have cB : w1.cell? ⟨w.heap.size + 1, 0, none⟩ = some (.bool false) := blk_cell (M2.out.blk_at 1 rfl) 0
  have fB : w1.frozen? ⟨w.heap.size + 1, 0, none⟩ = false := blk_frozen (M2.out.blk_at 1 rfl) 0
  go_wp2
  refine leaves_cons (f := 102) (args := #[.pointer (some ⟨w.heap.size + 1, 0, none⟩)]) (by simp) (by simp [go_sem]) ?_
  refine (catch_panicking ⟨w.heap.size + 1, 0, none⟩ [] _ false cB fB).mono ?_
  rintro e u' w4 ⟨rfl, rfl, w3, hM, rfl⟩
  have M4 := (M2.out.trans hM).set 1 rfl 0 (.bool false)
  have cE : (w3.setCell ⟨w.heap.size + 1, 0, none⟩ (.bool false)).cell? ⟨w.heap.size + 1, 0, none⟩ = some (.bool false) := blk_cell (M4.blk_at 1 rfl) 0
  clear hM
  simp [Leaves, settle, results, Tryz.results65, go_sem, cE]
  exact Mem.sel (ps := [_, _, _, _, _, _, _, _, _, _]) (F := F) [3, 4, 5, 6, 7, 8, 9] 10 M4 rfl rfl
end Go.Proofs.YtggbjokhniigkaaGreat.Tt
