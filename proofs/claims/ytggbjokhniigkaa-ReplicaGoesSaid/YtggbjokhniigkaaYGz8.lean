/- Texts laid together: Tb, Tt, Va, Vb. No condition. -/
import Derived.Deep.RegionHeld3
import Derived.Test.YtggbjokhniigkaaYGz7
set_option linter.unusedVariables false
set_option linter.unusedSimpArgs false
set_option maxRecDepth 100000
set_option maxHeartbeats 8000000
namespace Go.Proofs.Ytggbjokhniigkaa.Tb
open Ty Go.RowKit YtggbjokhniigkaaW.PrintWords YtggbjokhniigkaaW.PrintLast YtggbjokhniigkaaW.PrintMore Mx Kx Wa Wb
/-- May a message be handed to a replica (its kind is asked elsewhere)? -/
def mayM (r : Rep) (m : Msg) : Bool :=
  decide (0 ≤ m.f1) && (decide (m.f1 < r.f1) && (!(m.f1 == r.f0) && ((m.f2 == r.f0) && (below m.f3 && (below m.f4 && (below m.f5 && (below m.f6 && (log m.f7 && (!(m.f0 == 1) || ((m.f7.length : Int) == 1))))))))))
theorem may_c1 (r : Rep) (m : Msg) (A5 A7 A8 A9 A10 A : Option Addr) (c5 c7 c8 c9 c10 c : Nat) (w : World) (hl : Kd.C kE w A m.f7.length m.f7) (hn : m.f7.length ≤ 1000000000) (c1 : ¬ (0 ≤ m.f1)) :
    Calls Try.prog 103 #[.agg (Kx.rA r A5 A7 A8 A9 A10 c5 c7 c8 c9 c10), .agg (Kx.mA m A c)] w fun e w' => e = .returned (.bool false) ∧ Mem w w' [] := by
  have HL := Aside0.mk hl
  have HN := Aside0.mk hn
  have M1 := Aside0.mk (((Mem.nil w).alloc (Kx.rA r A5 A7 A8 A9 A10 c5 c7 c8 c9 c10) 45).allocAt (Kx.mA m A c) 29 (w.heap.size + 1) (by simp))
  clear hl hn
  have cM := blk_cell (M1.out.blk_at 0 rfl)
  have cR := blk_cell (M1.out.blk_at 1 rfl)
  have e1 : decide (0 ≤ m.f1) = false := by simpa using c1
  clear c1
  go_enter Try.func103, Try.ntmps103
  go_wp2_with fail
  go_ret
  exact ⟨rfl, Mem.sel (ps := [_, _]) (F := []) [] 2 M1.out rfl rfl⟩
theorem may_c2 (r : Rep) (m : Msg) (A5 A7 A8 A9 A10 A : Option Addr) (c5 c7 c8 c9 c10 c : Nat) (w : World) (hl : Kd.C kE w A m.f7.length m.f7) (hn : m.f7.length ≤ 1000000000) (c1 : 0 ≤ m.f1) (c2 : ¬ (m.f1 < r.f1)) :
    Calls Try.prog 103 #[.agg (Kx.rA r A5 A7 A8 A9 A10 c5 c7 c8 c9 c10), .agg (Kx.mA m A c)] w fun e w' => e = .returned (.bool false) ∧ Mem w w' [] := by
  have HL := Aside0.mk hl
  have HN := Aside0.mk hn
  have M1 := Aside0.mk (((Mem.nil w).alloc (Kx.rA r A5 A7 A8 A9 A10 c5 c7 c8 c9 c10) 45).allocAt (Kx.mA m A c) 29 (w.heap.size + 1) (by simp))
  clear hl hn
  have cM := blk_cell (M1.out.blk_at 0 rfl)
  have cR := blk_cell (M1.out.blk_at 1 rfl)
  have e1 : decide (0 ≤ m.f1) = true := by simpa using c1
  clear c1
  have e2 : decide (m.f1 < r.f1) = false := by simpa using c2
  clear c2
  go_enter Try.func103, Try.ntmps103
  go_wp2_with fail
  go_ret
  exact ⟨rfl, Mem.sel (ps := [_, _]) (F := []) [] 2 M1.out rfl rfl⟩
theorem may_c3 (r : Rep) (m : Msg) (A5 A7 A8 A9 A10 A : Option Addr) (c5 c7 c8 c9 c10 c : Nat) (w : World) (hl : Kd.C kE w A m.f7.length m.f7) (hn : m.f7.length ≤ 1000000000) (c1 : 0 ≤ m.f1) (c2 : m.f1 < r.f1) (c3 : ¬ (¬ m.f1 = r.f0)) :
    Calls Try.prog 103 #[.agg (Kx.rA r A5 A7 A8 A9 A10 c5 c7 c8 c9 c10), .agg (Kx.mA m A c)] w fun e w' => e = .returned (.bool false) ∧ Mem w w' [] := by
  have HL := Aside0.mk hl
  have HN := Aside0.mk hn
  have M1 := Aside0.mk (((Mem.nil w).alloc (Kx.rA r A5 A7 A8 A9 A10 c5 c7 c8 c9 c10) 45).allocAt (Kx.mA m A c) 29 (w.heap.size + 1) (by simp))
  clear hl hn
  have cM := blk_cell (M1.out.blk_at 0 rfl)
  have cR := blk_cell (M1.out.blk_at 1 rfl)
  have e1 : decide (0 ≤ m.f1) = true := by simpa using c1
  clear c1
  have e2 : decide (m.f1 < r.f1) = true := by simpa using c2
  clear c2
  have e3 : (m.f1 == r.f0) = true := by simpa using c3
  have e3' : (m.f1 != r.f0) = false := by simpa using c3
  clear c3
  go_enter Try.func103, Try.ntmps103
  go_wp2_with fail
  go_ret
  exact ⟨rfl, Mem.sel (ps := [_, _]) (F := []) [] 2 M1.out rfl rfl⟩
theorem may_c4 (r : Rep) (m : Msg) (A5 A7 A8 A9 A10 A : Option Addr) (c5 c7 c8 c9 c10 c : Nat) (w : World) (hl : Kd.C kE w A m.f7.length m.f7) (hn : m.f7.length ≤ 1000000000) (c1 : 0 ≤ m.f1) (c2 : m.f1 < r.f1) (c3 : ¬ m.f1 = r.f0) (c4 : ¬ (m.f2 = r.f0)) :
    Calls Try.prog 103 #[.agg (Kx.rA r A5 A7 A8 A9 A10 c5 c7 c8 c9 c10), .agg (Kx.mA m A c)] w fun e w' => e = .returned (.bool false) ∧ Mem w w' [] := by
  have HL := Aside0.mk hl
  have HN := Aside0.mk hn
  have M1 := Aside0.mk (((Mem.nil w).alloc (Kx.rA r A5 A7 A8 A9 A10 c5 c7 c8 c9 c10) 45).allocAt (Kx.mA m A c) 29 (w.heap.size + 1) (by simp))
  clear hl hn
  have cM := blk_cell (M1.out.blk_at 0 rfl)
  have cR := blk_cell (M1.out.blk_at 1 rfl)
  have e1 : decide (0 ≤ m.f1) = true := by simpa using c1
  clear c1
  have e2 : decide (m.f1 < r.f1) = true := by simpa using c2
  clear c2
  have e3 : (m.f1 == r.f0) = false := by simpa using c3
  have e3' : (m.f1 != r.f0) = true := by simpa using c3
  clear c3
  have e4 : (m.f2 == r.f0) = false := by simpa using c4
  clear c4
  go_enter Try.func103, Try.ntmps103
  go_wp2_with fail
  go_ret
  exact ⟨rfl, Mem.sel (ps := [_, _]) (F := []) [] 2 M1.out rfl rfl⟩
theorem may_b3 (r : Rep) (m : Msg) (A5 A7 A8 A9 A10 A : Option Addr) (c5 c7 c8 c9 c10 c : Nat) (w : World) (hl : Kd.C kE w A m.f7.length m.f7) (hn : m.f7.length ≤ 1000000000) (c1 : 0 ≤ m.f1) (c2 : m.f1 < r.f1) (c3 : ¬ m.f1 = r.f0) (c4 : m.f2 = r.f0) (b3 : ¬ (below m.f3 = true)) :
    Calls Try.prog 103 #[.agg (Kx.rA r A5 A7 A8 A9 A10 c5 c7 c8 c9 c10), .agg (Kx.mA m A c)] w fun e w' => e = .returned (.bool false) ∧ Mem w w' [] := by
  have HL := Aside0.mk hl
  have HN := Aside0.mk hn
  have M1 := Aside0.mk (((Mem.nil w).alloc (Kx.rA r A5 A7 A8 A9 A10 c5 c7 c8 c9 c10) 45).allocAt (Kx.mA m A c) 29 (w.heap.size + 1) (by simp))
  clear hl hn
  have cM := blk_cell (M1.out.blk_at 0 rfl)
  have cR := blk_cell (M1.out.blk_at 1 rfl)
  have e1 : decide (0 ≤ m.f1) = true := by simpa using c1
  clear c1
  have e2 : decide (m.f1 < r.f1) = true := by simpa using c2
  clear c2
  have e3 : (m.f1 == r.f0) = false := by simpa using c3
  have e3' : (m.f1 != r.f0) = true := by simpa using c3
  clear c3
  have e4 : (m.f2 == r.f0) = true := by simpa using c4
  clear c4
  have B3 := Aside0.mk (show below m.f3 = false by simpa using b3)
  clear b3
  go_enter Try.func103, Try.ntmps103
  go_wp2_with fail
  refine (below_calls _ _).mono ?_
  rintro e w1 ⟨he, rfl⟩
  rw [B3.out] at he
  subst he
  go_wp2_with fail
  go_ret
  exact ⟨rfl, Mem.sel (ps := [_, _]) (F := []) [] 2 M1.out rfl rfl⟩
theorem may_b4 (r : Rep) (m : Msg) (A5 A7 A8 A9 A10 A : Option Addr) (c5 c7 c8 c9 c10 c : Nat) (w : World) (hl : Kd.C kE w A m.f7.length m.f7) (hn : m.f7.length ≤ 1000000000) (c1 : 0 ≤ m.f1) (c2 : m.f1 < r.f1) (c3 : ¬ m.f1 = r.f0) (c4 : m.f2 = r.f0) (b3 : below m.f3 = true) (b4 : ¬ (below m.f4 = true)) :
    Calls Try.prog 103 #[.agg (Kx.rA r A5 A7 A8 A9 A10 c5 c7 c8 c9 c10), .agg (Kx.mA m A c)] w fun e w' => e = .returned (.bool false) ∧ Mem w w' [] := by
  have HL := Aside0.mk hl
  have HN := Aside0.mk hn
  have M1 := Aside0.mk (((Mem.nil w).alloc (Kx.rA r A5 A7 A8 A9 A10 c5 c7 c8 c9 c10) 45).allocAt (Kx.mA m A c) 29 (w.heap.size + 1) (by simp))
  clear hl hn
  have cM := blk_cell (M1.out.blk_at 0 rfl)
  have cR := blk_cell (M1.out.blk_at 1 rfl)
  have e1 : decide (0 ≤ m.f1) = true := by simpa using c1
  clear c1
  have e2 : decide (m.f1 < r.f1) = true := by simpa using c2
  clear c2
  have e3 : (m.f1 == r.f0) = false := by simpa using c3
  have e3' : (m.f1 != r.f0) = true := by simpa using c3
  clear c3
  have e4 : (m.f2 == r.f0) = true := by simpa using c4
  clear c4
  have B3 := Aside0.mk (show below m.f3 = true by simpa using b3)
  clear b3
  have B4 := Aside0.mk (show below m.f4 = false by simpa using b4)
  clear b4
  go_enter Try.func103, Try.ntmps103
  go_wp2_with fail
  refine (below_calls _ _).mono ?_
  rintro e w1 ⟨he, rfl⟩
  rw [B3.out] at he
  subst he
  go_wp2_with fail
  refine (below_calls _ _).mono ?_
  rintro e w1 ⟨he, rfl⟩
  rw [B4.out] at he
  subst he
  go_wp2_with fail
  go_ret
  exact ⟨rfl, Mem.sel (ps := [_, _]) (F := []) [] 2 M1.out rfl rfl⟩
theorem may_b5 (r : Rep) (m : Msg) (A5 A7 A8 A9 A10 A : Option Addr) (c5 c7 c8 c9 c10 c : Nat) (w : World) (hl : Kd.C kE w A m.f7.length m.f7) (hn : m.f7.length ≤ 1000000000) (c1 : 0 ≤ m.f1) (c2 : m.f1 < r.f1) (c3 : ¬ m.f1 = r.f0) (c4 : m.f2 = r.f0) (b3 : below m.f3 = true) (b4 : below m.f4 = true) (b5 : ¬ (below m.f5 = true)) :
    Calls Try.prog 103 #[.agg (Kx.rA r A5 A7 A8 A9 A10 c5 c7 c8 c9 c10), .agg (Kx.mA m A c)] w fun e w' => e = .returned (.bool false) ∧ Mem w w' [] := by
  have HL := Aside0.mk hl
  have HN := Aside0.mk hn
  have M1 := Aside0.mk (((Mem.nil w).alloc (Kx.rA r A5 A7 A8 A9 A10 c5 c7 c8 c9 c10) 45).allocAt (Kx.mA m A c) 29 (w.heap.size + 1) (by simp))
  clear hl hn
  have cM := blk_cell (M1.out.blk_at 0 rfl)
  have cR := blk_cell (M1.out.blk_at 1 rfl)
  have e1 : decide (0 ≤ m.f1) = true := by simpa using c1
  clear c1
  have e2 : decide (m.f1 < r.f1) = true := by simpa using c2
  clear c2
  have e3 : (m.f1 == r.f0) = false := by simpa using c3
  have e3' : (m.f1 != r.f0) = true := by simpa using c3
  clear c3
  have e4 : (m.f2 == r.f0) = true := by simpa using c4
  clear c4
  have B3 := Aside0.mk (show below m.f3 = true by simpa using b3)
  clear b3
  have B4 := Aside0.mk (show below m.f4 = true by simpa using b4)
  clear b4
  have B5 := Aside0.mk (show below m.f5 = false by simpa using b5)
  clear b5
  go_enter Try.func103, Try.ntmps103
  go_wp2_with fail
  refine (below_calls _ _).mono ?_
  rintro e w1 ⟨he, rfl⟩
  rw [B3.out] at he
  subst he
  go_wp2_with fail
  refine (below_calls _ _).mono ?_
  rintro e w1 ⟨he, rfl⟩
  rw [B4.out] at he
  subst he
  go_wp2_with fail
  refine (below_calls _ _).mono ?_
  rintro e w1 ⟨he, rfl⟩
  rw [B5.out] at he
  subst he
  go_wp2_with fail
  go_ret
  exact ⟨rfl, Mem.sel (ps := [_, _]) (F := []) [] 2 M1.out rfl rfl⟩
theorem may_b6 (r : Rep) (m : Msg) (A5 A7 A8 A9 A10 A : Option Addr) (c5 c7 c8 c9 c10 c : Nat) (w : World) (hl : Kd.C kE w A m.f7.length m.f7) (hn : m.f7.length ≤ 1000000000) (c1 : 0 ≤ m.f1) (c2 : m.f1 < r.f1) (c3 : ¬ m.f1 = r.f0) (c4 : m.f2 = r.f0) (b3 : below m.f3 = true) (b4 : below m.f4 = true) (b5 : below m.f5 = true) (b6 : ¬ (below m.f6 = true)) :
    Calls Try.prog 103 #[.agg (Kx.rA r A5 A7 A8 A9 A10 c5 c7 c8 c9 c10), .agg (Kx.mA m A c)] w fun e w' => e = .returned (.bool false) ∧ Mem w w' [] := by
  have HL := Aside0.mk hl
  have HN := Aside0.mk hn
  have M1 := Aside0.mk (((Mem.nil w).alloc (Kx.rA r A5 A7 A8 A9 A10 c5 c7 c8 c9 c10) 45).allocAt (Kx.mA m A c) 29 (w.heap.size + 1) (by simp))
  clear hl hn
  have cM := blk_cell (M1.out.blk_at 0 rfl)
  have cR := blk_cell (M1.out.blk_at 1 rfl)
  have e1 : decide (0 ≤ m.f1) = true := by simpa using c1
  clear c1
  have e2 : decide (m.f1 < r.f1) = true := by simpa using c2
  clear c2
  have e3 : (m.f1 == r.f0) = false := by simpa using c3
  have e3' : (m.f1 != r.f0) = true := by simpa using c3
  clear c3
  have e4 : (m.f2 == r.f0) = true := by simpa using c4
  clear c4
  have B3 := Aside0.mk (show below m.f3 = true by simpa using b3)
  clear b3
  have B4 := Aside0.mk (show below m.f4 = true by simpa using b4)
  clear b4
  have B5 := Aside0.mk (show below m.f5 = true by simpa using b5)
  clear b5
  have B6 := Aside0.mk (show below m.f6 = false by simpa using b6)
  clear b6
  go_enter Try.func103, Try.ntmps103
  go_wp2_with fail
  refine (below_calls _ _).mono ?_
  rintro e w1 ⟨he, rfl⟩
  rw [B3.out] at he
  subst he
  go_wp2_with fail
  refine (below_calls _ _).mono ?_
  rintro e w1 ⟨he, rfl⟩
  rw [B4.out] at he
  subst he
  go_wp2_with fail
  refine (below_calls _ _).mono ?_
  rintro e w1 ⟨he, rfl⟩
  rw [B5.out] at he
  subst he
  go_wp2_with fail
  refine (below_calls _ _).mono ?_
  rintro e w1 ⟨he, rfl⟩
  rw [B6.out] at he
  subst he
  go_wp2_with fail
  go_ret
  exact ⟨rfl, Mem.sel (ps := [_, _]) (F := []) [] 2 M1.out rfl rfl⟩
theorem may_lg (r : Rep) (m : Msg) (A5 A7 A8 A9 A10 A : Option Addr) (c5 c7 c8 c9 c10 c : Nat) (w : World) (hl : Kd.C kE w A m.f7.length m.f7) (hn : m.f7.length ≤ 1000000000) (c1 : 0 ≤ m.f1) (c2 : m.f1 < r.f1) (c3 : ¬ m.f1 = r.f0) (c4 : m.f2 = r.f0) (b3 : below m.f3 = true) (b4 : below m.f4 = true) (b5 : below m.f5 = true) (b6 : below m.f6 = true) (lg : ¬ (log m.f7 = true)) :
    Calls Try.prog 103 #[.agg (Kx.rA r A5 A7 A8 A9 A10 c5 c7 c8 c9 c10), .agg (Kx.mA m A c)] w fun e w' => e = .returned (.bool false) ∧ Mem w w' [] := by
  have HL := Aside0.mk hl
  have HN := Aside0.mk hn
  have M1 := Aside0.mk (((Mem.nil w).alloc (Kx.rA r A5 A7 A8 A9 A10 c5 c7 c8 c9 c10) 45).allocAt (Kx.mA m A c) 29 (w.heap.size + 1) (by simp))
  clear hl hn
  have cM := blk_cell (M1.out.blk_at 0 rfl)
  have cR := blk_cell (M1.out.blk_at 1 rfl)
  have e1 : decide (0 ≤ m.f1) = true := by simpa using c1
  clear c1
  have e2 : decide (m.f1 < r.f1) = true := by simpa using c2
  clear c2
  have e3 : (m.f1 == r.f0) = false := by simpa using c3
  have e3' : (m.f1 != r.f0) = true := by simpa using c3
  clear c3
  have e4 : (m.f2 == r.f0) = true := by simpa using c4
  clear c4
  have B3 := Aside0.mk (show below m.f3 = true by simpa using b3)
  clear b3
  have B4 := Aside0.mk (show below m.f4 = true by simpa using b4)
  clear b4
  have B5 := Aside0.mk (show below m.f5 = true by simpa using b5)
  clear b5
  have B6 := Aside0.mk (show below m.f6 = true by simpa using b6)
  clear b6
  have LG := Aside0.mk (show log m.f7 = false by simpa using lg)
  clear lg
  go_enter Try.func103, Try.ntmps103
  go_wp2_with fail
  refine (below_calls _ _).mono ?_
  rintro e w1 ⟨he, rfl⟩
  rw [B3.out] at he
  subst he
  go_wp2_with fail
  refine (below_calls _ _).mono ?_
  rintro e w1 ⟨he, rfl⟩
  rw [B4.out] at he
  subst he
  go_wp2_with fail
  refine (below_calls _ _).mono ?_
  rintro e w1 ⟨he, rfl⟩
  rw [B5.out] at he
  subst he
  go_wp2_with fail
  refine (below_calls _ _).mono ?_
  rintro e w1 ⟨he, rfl⟩
  rw [B6.out] at he
  subst he
  go_wp2_with fail
  refine (log_calls A c m.f7 _ (Kd.C_below HL.out M1.out.below) HN.out).mono ?_
  rintro e w1 ⟨he, hM⟩
  rw [LG.out] at he
  subst he
  have M2 := Aside0.mk (M1.out.trans hM)
  clear hM M1 cM cR
  have cM := blk_cell (M2.out.blk_at 0 rfl)
  have cR := blk_cell (M2.out.blk_at 1 rfl)
  go_wp2_with fail
  go_ret
  exact ⟨rfl, Mem.sel (ps := [_, _]) (F := []) [] 2 M2.out rfl rfl⟩
theorem may_k (r : Rep) (m : Msg) (A5 A7 A8 A9 A10 A : Option Addr) (c5 c7 c8 c9 c10 c : Nat) (w : World) (hl : Kd.C kE w A m.f7.length m.f7) (hn : m.f7.length ≤ 1000000000) (c1 : 0 ≤ m.f1) (c2 : m.f1 < r.f1) (c3 : ¬ m.f1 = r.f0) (c4 : m.f2 = r.f0) (b3 : below m.f3 = true) (b4 : below m.f4 = true) (b5 : below m.f5 = true) (b6 : below m.f6 = true) (lg : log m.f7 = true) (k1 : ¬ m.f0 = 1) :
    Calls Try.prog 103 #[.agg (Kx.rA r A5 A7 A8 A9 A10 c5 c7 c8 c9 c10), .agg (Kx.mA m A c)] w fun e w' => e = .returned (.bool true) ∧ Mem w w' [] := by
  have HL := Aside0.mk hl
  have HN := Aside0.mk hn
  have M1 := Aside0.mk (((Mem.nil w).alloc (Kx.rA r A5 A7 A8 A9 A10 c5 c7 c8 c9 c10) 45).allocAt (Kx.mA m A c) 29 (w.heap.size + 1) (by simp))
  clear hl hn
  have cM := blk_cell (M1.out.blk_at 0 rfl)
  have cR := blk_cell (M1.out.blk_at 1 rfl)
  have e1 : decide (0 ≤ m.f1) = true := by simpa using c1
  clear c1
  have e2 : decide (m.f1 < r.f1) = true := by simpa using c2
  clear c2
  have e3 : (m.f1 == r.f0) = false := by simpa using c3
  have e3' : (m.f1 != r.f0) = true := by simpa using c3
  clear c3
  have e4 : (m.f2 == r.f0) = true := by simpa using c4
  clear c4
  have B3 := Aside0.mk (show below m.f3 = true by simpa using b3)
  clear b3
  have B4 := Aside0.mk (show below m.f4 = true by simpa using b4)
  clear b4
  have B5 := Aside0.mk (show below m.f5 = true by simpa using b5)
  clear b5
  have B6 := Aside0.mk (show below m.f6 = true by simpa using b6)
  clear b6
  have LG := Aside0.mk (show log m.f7 = true by simpa using lg)
  clear lg
  have e9 : (m.f0 == 1) = false := by simpa using k1
  have e9' : (m.f0 != 1) = true := by simpa using k1
  clear k1
  go_enter Try.func103, Try.ntmps103
  go_wp2_with fail
  refine (below_calls _ _).mono ?_
  rintro e w1 ⟨he, rfl⟩
  rw [B3.out] at he
  subst he
  go_wp2_with fail
  refine (below_calls _ _).mono ?_
  rintro e w1 ⟨he, rfl⟩
  rw [B4.out] at he
  subst he
  go_wp2_with fail
  refine (below_calls _ _).mono ?_
  rintro e w1 ⟨he, rfl⟩
  rw [B5.out] at he
  subst he
  go_wp2_with fail
  refine (below_calls _ _).mono ?_
  rintro e w1 ⟨he, rfl⟩
  rw [B6.out] at he
  subst he
  go_wp2_with fail
  refine (log_calls A c m.f7 _ (Kd.C_below HL.out M1.out.below) HN.out).mono ?_
  rintro e w1 ⟨he, hM⟩
  rw [LG.out] at he
  subst he
  have M2 := Aside0.mk (M1.out.trans hM)
  clear hM M1 cM cR
  have cM := blk_cell (M2.out.blk_at 0 rfl)
  have cR := blk_cell (M2.out.blk_at 1 rfl)
  go_wp2_with fail
  go_ret
  exact ⟨rfl, Mem.sel (ps := [_, _]) (F := []) [] 2 M2.out rfl rfl⟩
theorem may_n1 (r : Rep) (m : Msg) (A5 A7 A8 A9 A10 A : Option Addr) (c5 c7 c8 c9 c10 c : Nat) (w : World) (hl : Kd.C kE w A m.f7.length m.f7) (hn : m.f7.length ≤ 1000000000) (c1 : 0 ≤ m.f1) (c2 : m.f1 < r.f1) (c3 : ¬ m.f1 = r.f0) (c4 : m.f2 = r.f0) (b3 : below m.f3 = true) (b4 : below m.f4 = true) (b5 : below m.f5 = true) (b6 : below m.f6 = true) (lg : log m.f7 = true) (k1 : ¬ (¬ m.f0 = 1)) (n1 : ¬ ((m.f7.length : Int) = 1)) :
    Calls Try.prog 103 #[.agg (Kx.rA r A5 A7 A8 A9 A10 c5 c7 c8 c9 c10), .agg (Kx.mA m A c)] w fun e w' => e = .returned (.bool false) ∧ Mem w w' [] := by
  have HL := Aside0.mk hl
  have HN := Aside0.mk hn
  have M1 := Aside0.mk (((Mem.nil w).alloc (Kx.rA r A5 A7 A8 A9 A10 c5 c7 c8 c9 c10) 45).allocAt (Kx.mA m A c) 29 (w.heap.size + 1) (by simp))
  clear hl hn
  have cM := blk_cell (M1.out.blk_at 0 rfl)
  have cR := blk_cell (M1.out.blk_at 1 rfl)
  have e1 : decide (0 ≤ m.f1) = true := by simpa using c1
  clear c1
  have e2 : decide (m.f1 < r.f1) = true := by simpa using c2
  clear c2
  have e3 : (m.f1 == r.f0) = false := by simpa using c3
  have e3' : (m.f1 != r.f0) = true := by simpa using c3
  clear c3
  have e4 : (m.f2 == r.f0) = true := by simpa using c4
  clear c4
  have B3 := Aside0.mk (show below m.f3 = true by simpa using b3)
  clear b3
  have B4 := Aside0.mk (show below m.f4 = true by simpa using b4)
  clear b4
  have B5 := Aside0.mk (show below m.f5 = true by simpa using b5)
  clear b5
  have B6 := Aside0.mk (show below m.f6 = true by simpa using b6)
  clear b6
  have LG := Aside0.mk (show log m.f7 = true by simpa using lg)
  clear lg
  have e9 : (m.f0 == 1) = true := by simpa using k1
  have e9' : (m.f0 != 1) = false := by simpa using k1
  clear k1
  have e10 : ((m.f7.length : Int) == 1) = false := by simpa using n1
  clear n1
  go_enter Try.func103, Try.ntmps103
  go_wp2_with fail
  refine (below_calls _ _).mono ?_
  rintro e w1 ⟨he, rfl⟩
  rw [B3.out] at he
  subst he
  go_wp2_with fail
  refine (below_calls _ _).mono ?_
  rintro e w1 ⟨he, rfl⟩
  rw [B4.out] at he
  subst he
  go_wp2_with fail
  refine (below_calls _ _).mono ?_
  rintro e w1 ⟨he, rfl⟩
  rw [B5.out] at he
  subst he
  go_wp2_with fail
  refine (below_calls _ _).mono ?_
  rintro e w1 ⟨he, rfl⟩
  rw [B6.out] at he
  subst he
  go_wp2_with fail
  refine (log_calls A c m.f7 _ (Kd.C_below HL.out M1.out.below) HN.out).mono ?_
  rintro e w1 ⟨he, hM⟩
  rw [LG.out] at he
  subst he
  have M2 := Aside0.mk (M1.out.trans hM)
  clear hM M1 cM cR
  have cM := blk_cell (M2.out.blk_at 0 rfl)
  have cR := blk_cell (M2.out.blk_at 1 rfl)
  go_wp2_with fail
  go_ret
  exact ⟨rfl, Mem.sel (ps := [_, _]) (F := []) [] 2 M2.out rfl rfl⟩
theorem may_all (r : Rep) (m : Msg) (A5 A7 A8 A9 A10 A : Option Addr) (c5 c7 c8 c9 c10 c : Nat) (w : World) (hl : Kd.C kE w A m.f7.length m.f7) (hn : m.f7.length ≤ 1000000000) (c1 : 0 ≤ m.f1) (c2 : m.f1 < r.f1) (c3 : ¬ m.f1 = r.f0) (c4 : m.f2 = r.f0) (b3 : below m.f3 = true) (b4 : below m.f4 = true) (b5 : below m.f5 = true) (b6 : below m.f6 = true) (lg : log m.f7 = true) (k1 : ¬ (¬ m.f0 = 1)) (n1 : (m.f7.length : Int) = 1) :
    Calls Try.prog 103 #[.agg (Kx.rA r A5 A7 A8 A9 A10 c5 c7 c8 c9 c10), .agg (Kx.mA m A c)] w fun e w' => e = .returned (.bool true) ∧ Mem w w' [] := by
  have HL := Aside0.mk hl
  have HN := Aside0.mk hn
  have M1 := Aside0.mk (((Mem.nil w).alloc (Kx.rA r A5 A7 A8 A9 A10 c5 c7 c8 c9 c10) 45).allocAt (Kx.mA m A c) 29 (w.heap.size + 1) (by simp))
  clear hl hn
  have cM := blk_cell (M1.out.blk_at 0 rfl)
  have cR := blk_cell (M1.out.blk_at 1 rfl)
  have e1 : decide (0 ≤ m.f1) = true := by simpa using c1
  clear c1
  have e2 : decide (m.f1 < r.f1) = true := by simpa using c2
  clear c2
  have e3 : (m.f1 == r.f0) = false := by simpa using c3
  have e3' : (m.f1 != r.f0) = true := by simpa using c3
  clear c3
  have e4 : (m.f2 == r.f0) = true := by simpa using c4
  clear c4
  have B3 := Aside0.mk (show below m.f3 = true by simpa using b3)
  clear b3
  have B4 := Aside0.mk (show below m.f4 = true by simpa using b4)
  clear b4
  have B5 := Aside0.mk (show below m.f5 = true by simpa using b5)
  clear b5
  have B6 := Aside0.mk (show below m.f6 = true by simpa using b6)
  clear b6
  have LG := Aside0.mk (show log m.f7 = true by simpa using lg)
  clear lg
  have e9 : (m.f0 == 1) = true := by simpa using k1
  have e9' : (m.f0 != 1) = false := by simpa using k1
  clear k1
  have e10 : ((m.f7.length : Int) == 1) = true := by simpa using n1
  clear n1
  go_enter Try.func103, Try.ntmps103
  go_wp2_with fail
  refine (below_calls _ _).mono ?_
  rintro e w1 ⟨he, rfl⟩
  rw [B3.out] at he
  subst he
  go_wp2_with fail
  refine (below_calls _ _).mono ?_
  rintro e w1 ⟨he, rfl⟩
  rw [B4.out] at he
  subst he
  go_wp2_with fail
  refine (below_calls _ _).mono ?_
  rintro e w1 ⟨he, rfl⟩
  rw [B5.out] at he
  subst he
  go_wp2_with fail
  refine (below_calls _ _).mono ?_
  rintro e w1 ⟨he, rfl⟩
  rw [B6.out] at he
  subst he
  go_wp2_with fail
  refine (log_calls A c m.f7 _ (Kd.C_below HL.out M1.out.below) HN.out).mono ?_
  rintro e w1 ⟨he, hM⟩
  rw [LG.out] at he
  subst he
  have M2 := Aside0.mk (M1.out.trans hM)
  clear hM M1 cM cR
  have cM := blk_cell (M2.out.blk_at 0 rfl)
  have cR := blk_cell (M2.out.blk_at 1 rfl)
  go_wp2_with fail
  go_ret
  exact ⟨rfl, Mem.sel (ps := [_, _]) (F := []) [] 2 M2.out rfl rfl⟩
theorem mayM_calls (r : Rep) (m : Msg) (A5 A7 A8 A9 A10 A : Option Addr) (c5 c7 c8 c9 c10 c : Nat) (w : World) (hl : Kd.C kE w A m.f7.length m.f7) (hn : m.f7.length ≤ 1000000000) :
    Calls Try.prog 103 #[.agg (Kx.rA r A5 A7 A8 A9 A10 c5 c7 c8 c9 c10), .agg (Kx.mA m A c)] w fun e w' => e = .returned (.bool (mayM r m)) ∧ Mem w w' [] := by
  by_cases c1 : 0 ≤ m.f1
  case neg =>
    have e : mayM r m = false := by simp [mayM, c1]
    rw [e]
    exact may_c1 r m A5 A7 A8 A9 A10 A c5 c7 c8 c9 c10 c w hl hn  c1
  by_cases c2 : m.f1 < r.f1
  case neg =>
    have e : mayM r m = false := by simp [mayM, c2]
    rw [e]
    exact may_c2 r m A5 A7 A8 A9 A10 A c5 c7 c8 c9 c10 c w hl hn c1 c2
  by_cases c3 : ¬ m.f1 = r.f0
  case neg =>
    have e : mayM r m = false := by simp [mayM, c3]
    rw [e]
    exact may_c3 r m A5 A7 A8 A9 A10 A c5 c7 c8 c9 c10 c w hl hn c1 c2 c3
  by_cases c4 : m.f2 = r.f0
  case neg =>
    have e : mayM r m = false := by simp [mayM, c4]
    rw [e]
    exact may_c4 r m A5 A7 A8 A9 A10 A c5 c7 c8 c9 c10 c w hl hn c1 c2 c3 c4
  by_cases b3 : below m.f3 = true
  case neg =>
    have e : mayM r m = false := by simp [mayM, b3]
    rw [e]
    exact may_b3 r m A5 A7 A8 A9 A10 A c5 c7 c8 c9 c10 c w hl hn c1 c2 c3 c4 b3
  by_cases b4 : below m.f4 = true
  case neg =>
    have e : mayM r m = false := by simp [mayM, b4]
    rw [e]
    exact may_b4 r m A5 A7 A8 A9 A10 A c5 c7 c8 c9 c10 c w hl hn c1 c2 c3 c4 b3 b4
  by_cases b5 : below m.f5 = true
  case neg =>
    have e : mayM r m = false := by simp [mayM, b5]
    rw [e]
    exact may_b5 r m A5 A7 A8 A9 A10 A c5 c7 c8 c9 c10 c w hl hn c1 c2 c3 c4 b3 b4 b5
  by_cases b6 : below m.f6 = true
  case neg =>
    have e : mayM r m = false := by simp [mayM, b6]
    rw [e]
    exact may_b6 r m A5 A7 A8 A9 A10 A c5 c7 c8 c9 c10 c w hl hn c1 c2 c3 c4 b3 b4 b5 b6
  by_cases lg : log m.f7 = true
  case neg =>
    have e : mayM r m = false := by simp [mayM, lg]
    rw [e]
    exact may_lg r m A5 A7 A8 A9 A10 A c5 c7 c8 c9 c10 c w hl hn c1 c2 c3 c4 b3 b4 b5 b6 lg
  by_cases k1 : ¬ m.f0 = 1
  · have e : mayM r m = true := by simp [mayM, c1, c2, c3, c4, b3, b4, b5, b6, lg, k1]
    rw [e]
    exact may_k r m A5 A7 A8 A9 A10 A c5 c7 c8 c9 c10 c w hl hn c1 c2 c3 c4 b3 b4 b5 b6 lg k1
  have k2 : m.f0 = 1 := Classical.not_not.1 k1
  by_cases n1 : (m.f7.length : Int) = 1
  case neg =>
    have e : mayM r m = false := by simp [mayM, c1, c2, c3, c4, b3, b4, b5, b6, lg, k2, n1]
    rw [e]
    exact may_n1 r m A5 A7 A8 A9 A10 A c5 c7 c8 c9 c10 c w hl hn c1 c2 c3 c4 b3 b4 b5 b6 lg k1 n1
  have e : mayM r m = true := by simp [mayM, c1, c2, c3, c4, b3, b4, b5, b6, lg, k2, n1]
  rw [e]
  exact may_all r m A5 A7 A8 A9 A10 A c5 c7 c8 c9 c10 c w hl hn c1 c2 c3 c4 b3 b4 b5 b6 lg k1 n1
end Go.Proofs.Ytggbjokhniigkaa.Tb
namespace Go.Proofs.Ytggbjokhniigkaa.Tt
open Ty Go.RowKit YtggbjokhniigkaaW.PrintWords YtggbjokhniigkaaW.PrintLast YtggbjokhniigkaaW.PrintMore Mx Kx Wa Wb Ta Tb
theorem takes_no (w0 w : World) (F : List Res) (g : Nat) (r : Rep) (m : Msg) (v5 v7 v8 v9 v10 vout : Value) (A : Option Addr) (c : Nat) (hk : 1 ≤ m.f0) (hk8 : m.f0 ≤ 8) (hm : mayM r m = false)
    (hM : Mem w0 w (blk g 99 (Wa.wc r.f0 r.f1 r.f2 r.f3 r.f4 v5 r.f6 v7 v8 v9 v10 r.f11 r.f12 vout) :: row kM 29 vout [] :: Kx.sL r v5 v7 v8 v9 v10 F)) (hl : Kd.C kE w0 A m.f7.length m.f7) (hn : m.f7.length ≤ 1000000000) :
    Calls Try.prog 86 #[.pointer (some ⟨g, 0, none⟩), .agg (Kx.mA m A c)] w fun e w' => e = .returned (.bool false) ∧ Mem w0 w' (blk g 99 (Wa.wc r.f0 r.f1 r.f2 r.f3 r.f4 v5 r.f6 v7 v8 v9 v10 r.f11 r.f12 vout) :: row kM 29 vout [] :: Kx.sL r v5 v7 v8 v9 v10 F) := by
  have hmf : ∀ (fn : Fn) (first cap : Array Value) (w : World), (Instr.makeFunc fn first cap).run Try.prog w = .ok (.func fn first cap) w := fun _ _ _ _ => rfl
  obtain ⟨B5, d5, rfl, _, _⟩ := hM.row_at 2 rfl
  obtain ⟨B7, d7, rfl, _, _⟩ := hM.row_at 3 rfl
  obtain ⟨B8, d8, rfl, _, _⟩ := hM.row_at 4 rfl
  obtain ⟨B9, d9, rfl, _, _⟩ := hM.row_at 5 rfl
  obtain ⟨B10, d10, rfl, _, _⟩ := hM.row_at 6 rfl
  have HL := Aside0.mk hl
  have HN := Aside0.mk hn
  have HMC : Aside0 (∀ w', Kd.C kE w' A m.f7.length m.f7 → Calls Try.prog 103 #[.agg #[.int .i64 r.f0, .int .i64 r.f1, .int .i64 r.f2, .int .i64 r.f3, .int .i64 r.f4, .slice B5 r.f5.length d5, .int .i64 r.f6, .slice B7 r.f7.length d7, .slice B8 r.f8.length d8, .slice B9 r.f9.length d9, .slice B10 r.f10.length d10, .int .i64 r.f11, .int .i64 r.f12], .agg (Kx.mA m A c)] w' fun e w'' => e = .returned (.bool false) ∧ Mem w' w'' []) :=
    ⟨fun w' h => by have := mayM_calls r m B5 B7 B8 B9 B10 A d5 d7 d8 d9 d10 c w' h hn; rw [hm] at this; exact this⟩
  have k1 : decide (m.f0 < 1) = false := by simp; omega
  have k2 : decide (9 ≤ m.f0) = false := by simp; omega
  have M1 := Aside0.mk (((hM.alloc (Kx.mA m A c) 29).allocAt #[.bool false] 4 (w.heap.size + 1) (by simp)).allocAt #[.nilFunc, .func (Fn.func 96) #[.pointer (some ⟨g, 0, none⟩)] #[], .func (Fn.func 97) #[.pointer (some ⟨g, 0, none⟩)] #[], .func (Fn.func 96) #[.pointer (some ⟨g, 0, none⟩)] #[], .func (Fn.func 98) #[.pointer (some ⟨g, 0, none⟩)] #[], .func (Fn.func 99) #[.pointer (some ⟨g, 0, none⟩)] #[], .func (Fn.func 100) #[.pointer (some ⟨g, 0, none⟩)] #[], .func (Fn.func 101) #[.pointer (some ⟨g, 0, none⟩)] #[], .func (Fn.func 102) #[.pointer (some ⟨g, 0, none⟩)] #[]] 103 (w.heap.size + 2) (by simp))
  clear hl hn hM hm hk hk8
  have cM := blk_cell (M1.out.blk_at 2 rfl)
  have cB := blk_cell (M1.out.blk_at 1 rfl)
  have cF := blk_cell (M1.out.blk_at 0 rfl)
  have cG := blk_cell (M1.out.blk_at 3 rfl)
  unfold Wa.wc at cG
  go_enter_defers Try.func86, Try.ntmps86
  go_wp2_with fail
  go_upto_region 3 with (fail)
  clear cM cB cF cG
  obtain ⟨wc, hwc⟩ : ∃ wc : World, ((w.alloc (Obj.cells (Kx.mA m A c) 29)).alloc (Obj.cells #[.bool false] 4)).alloc (Obj.cells #[.nilFunc, .func (Fn.func 96) #[.pointer (some ⟨g, 0, none⟩)] #[], .func (Fn.func 97) #[.pointer (some ⟨g, 0, none⟩)] #[], .func (Fn.func 96) #[.pointer (some ⟨g, 0, none⟩)] #[], .func (Fn.func 98) #[.pointer (some ⟨g, 0, none⟩)] #[], .func (Fn.func 99) #[.pointer (some ⟨g, 0, none⟩)] #[], .func (Fn.func 100) #[.pointer (some ⟨g, 0, none⟩)] #[], .func (Fn.func 101) #[.pointer (some ⟨g, 0, none⟩)] #[], .func (Fn.func 102) #[.pointer (some ⟨g, 0, none⟩)] #[]] 103) = wc := ⟨_, rfl⟩
  rw [hwc] at M1 ⊢
  clear hwc
  have cM := blk_cell (M1.out.blk_at 2 rfl)
  have cG0 := blk_cell (M1.out.blk_at 3 rfl)
  have HG0 := Aside0.mk cG0
  have HM0 := Aside0.mk cM
  have cG := cG0
  unfold Wa.wc at cG
  clear cG0
  have M1D := Aside0.mk M1.out.drew
  have HS0 := Aside0.mk (show (∀ j : Nat, wc.drew.cell? ⟨w.heap.size, j, none⟩ = wc.cell? ⟨w.heap.size, j, none⟩) ∧ (∀ j : Nat, wc.drew.cell? ⟨g, j, none⟩ = wc.cell? ⟨g, j, none⟩) from ⟨fun _ => rfl, fun _ => rfl⟩)
  have H9 := HS0
  go_region_held3 (fun w' => (∀ j : Nat, w'.cell? ⟨w.heap.size, j, none⟩ = wc.cell? ⟨w.heap.size, j, none⟩) ∧ (∀ j : Nat, w'.cell? ⟨g, j, none⟩ = wc.cell? ⟨g, j, none⟩)) (first | with_reducible exact HS0.out | with_reducible exact H9.out | fail) ((go_at_call 103; refine (HMC.out _ (Kd.C_below HL.out M1D.out.below)).mono ?_; rintro e w1 ⟨rfl, hM⟩; have M2 := Aside0.mk (M1D.out.trans hM); clear hM; have H9 := Aside0.mk (show (∀ j : Nat, w1.cell? ⟨w.heap.size, j, none⟩ = wc.cell? ⟨w.heap.size, j, none⟩) ∧ (∀ j : Nat, w1.cell? ⟨g, j, none⟩ = wc.cell? ⟨g, j, none⟩) from ⟨fun j => (blk_cell (M2.out.blk_at 2 rfl) j).trans (HM0.out j).symm, fun j => (blk_cell (M2.out.blk_at 3 rfl) j).trans (HG0.out j).symm⟩)))
  clear H9 HS0 HM0 HG0 M1D cM cG M1
  have cB : w1.cell? ⟨w.heap.size + 1, 0, none⟩ = some (.bool false) := blk_cell (M2.out.blk_at 1 rfl) 0
  have fB : w1.frozen? ⟨w.heap.size + 1, 0, none⟩ = false := blk_frozen (M2.out.blk_at 1 rfl) 0
  go_wp2
  refine leaves_cons (f := 95) (args := #[.pointer (some ⟨w.heap.size + 1, 0, none⟩)]) (by simp) (by simp [go_sem]) ?_
  refine (catch_panicking ⟨w.heap.size + 1, 0, none⟩ [] _ false cB fB).mono ?_
  rintro e u' w4 ⟨rfl, rfl, w3, hM, rfl⟩
  have M4 := (M2.out.trans hM).set 1 rfl 0 (.bool false)
  have cE : (w3.setCell ⟨w.heap.size + 1, 0, none⟩ (.bool false)).cell? ⟨w.heap.size + 1, 0, none⟩ = some (.bool false) := blk_cell (M4.blk_at 1 rfl) 0
  clear hM
  simp [Leaves, settle, results, Try.results86, go_sem, cE]
  exact Mem.sel (ps := [_, _, _, _, _, _, _, _, _, _]) (F := F) [3, 4, 5, 6, 7, 8, 9] 10 M4 rfl rfl
end Go.Proofs.Ytggbjokhniigkaa.Tt
namespace Go.Proofs.Ytggbjokhniigkaa.Va
open Ty Go.RowKit YtggbjokhniigkaaW.PrintWords YtggbjokhniigkaaW.PrintLast YtggbjokhniigkaaW.PrintMore Mx Kx Wa Wb Wc Wj PReplicaProposes
/-! ### Great -/
theorem entries_l (l : List SE) : ∀ (n j : Nat) (x : Int), n = l.length - j → j ≤ l.length → (j : Int) ≤ x → x ≤ 200001 → ∃ b, falseworklaw11_entries.l0 (n + 1) l x j = some b ∧ (b = false → l.length ≤ 1200)
  | 0, j, x, h, hj, hx, hx2 => by
    unfold falseworklaw11_entries.l0
    rw [if_neg (by omega)]
    by_cases g : x > 100000
    · rw [if_pos g]
      exact ⟨true, rfl, fun h => by cases h⟩
    · rw [if_neg g]
      exact ⟨_, rfl, fun h => by have := of_decide_eq_false h; omega⟩
  | n + 1, j, x, h, hj, hx, hx2 => by
    unfold falseworklaw11_entries.l0
    rw [if_pos (show (j : Int) < (l.length : Int) by omega)]
    by_cases g : x ≤ 100000
    · obtain ⟨y, hy⟩ : ∃ y, mn (((rd_T102 l (j : Int)).f1).size : Int) 100000 = y := ⟨_, rfl⟩
      have hy1 : 0 ≤ y ∧ y ≤ 100000 := by
        rw [← hy]
        unfold mn
        split <;> omega
      rw [if_pos g, if_pos (by omega), hy, wrap64_id (x := x + 1) (by omega) (by omega), wrap64_id (x := x + 1 + y) (by omega) (by omega), wrap1 j (by omega)]
      exact entries_l l n (j + 1) (x + 1 + y) (by omega) (by omega) (by push_cast; omega) (by omega)
    · rw [if_neg g, if_pos (by omega)]
      exact ⟨true, rfl, fun h => by cases h⟩
theorem entries_f (l : List SE) : ∃ b, (∀ k, l.length < k → falseworklaw11_entries.f k l = some b) ∧ (b = false → l.length ≤ 1200) := by
  obtain ⟨b, h1, h2⟩ := entries_l l l.length 0 0 (by omega) (by omega) (by omega) (by omega)
  refine ⟨b, fun k hk => ?_, h2⟩
  have hm : ∀ d, falseworklaw11_entries.f (l.length + 1 + d) l = some b := by
    intro d
    induction d with
    | zero => exact h1
    | succ d ih => exact falseworklaw11_entries.mono l (l.length + 1 + d) b ih
  obtain ⟨d, rfl⟩ : ∃ d, k = l.length + 1 + d := ⟨k - (l.length + 1), by omega⟩
  exact hm d
/-! ### Entries -/
/-! ### rising -/
end Go.Proofs.Ytggbjokhniigkaa.Va
namespace Go.Proofs.Ytggbjokhniigkaa.Vb
end Go.Proofs.Ytggbjokhniigkaa.Vb
