/- Texts laid together: Tb. No condition. -/
import Derived.Test.YtggbjokhniigkaaGreatYTz3
set_option linter.unusedVariables false
set_option linter.unusedSimpArgs false
set_option maxRecDepth 100000
set_option maxHeartbeats 8000000
namespace Go.Proofs.YtggbjokhniigkaaGreat.Tb
open Ty Go.RowKit YtggbjokhniigkaaGreatW.PrintWords YtggbjokhniigkaaGreatW.PrintLast YtggbjokhniigkaaGreatW.PrintMore Mx Kx Wa Wb
/-- May a message be handed to a replica (its kind is asked elsewhere)? -/
def mayM (r : Rep) (m : Msg) : Bool :=
  decide (0 ≤ m.f1) && (decide (m.f1 < r.f1) && (!(m.f1 == r.f0) && ((m.f2 == r.f0) && (below m.f3 && (below m.f4 && (below m.f5 && (below m.f6 && (log m.f7 && (!(m.f0 == 1) || ((m.f7.length : Int) == 1))))))))))
theorem may_c1 (r : Rep) (m : Msg) (A5 A7 A8 A9 A10 A : Option Addr) (c5 c7 c8 c9 c10 c : Nat) (w : World) (hl : Kd.C kE w A m.f7.length m.f7) (hn : m.f7.length ≤ 1000000000) (c1 : ¬ (0 ≤ m.f1)) :
    Calls Tryz.prog 110 #[.agg (Kx.rA r A5 A7 A8 A9 A10 c5 c7 c8 c9 c10), .agg (Kx.mA m A c)] w fun e w' => e = .returned (.bool false) ∧ Mem w w' [] := by
  have HL := Aside0.mk hl
  have HN := Aside0.mk hn
  have M1 := Aside0.mk (((Mem.nil w).alloc (Kx.rA r A5 A7 A8 A9 A10 c5 c7 c8 c9 c10) 25).allocAt (Kx.mA m A c) 27 (w.heap.size + 1) (by simp))
  clear hl hn
  have cM := blk_cell (M1.out.blk_at 0 rfl)
  have cR := blk_cell (M1.out.blk_at 1 rfl)
  have e1 : decide (0 ≤ m.f1) = false := by simpa using c1
  clear c1
  go_enter Tryz.func110, Tryz.ntmps110
  go_wp2_with fail
  go_ret
  exact ⟨rfl, Mem.sel (ps := [_, _]) (F := []) [] 2 M1.out rfl rfl⟩
theorem may_c2 (r : Rep) (m : Msg) (A5 A7 A8 A9 A10 A : Option Addr) (c5 c7 c8 c9 c10 c : Nat) (w : World) (hl : Kd.C kE w A m.f7.length m.f7) (hn : m.f7.length ≤ 1000000000) (c1 : 0 ≤ m.f1) (c2 : ¬ (m.f1 < r.f1)) :
    Calls Tryz.prog 110 #[.agg (Kx.rA r A5 A7 A8 A9 A10 c5 c7 c8 c9 c10), .agg (Kx.mA m A c)] w fun e w' => e = .returned (.bool false) ∧ Mem w w' [] := by
  have HL := Aside0.mk hl
  have HN := Aside0.mk hn
  have M1 := Aside0.mk (((Mem.nil w).alloc (Kx.rA r A5 A7 A8 A9 A10 c5 c7 c8 c9 c10) 25).allocAt (Kx.mA m A c) 27 (w.heap.size + 1) (by simp))
  clear hl hn
  have cM := blk_cell (M1.out.blk_at 0 rfl)
  have cR := blk_cell (M1.out.blk_at 1 rfl)
  have e1 : decide (0 ≤ m.f1) = true := by simpa using c1
  clear c1
  have e2 : decide (m.f1 < r.f1) = false := by simpa using c2
  clear c2
  go_enter Tryz.func110, Tryz.ntmps110
  go_wp2_with fail
  go_ret
  exact ⟨rfl, Mem.sel (ps := [_, _]) (F := []) [] 2 M1.out rfl rfl⟩
theorem may_c3 (r : Rep) (m : Msg) (A5 A7 A8 A9 A10 A : Option Addr) (c5 c7 c8 c9 c10 c : Nat) (w : World) (hl : Kd.C kE w A m.f7.length m.f7) (hn : m.f7.length ≤ 1000000000) (c1 : 0 ≤ m.f1) (c2 : m.f1 < r.f1) (c3 : ¬ (¬ m.f1 = r.f0)) :
    Calls Tryz.prog 110 #[.agg (Kx.rA r A5 A7 A8 A9 A10 c5 c7 c8 c9 c10), .agg (Kx.mA m A c)] w fun e w' => e = .returned (.bool false) ∧ Mem w w' [] := by
  have HL := Aside0.mk hl
  have HN := Aside0.mk hn
  have M1 := Aside0.mk (((Mem.nil w).alloc (Kx.rA r A5 A7 A8 A9 A10 c5 c7 c8 c9 c10) 25).allocAt (Kx.mA m A c) 27 (w.heap.size + 1) (by simp))
  clear hl hn
  have cM := blk_cell (M1.out.blk_at 0 rfl)
  have cR := blk_cell (M1.out.blk_at 1 rfl)
  have e1 : decide (0 ≤ m.f1) = true := by simpa using c1
  clear c1
  have e2 : decide (m.f1 < r.f1) = true := by simpa using c2
  clear c2
  have e3 : (m.f1 == r.f0) = true := by simpa using c3
  have e3' : (m.f1 != r.f0) = false := by simpa using c3
  clear c3
  go_enter Tryz.func110, Tryz.ntmps110
  go_wp2_with fail
  go_ret
  exact ⟨rfl, Mem.sel (ps := [_, _]) (F := []) [] 2 M1.out rfl rfl⟩
theorem may_c4 (r : Rep) (m : Msg) (A5 A7 A8 A9 A10 A : Option Addr) (c5 c7 c8 c9 c10 c : Nat) (w : World) (hl : Kd.C kE w A m.f7.length m.f7) (hn : m.f7.length ≤ 1000000000) (c1 : 0 ≤ m.f1) (c2 : m.f1 < r.f1) (c3 : ¬ m.f1 = r.f0) (c4 : ¬ (m.f2 = r.f0)) :
    Calls Tryz.prog 110 #[.agg (Kx.rA r A5 A7 A8 A9 A10 c5 c7 c8 c9 c10), .agg (Kx.mA m A c)] w fun e w' => e = .returned (.bool false) ∧ Mem w w' [] := by
  have HL := Aside0.mk hl
  have HN := Aside0.mk hn
  have M1 := Aside0.mk (((Mem.nil w).alloc (Kx.rA r A5 A7 A8 A9 A10 c5 c7 c8 c9 c10) 25).allocAt (Kx.mA m A c) 27 (w.heap.size + 1) (by simp))
  clear hl hn
  have cM := blk_cell (M1.out.blk_at 0 rfl)
  have cR := blk_cell (M1.out.blk_at 1 rfl)
  have e1 : decide (0 ≤ m.f1) = true := by simpa using c1
  clear c1
  have e2 : decide (m.f1 < r.f1) = true := by simpa using c2
  clear c2
  have e3 : (m.f1 == r.f0) = false := by simpa using c3
  have e3' : (m.f1 != r.f0) = true := by simpa using c3
  clear c3
  have e4 : (m.f2 == r.f0) = false := by simpa using c4
  clear c4
  go_enter Tryz.func110, Tryz.ntmps110
  go_wp2_with fail
  go_ret
  exact ⟨rfl, Mem.sel (ps := [_, _]) (F := []) [] 2 M1.out rfl rfl⟩
theorem may_b3 (r : Rep) (m : Msg) (A5 A7 A8 A9 A10 A : Option Addr) (c5 c7 c8 c9 c10 c : Nat) (w : World) (hl : Kd.C kE w A m.f7.length m.f7) (hn : m.f7.length ≤ 1000000000) (c1 : 0 ≤ m.f1) (c2 : m.f1 < r.f1) (c3 : ¬ m.f1 = r.f0) (c4 : m.f2 = r.f0) (b3 : ¬ (below m.f3 = true)) :
    Calls Tryz.prog 110 #[.agg (Kx.rA r A5 A7 A8 A9 A10 c5 c7 c8 c9 c10), .agg (Kx.mA m A c)] w fun e w' => e = .returned (.bool false) ∧ Mem w w' [] := by
  have HL := Aside0.mk hl
  have HN := Aside0.mk hn
  have M1 := Aside0.mk (((Mem.nil w).alloc (Kx.rA r A5 A7 A8 A9 A10 c5 c7 c8 c9 c10) 25).allocAt (Kx.mA m A c) 27 (w.heap.size + 1) (by simp))
  clear hl hn
  have cM := blk_cell (M1.out.blk_at 0 rfl)
  have cR := blk_cell (M1.out.blk_at 1 rfl)
  have e1 : decide (0 ≤ m.f1) = true := by simpa using c1
  clear c1
  have e2 : decide (m.f1 < r.f1) = true := by simpa using c2
  clear c2
  have e3 : (m.f1 == r.f0) = false := by simpa using c3
  have e3' : (m.f1 != r.f0) = true := by simpa using c3
  clear c3
  have e4 : (m.f2 == r.f0) = true := by simpa using c4
  clear c4
  have B3 := Aside0.mk (show below m.f3 = false by simpa using b3)
  clear b3
  go_enter Tryz.func110, Tryz.ntmps110
  go_wp2_with fail
  refine (below_calls _ _).mono ?_
  rintro e w1 ⟨he, rfl⟩
  rw [B3.out] at he
  subst he
  go_wp2_with fail
  go_ret
  exact ⟨rfl, Mem.sel (ps := [_, _]) (F := []) [] 2 M1.out rfl rfl⟩
theorem may_b4 (r : Rep) (m : Msg) (A5 A7 A8 A9 A10 A : Option Addr) (c5 c7 c8 c9 c10 c : Nat) (w : World) (hl : Kd.C kE w A m.f7.length m.f7) (hn : m.f7.length ≤ 1000000000) (c1 : 0 ≤ m.f1) (c2 : m.f1 < r.f1) (c3 : ¬ m.f1 = r.f0) (c4 : m.f2 = r.f0) (b3 : below m.f3 = true) (b4 : ¬ (below m.f4 = true)) :
    Calls Tryz.prog 110 #[.agg (Kx.rA r A5 A7 A8 A9 A10 c5 c7 c8 c9 c10), .agg (Kx.mA m A c)] w fun e w' => e = .returned (.bool false) ∧ Mem w w' [] := by
  have HL := Aside0.mk hl
  have HN := Aside0.mk hn
  have M1 := Aside0.mk (((Mem.nil w).alloc (Kx.rA r A5 A7 A8 A9 A10 c5 c7 c8 c9 c10) 25).allocAt (Kx.mA m A c) 27 (w.heap.size + 1) (by simp))
  clear hl hn
  have cM := blk_cell (M1.out.blk_at 0 rfl)
  have cR := blk_cell (M1.out.blk_at 1 rfl)
  have e1 : decide (0 ≤ m.f1) = true := by simpa using c1
  clear c1
  have e2 : decide (m.f1 < r.f1) = true := by simpa using c2
  clear c2
  have e3 : (m.f1 == r.f0) = false := by simpa using c3
  have e3' : (m.f1 != r.f0) = true := by simpa using c3
  clear c3
  have e4 : (m.f2 == r.f0) = true := by simpa using c4
  clear c4
  have B3 := Aside0.mk (show below m.f3 = true by simpa using b3)
  clear b3
  have B4 := Aside0.mk (show below m.f4 = false by simpa using b4)
  clear b4
  go_enter Tryz.func110, Tryz.ntmps110
  go_wp2_with fail
  refine (below_calls _ _).mono ?_
  rintro e w1 ⟨he, rfl⟩
  rw [B3.out] at he
  subst he
  go_wp2_with fail
  refine (below_calls _ _).mono ?_
  rintro e w1 ⟨he, rfl⟩
  rw [B4.out] at he
  subst he
  go_wp2_with fail
  go_ret
  exact ⟨rfl, Mem.sel (ps := [_, _]) (F := []) [] 2 M1.out rfl rfl⟩
theorem may_b5 (r : Rep) (m : Msg) (A5 A7 A8 A9 A10 A : Option Addr) (c5 c7 c8 c9 c10 c : Nat) (w : World) (hl : Kd.C kE w A m.f7.length m.f7) (hn : m.f7.length ≤ 1000000000) (c1 : 0 ≤ m.f1) (c2 : m.f1 < r.f1) (c3 : ¬ m.f1 = r.f0) (c4 : m.f2 = r.f0) (b3 : below m.f3 = true) (b4 : below m.f4 = true) (b5 : ¬ (below m.f5 = true)) :
    Calls Tryz.prog 110 #[.agg (Kx.rA r A5 A7 A8 A9 A10 c5 c7 c8 c9 c10), .agg (Kx.mA m A c)] w fun e w' => e = .returned (.bool false) ∧ Mem w w' [] := by
  have HL := Aside0.mk hl
  have HN := Aside0.mk hn
  have M1 := Aside0.mk (((Mem.nil w).alloc (Kx.rA r A5 A7 A8 A9 A10 c5 c7 c8 c9 c10) 25).allocAt (Kx.mA m A c) 27 (w.heap.size + 1) (by simp))
  clear hl hn
  have cM := blk_cell (M1.out.blk_at 0 rfl)
  have cR := blk_cell (M1.out.blk_at 1 rfl)
  have e1 : decide (0 ≤ m.f1) = true := by simpa using c1
  clear c1
  have e2 : decide (m.f1 < r.f1) = true := by simpa using c2
  clear c2
  have e3 : (m.f1 == r.f0) = false := by simpa using c3
  have e3' : (m.f1 != r.f0) = true := by simpa using c3
  clear c3
  have e4 : (m.f2 == r.f0) = true := by simpa using c4
  clear c4
  have B3 := Aside0.mk (show below m.f3 = true by simpa using b3)
  clear b3
  have B4 := Aside0.mk (show below m.f4 = true by simpa using b4)
  clear b4
  have B5 := Aside0.mk (show below m.f5 = false by simpa using b5)
  clear b5
  go_enter Tryz.func110, Tryz.ntmps110
  go_wp2_with fail
  refine (below_calls _ _).mono ?_
  rintro e w1 ⟨he, rfl⟩
  rw [B3.out] at he
  subst he
  go_wp2_with fail
  refine (below_calls _ _).mono ?_
  rintro e w1 ⟨he, rfl⟩
  rw [B4.out] at he
  subst he
  go_wp2_with fail
  refine (below_calls _ _).mono ?_
  rintro e w1 ⟨he, rfl⟩
  rw [B5.out] at he
  subst he
  go_wp2_with fail
  go_ret
  exact ⟨rfl, Mem.sel (ps := [_, _]) (F := []) [] 2 M1.out rfl rfl⟩
theorem may_b6 (r : Rep) (m : Msg) (A5 A7 A8 A9 A10 A : Option Addr) (c5 c7 c8 c9 c10 c : Nat) (w : World) (hl : Kd.C kE w A m.f7.length m.f7) (hn : m.f7.length ≤ 1000000000) (c1 : 0 ≤ m.f1) (c2 : m.f1 < r.f1) (c3 : ¬ m.f1 = r.f0) (c4 : m.f2 = r.f0) (b3 : below m.f3 = true) (b4 : below m.f4 = true) (b5 : below m.f5 = true) (b6 : ¬ (below m.f6 = true)) :
    Calls Tryz.prog 110 #[.agg (Kx.rA r A5 A7 A8 A9 A10 c5 c7 c8 c9 c10), .agg (Kx.mA m A c)] w fun e w' => e = .returned (.bool false) ∧ Mem w w' [] := by
  have HL := Aside0.mk hl
  have HN := Aside0.mk hn
  have M1 := Aside0.mk (((Mem.nil w).alloc (Kx.rA r A5 A7 A8 A9 A10 c5 c7 c8 c9 c10) 25).allocAt (Kx.mA m A c) 27 (w.heap.size + 1) (by simp))
  clear hl hn
  have cM := blk_cell (M1.out.blk_at 0 rfl)
  have cR := blk_cell (M1.out.blk_at 1 rfl)
  have e1 : decide (0 ≤ m.f1) = true := by simpa using c1
  clear c1
  have e2 : decide (m.f1 < r.f1) = true := by simpa using c2
  clear c2
  have e3 : (m.f1 == r.f0) = false := by simpa using c3
  have e3' : (m.f1 != r.f0) = true := by simpa using c3
  clear c3
  have e4 : (m.f2 == r.f0) = true := by simpa using c4
  clear c4
  have B3 := Aside0.mk (show below m.f3 = true by simpa using b3)
  clear b3
  have B4 := Aside0.mk (show below m.f4 = true by simpa using b4)
  clear b4
  have B5 := Aside0.mk (show below m.f5 = true by simpa using b5)
  clear b5
  have B6 := Aside0.mk (show below m.f6 = false by simpa using b6)
  clear b6
  go_enter Tryz.func110, Tryz.ntmps110
  go_wp2_with fail
  refine (below_calls _ _).mono ?_
  rintro e w1 ⟨he, rfl⟩
  rw [B3.out] at he
  subst he
  go_wp2_with fail
  refine (below_calls _ _).mono ?_
  rintro e w1 ⟨he, rfl⟩
  rw [B4.out] at he
  subst he
  go_wp2_with fail
  refine (below_calls _ _).mono ?_
  rintro e w1 ⟨he, rfl⟩
  rw [B5.out] at he
  subst he
  go_wp2_with fail
  refine (below_calls _ _).mono ?_
  rintro e w1 ⟨he, rfl⟩
  rw [B6.out] at he
  subst he
  go_wp2_with fail
  go_ret
  exact ⟨rfl, Mem.sel (ps := [_, _]) (F := []) [] 2 M1.out rfl rfl⟩
theorem may_lg (r : Rep) (m : Msg) (A5 A7 A8 A9 A10 A : Option Addr) (c5 c7 c8 c9 c10 c : Nat) (w : World) (hl : Kd.C kE w A m.f7.length m.f7) (hn : m.f7.length ≤ 1000000000) (c1 : 0 ≤ m.f1) (c2 : m.f1 < r.f1) (c3 : ¬ m.f1 = r.f0) (c4 : m.f2 = r.f0) (b3 : below m.f3 = true) (b4 : below m.f4 = true) (b5 : below m.f5 = true) (b6 : below m.f6 = true) (lg : ¬ (log m.f7 = true)) :
    Calls Tryz.prog 110 #[.agg (Kx.rA r A5 A7 A8 A9 A10 c5 c7 c8 c9 c10), .agg (Kx.mA m A c)] w fun e w' => e = .returned (.bool false) ∧ Mem w w' [] := by
  have HL := Aside0.mk hl
  have HN := Aside0.mk hn
  have M1 := Aside0.mk (((Mem.nil w).alloc (Kx.rA r A5 A7 A8 A9 A10 c5 c7 c8 c9 c10) 25).allocAt (Kx.mA m A c) 27 (w.heap.size + 1) (by simp))
  clear hl hn
  have cM := blk_cell (M1.out.blk_at 0 rfl)
  have cR := blk_cell (M1.out.blk_at 1 rfl)
  have e1 : decide (0 ≤ m.f1) = true := by simpa using c1
  clear c1
  have e2 : decide (m.f1 < r.f1) = true := by simpa using c2
  clear c2
  have e3 : (m.f1 == r.f0) = false := by simpa using c3
  have e3' : (m.f1 != r.f0) = true := by simpa using c3
  clear c3
  have e4 : (m.f2 == r.f0) = true := by simpa using c4
  clear c4
  have B3 := Aside0.mk (show below m.f3 = true by simpa using b3)
  clear b3
  have B4 := Aside0.mk (show below m.f4 = true by simpa using b4)
  clear b4
  have B5 := Aside0.mk (show below m.f5 = true by simpa using b5)
  clear b5
  have B6 := Aside0.mk (show below m.f6 = true by simpa using b6)
  clear b6
  have LG := Aside0.mk (show log m.f7 = false by simpa using lg)
  clear lg
  go_enter Tryz.func110, Tryz.ntmps110
  go_wp2_with fail
  refine (below_calls _ _).mono ?_
  rintro e w1 ⟨he, rfl⟩
  rw [B3.out] at he
  subst he
  go_wp2_with fail
  refine (below_calls _ _).mono ?_
  rintro e w1 ⟨he, rfl⟩
  rw [B4.out] at he
  subst he
  go_wp2_with fail
  refine (below_calls _ _).mono ?_
  rintro e w1 ⟨he, rfl⟩
  rw [B5.out] at he
  subst he
  go_wp2_with fail
  refine (below_calls _ _).mono ?_
  rintro e w1 ⟨he, rfl⟩
  rw [B6.out] at he
  subst he
  go_wp2_with fail
  refine (log_calls A c m.f7 _ (Kd.C_below HL.out M1.out.below) HN.out).mono ?_
  rintro e w1 ⟨he, hM⟩
  rw [LG.out] at he
  subst he
  have M2 := Aside0.mk (M1.out.trans hM)
  clear hM M1 cM cR
  have cM := blk_cell (M2.out.blk_at 0 rfl)
  have cR := blk_cell (M2.out.blk_at 1 rfl)
  go_wp2_with fail
  go_ret
  exact ⟨rfl, Mem.sel (ps := [_, _]) (F := []) [] 2 M2.out rfl rfl⟩
theorem may_k (r : Rep) (m : Msg) (A5 A7 A8 A9 A10 A : Option Addr) (c5 c7 c8 c9 c10 c : Nat) (w : World) (hl : Kd.C kE w A m.f7.length m.f7) (hn : m.f7.length ≤ 1000000000) (c1 : 0 ≤ m.f1) (c2 : m.f1 < r.f1) (c3 : ¬ m.f1 = r.f0) (c4 : m.f2 = r.f0) (b3 : below m.f3 = true) (b4 : below m.f4 = true) (b5 : below m.f5 = true) (b6 : below m.f6 = true) (lg : log m.f7 = true) (k1 : ¬ m.f0 = 1) :
    Calls Tryz.prog 110 #[.agg (Kx.rA r A5 A7 A8 A9 A10 c5 c7 c8 c9 c10), .agg (Kx.mA m A c)] w fun e w' => e = .returned (.bool true) ∧ Mem w w' [] := by
  have HL := Aside0.mk hl
  have HN := Aside0.mk hn
  have M1 := Aside0.mk (((Mem.nil w).alloc (Kx.rA r A5 A7 A8 A9 A10 c5 c7 c8 c9 c10) 25).allocAt (Kx.mA m A c) 27 (w.heap.size + 1) (by simp))
  clear hl hn
  have cM := blk_cell (M1.out.blk_at 0 rfl)
  have cR := blk_cell (M1.out.blk_at 1 rfl)
  have e1 : decide (0 ≤ m.f1) = true := by simpa using c1
  clear c1
  have e2 : decide (m.f1 < r.f1) = true := by simpa using c2
  clear c2
  have e3 : (m.f1 == r.f0) = false := by simpa using c3
  have e3' : (m.f1 != r.f0) = true := by simpa using c3
  clear c3
  have e4 : (m.f2 == r.f0) = true := by simpa using c4
  clear c4
  have B3 := Aside0.mk (show below m.f3 = true by simpa using b3)
  clear b3
  have B4 := Aside0.mk (show below m.f4 = true by simpa using b4)
  clear b4
  have B5 := Aside0.mk (show below m.f5 = true by simpa using b5)
  clear b5
  have B6 := Aside0.mk (show below m.f6 = true by simpa using b6)
  clear b6
  have LG := Aside0.mk (show log m.f7 = true by simpa using lg)
  clear lg
  have e9 : (m.f0 == 1) = false := by simpa using k1
  have e9' : (m.f0 != 1) = true := by simpa using k1
  clear k1
  go_enter Tryz.func110, Tryz.ntmps110
  go_wp2_with fail
  refine (below_calls _ _).mono ?_
  rintro e w1 ⟨he, rfl⟩
  rw [B3.out] at he
  subst he
  go_wp2_with fail
  refine (below_calls _ _).mono ?_
  rintro e w1 ⟨he, rfl⟩
  rw [B4.out] at he
  subst he
  go_wp2_with fail
  refine (below_calls _ _).mono ?_
  rintro e w1 ⟨he, rfl⟩
  rw [B5.out] at he
  subst he
  go_wp2_with fail
  refine (below_calls _ _).mono ?_
  rintro e w1 ⟨he, rfl⟩
  rw [B6.out] at he
  subst he
  go_wp2_with fail
  refine (log_calls A c m.f7 _ (Kd.C_below HL.out M1.out.below) HN.out).mono ?_
  rintro e w1 ⟨he, hM⟩
  rw [LG.out] at he
  subst he
  have M2 := Aside0.mk (M1.out.trans hM)
  clear hM M1 cM cR
  have cM := blk_cell (M2.out.blk_at 0 rfl)
  have cR := blk_cell (M2.out.blk_at 1 rfl)
  go_wp2_with fail
  go_ret
  exact ⟨rfl, Mem.sel (ps := [_, _]) (F := []) [] 2 M2.out rfl rfl⟩
theorem may_n1 (r : Rep) (m : Msg) (A5 A7 A8 A9 A10 A : Option Addr) (c5 c7 c8 c9 c10 c : Nat) (w : World) (hl : Kd.C kE w A m.f7.length m.f7) (hn : m.f7.length ≤ 1000000000) (c1 : 0 ≤ m.f1) (c2 : m.f1 < r.f1) (c3 : ¬ m.f1 = r.f0) (c4 : m.f2 = r.f0) (b3 : below m.f3 = true) (b4 : below m.f4 = true) (b5 : below m.f5 = true) (b6 : below m.f6 = true) (lg : log m.f7 = true) (k1 : ¬ (¬ m.f0 = 1)) (n1 : ¬ ((m.f7.length : Int) = 1)) :
    Calls Tryz.prog 110 #[.agg (Kx.rA r A5 A7 A8 A9 A10 c5 c7 c8 c9 c10), .agg (Kx.mA m A c)] w fun e w' => e = .returned (.bool false) ∧ Mem w w' [] := by
  have HL := Aside0.mk hl
  have HN := Aside0.mk hn
  have M1 := Aside0.mk (((Mem.nil w).alloc (Kx.rA r A5 A7 A8 A9 A10 c5 c7 c8 c9 c10) 25).allocAt (Kx.mA m A c) 27 (w.heap.size + 1) (by simp))
  clear hl hn
  have cM := blk_cell (M1.out.blk_at 0 rfl)
  have cR := blk_cell (M1.out.blk_at 1 rfl)
  have e1 : decide (0 ≤ m.f1) = true := by simpa using c1
  clear c1
  have e2 : decide (m.f1 < r.f1) = true := by simpa using c2
  clear c2
  have e3 : (m.f1 == r.f0) = false := by simpa using c3
  have e3' : (m.f1 != r.f0) = true := by simpa using c3
  clear c3
  have e4 : (m.f2 == r.f0) = true := by simpa using c4
  clear c4
  have B3 := Aside0.mk (show below m.f3 = true by simpa using b3)
  clear b3
  have B4 := Aside0.mk (show below m.f4 = true by simpa using b4)
  clear b4
  have B5 := Aside0.mk (show below m.f5 = true by simpa using b5)
  clear b5
  have B6 := Aside0.mk (show below m.f6 = true by simpa using b6)
  clear b6
  have LG := Aside0.mk (show log m.f7 = true by simpa using lg)
  clear lg
  have e9 : (m.f0 == 1) = true := by simpa using k1
  have e9' : (m.f0 != 1) = false := by simpa using k1
  clear k1
  have e10 : ((m.f7.length : Int) == 1) = false := by simpa using n1
  clear n1
  go_enter Tryz.func110, Tryz.ntmps110
  go_wp2_with fail
  refine (below_calls _ _).mono ?_
  rintro e w1 ⟨he, rfl⟩
  rw [B3.out] at he
  subst he
  go_wp2_with fail
  refine (below_calls _ _).mono ?_
  rintro e w1 ⟨he, rfl⟩
  rw [B4.out] at he
  subst he
  go_wp2_with fail
  refine (below_calls _ _).mono ?_
  rintro e w1 ⟨he, rfl⟩
  rw [B5.out] at he
  subst he
  go_wp2_with fail
  refine (below_calls _ _).mono ?_
  rintro e w1 ⟨he, rfl⟩
  rw [B6.out] at he
  subst he
  go_wp2_with fail
  refine (log_calls A c m.f7 _ (Kd.C_below HL.out M1.out.below) HN.out).mono ?_
  rintro e w1 ⟨he, hM⟩
  rw [LG.out] at he
  subst he
  have M2 := Aside0.mk (M1.out.trans hM)
  clear hM M1 cM cR
  have cM := blk_cell (M2.out.blk_at 0 rfl)
  have cR := blk_cell (M2.out.blk_at 1 rfl)
  go_wp2_with fail
  go_ret
  exact ⟨rfl, Mem.sel (ps := [_, _]) (F := []) [] 2 M2.out rfl rfl⟩
theorem may_all (r : Rep) (m : Msg) (A5 A7 A8 A9 A10 A : Option Addr) (c5 c7 c8 c9 c10 c : Nat) (w : World) (hl : Kd.C kE w A m.f7.length m.f7) (hn : m.f7.length ≤ 1000000000) (c1 : 0 ≤ m.f1) (c2 : m.f1 < r.f1) (c3 : ¬ m.f1 = r.f0) (c4 : m.f2 = r.f0) (b3 : below m.f3 = true) (b4 : below m.f4 = true) (b5 : below m.f5 = true) (b6 : below m.f6 = true) (lg : log m.f7 = true) (k1 : ¬ (¬ m.f0 = 1)) (n1 : (m.f7.length : Int) = 1) :
    Calls Tryz.prog 110 #[.agg (Kx.rA r A5 A7 A8 A9 A10 c5 c7 c8 c9 c10), .agg (Kx.mA m A c)] w fun e w' => e = .returned (.bool true) ∧ Mem w w' [] := by
  have HL := Aside0.mk hl
  have HN := Aside0.mk hn
  have M1 := Aside0.mk (((Mem.nil w).alloc (Kx.rA r A5 A7 A8 A9 A10 c5 c7 c8 c9 c10) 25).allocAt (Kx.mA m A c) 27 (w.heap.size + 1) (by simp))
  clear hl hn
  have cM := blk_cell (M1.out.blk_at 0 rfl)
  have cR := blk_cell (M1.out.blk_at 1 rfl)
  have e1 : decide (0 ≤ m.f1) = true := by simpa using c1
  clear c1
  have e2 : decide (m.f1 < r.f1) = true := by simpa using c2
  clear c2
  have e3 : (m.f1 == r.f0) = false := by simpa using c3
  have e3' : (m.f1 != r.f0) = true := by simpa using c3
  clear c3
  have e4 : (m.f2 == r.f0) = true := by simpa using c4
  clear c4
  have B3 := Aside0.mk (show below m.f3 = true by simpa using b3)
  clear b3
  have B4 := Aside0.mk (show below m.f4 = true by simpa using b4)
  clear b4
  have B5 := Aside0.mk (show below m.f5 = true by simpa using b5)
  clear b5
  have B6 := Aside0.mk (show below m.f6 = true by simpa using b6)
  clear b6
  have LG := Aside0.mk (show log m.f7 = true by simpa using lg)
  clear lg
  have e9 : (m.f0 == 1) = true := by simpa using k1
  have e9' : (m.f0 != 1) = false := by simpa using k1
  clear k1
  have e10 : ((m.f7.length : Int) == 1) = true := by simpa using n1
  clear n1
  go_enter Tryz.func110, Tryz.ntmps110
  go_wp2_with fail
  refine (below_calls _ _).mono ?_
  rintro e w1 ⟨he, rfl⟩
  rw [B3.out] at he
  subst he
  go_wp2_with fail
  refine (below_calls _ _).mono ?_
  rintro e w1 ⟨he, rfl⟩
  rw [B4.out] at he
  subst he
  go_wp2_with fail
  refine (below_calls _ _).mono ?_
  rintro e w1 ⟨he, rfl⟩
  rw [B5.out] at he
  subst he
  go_wp2_with fail
  refine (below_calls _ _).mono ?_
  rintro e w1 ⟨he, rfl⟩
  rw [B6.out] at he
  subst he
  go_wp2_with fail
  refine (log_calls A c m.f7 _ (Kd.C_below HL.out M1.out.below) HN.out).mono ?_
  rintro e w1 ⟨he, hM⟩
  rw [LG.out] at he
  subst he
  have M2 := Aside0.mk (M1.out.trans hM)
  clear hM M1 cM cR
  have cM := blk_cell (M2.out.blk_at 0 rfl)
  have cR := blk_cell (M2.out.blk_at 1 rfl)
  go_wp2_with fail
  go_ret
  exact ⟨rfl, Mem.sel (ps := [_, _]) (F := []) [] 2 M2.out rfl rfl⟩
theorem mayM_calls (r : Rep) (m : Msg) (A5 A7 A8 A9 A10 A : Option Addr) (c5 c7 c8 c9 c10 c : Nat) (w : World) (hl : Kd.C kE w A m.f7.length m.f7) (hn : m.f7.length ≤ 1000000000) :
    Calls Tryz.prog 110 #[.agg (Kx.rA r A5 A7 A8 A9 A10 c5 c7 c8 c9 c10), .agg (Kx.mA m A c)] w fun e w' => e = .returned (.bool (mayM r m)) ∧ Mem w w' [] := by
  by_cases c1 : 0 ≤ m.f1
  case neg =>
    have e : mayM r m = false := by simp [mayM, c1]
    rw [e]
    exact may_c1 r m A5 A7 A8 A9 A10 A c5 c7 c8 c9 c10 c w hl hn  c1
  by_cases c2 : m.f1 < r.f1
  case neg =>
    have e : mayM r m = false := by simp [mayM, c2]
    rw [e]
    exact may_c2 r m A5 A7 A8 A9 A10 A c5 c7 c8 c9 c10 c w hl hn c1 c2
  by_cases c3 : ¬ m.f1 = r.f0
  case neg =>
    have e : mayM r m = false := by simp [mayM, c3]
    rw [e]
    exact may_c3 r m A5 A7 A8 A9 A10 A c5 c7 c8 c9 c10 c w hl hn c1 c2 c3
  by_cases c4 : m.f2 = r.f0
  case neg =>
    have e : mayM r m = false := by simp [mayM, c4]
    rw [e]
    exact may_c4 r m A5 A7 A8 A9 A10 A c5 c7 c8 c9 c10 c w hl hn c1 c2 c3 c4
  by_cases b3 : below m.f3 = true
  case neg =>
    have e : mayM r m = false := by simp [mayM, b3]
    rw [e]
    exact may_b3 r m A5 A7 A8 A9 A10 A c5 c7 c8 c9 c10 c w hl hn c1 c2 c3 c4 b3
  by_cases b4 : below m.f4 = true
  case neg =>
    have e : mayM r m = false := by simp [mayM, b4]
    rw [e]
    exact may_b4 r m A5 A7 A8 A9 A10 A c5 c7 c8 c9 c10 c w hl hn c1 c2 c3 c4 b3 b4
  by_cases b5 : below m.f5 = true
  case neg =>
    have e : mayM r m = false := by simp [mayM, b5]
    rw [e]
    exact may_b5 r m A5 A7 A8 A9 A10 A c5 c7 c8 c9 c10 c w hl hn c1 c2 c3 c4 b3 b4 b5
  by_cases b6 : below m.f6 = true
  case neg =>
    have e : mayM r m = false := by simp [mayM, b6]
    rw [e]
    exact may_b6 r m A5 A7 A8 A9 A10 A c5 c7 c8 c9 c10 c w hl hn c1 c2 c3 c4 b3 b4 b5 b6
  by_cases lg : log m.f7 = true
  case neg =>
    have e : mayM r m = false := by simp [mayM, lg]
    rw [e]
    exact may_lg r m A5 A7 A8 A9 A10 A c5 c7 c8 c9 c10 c w hl hn c1 c2 c3 c4 b3 b4 b5 b6 lg
  by_cases k1 : ¬ m.f0 = 1
  · have e : mayM r m = true := by simp [mayM, c1, c2, c3, c4, b3, b4, b5, b6, lg, k1]
    rw [e]
    exact may_k r m A5 A7 A8 A9 A10 A c5 c7 c8 c9 c10 c w hl hn c1 c2 c3 c4 b3 b4 b5 b6 lg k1
  have k2 : m.f0 = 1 := Classical.not_not.1 k1
  by_cases n1 : (m.f7.length : Int) = 1
  case neg =>
    have e : mayM r m = false := by simp [mayM, c1, c2, c3, c4, b3, b4, b5, b6, lg, k2, n1]
    rw [e]
    exact may_n1 r m A5 A7 A8 A9 A10 A c5 c7 c8 c9 c10 c w hl hn c1 c2 c3 c4 b3 b4 b5 b6 lg k1 n1
  have e : mayM r m = true := by simp [mayM, c1, c2, c3, c4, b3, b4, b5, b6, lg, k2, n1]
  rw [e]
  exact may_all r m A5 A7 A8 A9 A10 A c5 c7 c8 c9 c10 c w hl hn c1 c2 c3 c4 b3 b4 b5 b6 lg k1 n1
end Go.Proofs.YtggbjokhniigkaaGreat.Tb
