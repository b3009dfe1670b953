/- Texts laid together: Tn, To. No condition. -/
import Derived.Test.YtggbjokhniigkaaGreatYTz9
import Derived.Test.YtggbjokhniigkaaGreatYTz10
set_option linter.unusedVariables false
set_option linter.unusedSimpArgs false
set_option maxRecDepth 100000
set_option maxHeartbeats 8000000
namespace Go.Proofs.YtggbjokhniigkaaGreat.Tn
open Ty Go.RowKit YtggbjokhniigkaaGreatW.PrintWords YtggbjokhniigkaaGreatW.PrintLast YtggbjokhniigkaaGreatW.PrintMore Mx Kx Wa Wb Tb Wj PReplicaTakes
/-- May a replica take a message? -/
def mayMsg (r : Rep) (m : Msg) : Bool := decide (1 ≤ m.f0) && (decide (m.f0 ≤ 8) && mayM r m)
theorem time11_calls (n : Int) (w : World) : Calls Tryz.prog 75 #[.int .i64 n] w fun e w' => e = .returned (.bool (below n)) ∧ Below w.heap.size w w' :=
  (Hm.time_calls n w).mono fun _ _ h => ⟨h.1, h.2 ▸ Below.refl _ _⟩
theorem Entries11_calls (A : Option Addr) (c : Nat) (l : List Entry) (w : World) (hl : Kd.C kE w A l.length l) (hc : l.length ≤ c) (hn : l.length ≤ 1000000) :
    Calls Tryz.prog 76 #[.slice A l.length c] w fun e w' => e = .returned (.bool (log l)) ∧ Below w.heap.size w w' := by
  exact (Hm.Entries_calls A c l w hl).mono fun _ _ h => ⟨h.1, h.2 ▸ Below.refl _ _⟩
theorem msg_ka (r : Rep) (m : Msg) (A5 A7 A8 A9 A10 A : Option Addr) (c5 c7 c8 c9 c10 c : Nat) (w : World) (hl : Kd.C kE w A m.f7.length m.f7) (hc : m.f7.length ≤ c) (hn : m.f7.length ≤ 1000000) (ka : ¬ (1 ≤ m.f0)) :
    Calls Tryz.prog 66 #[.agg (Kx.rA r A5 A7 A8 A9 A10 c5 c7 c8 c9 c10), .agg (Kx.mA m A c)] w fun e w' => e = .returned (.bool false) ∧ Mem w w' [] := by
  have HL := Aside0.mk hl
  have HC := Aside0.mk hc
  have HN := Aside0.mk hn
  have M1 := Aside0.mk (((Mem.nil w).alloc (Kx.rA r A5 A7 A8 A9 A10 c5 c7 c8 c9 c10) 25).allocAt (Kx.mA m A c) 27 (w.heap.size + 1) (by simp))
  clear hl hc hn
  have cM := blk_cell (M1.out.blk_at 0 rfl)
  have cR := blk_cell (M1.out.blk_at 1 rfl)
  have e0 : decide (m.f0 < 1) = true := by simpa using ka
  clear ka
  go_enter Tryz.func66, Tryz.ntmps66
  go_wp2_with fail
  go_ret
  exact ⟨rfl, Mem.sel (ps := [_, _]) (F := []) [] 2 M1.out rfl rfl⟩
theorem msg_kb (r : Rep) (m : Msg) (A5 A7 A8 A9 A10 A : Option Addr) (c5 c7 c8 c9 c10 c : Nat) (w : World) (hl : Kd.C kE w A m.f7.length m.f7) (hc : m.f7.length ≤ c) (hn : m.f7.length ≤ 1000000) (ka : 1 ≤ m.f0) (kb : ¬ (m.f0 ≤ 8)) :
    Calls Tryz.prog 66 #[.agg (Kx.rA r A5 A7 A8 A9 A10 c5 c7 c8 c9 c10), .agg (Kx.mA m A c)] w fun e w' => e = .returned (.bool false) ∧ Mem w w' [] := by
  have HL := Aside0.mk hl
  have HC := Aside0.mk hc
  have HN := Aside0.mk hn
  have M1 := Aside0.mk (((Mem.nil w).alloc (Kx.rA r A5 A7 A8 A9 A10 c5 c7 c8 c9 c10) 25).allocAt (Kx.mA m A c) 27 (w.heap.size + 1) (by simp))
  clear hl hc hn
  have cM := blk_cell (M1.out.blk_at 0 rfl)
  have cR := blk_cell (M1.out.blk_at 1 rfl)
  have e0 : decide (m.f0 < 1) = false := by simp; omega
  clear ka
  have e8 : decide (8 < m.f0) = true := by simpa using kb
  clear kb
  go_enter Tryz.func66, Tryz.ntmps66
  go_wp2_with fail
  go_ret
  exact ⟨rfl, Mem.sel (ps := [_, _]) (F := []) [] 2 M1.out rfl rfl⟩
theorem msg_c1 (r : Rep) (m : Msg) (A5 A7 A8 A9 A10 A : Option Addr) (c5 c7 c8 c9 c10 c : Nat) (w : World) (hl : Kd.C kE w A m.f7.length m.f7) (hc : m.f7.length ≤ c) (hn : m.f7.length ≤ 1000000) (ka : 1 ≤ m.f0) (kb : m.f0 ≤ 8) (c1 : ¬ (0 ≤ m.f1)) :
    Calls Tryz.prog 66 #[.agg (Kx.rA r A5 A7 A8 A9 A10 c5 c7 c8 c9 c10), .agg (Kx.mA m A c)] w fun e w' => e = .returned (.bool false) ∧ Mem w w' [] := by
  have HL := Aside0.mk hl
  have HC := Aside0.mk hc
  have HN := Aside0.mk hn
  have M1 := Aside0.mk (((Mem.nil w).alloc (Kx.rA r A5 A7 A8 A9 A10 c5 c7 c8 c9 c10) 25).allocAt (Kx.mA m A c) 27 (w.heap.size + 1) (by simp))
  clear hl hc hn
  have cM := blk_cell (M1.out.blk_at 0 rfl)
  have cR := blk_cell (M1.out.blk_at 1 rfl)
  have e0 : decide (m.f0 < 1) = false := by simp; omega
  clear ka
  have e8 : decide (8 < m.f0) = false := by simp; omega
  clear kb
  have e1 : decide (m.f1 < 0) = true := by simpa using c1
  clear c1
  go_enter Tryz.func66, Tryz.ntmps66
  go_wp2_with fail
  go_ret
  exact ⟨rfl, Mem.sel (ps := [_, _]) (F := []) [] 2 M1.out rfl rfl⟩
theorem msg_c2 (r : Rep) (m : Msg) (A5 A7 A8 A9 A10 A : Option Addr) (c5 c7 c8 c9 c10 c : Nat) (w : World) (hl : Kd.C kE w A m.f7.length m.f7) (hc : m.f7.length ≤ c) (hn : m.f7.length ≤ 1000000) (ka : 1 ≤ m.f0) (kb : m.f0 ≤ 8) (c1 : 0 ≤ m.f1) (c2 : ¬ (m.f1 < r.f1)) :
    Calls Tryz.prog 66 #[.agg (Kx.rA r A5 A7 A8 A9 A10 c5 c7 c8 c9 c10), .agg (Kx.mA m A c)] w fun e w' => e = .returned (.bool false) ∧ Mem w w' [] := by
  have HL := Aside0.mk hl
  have HC := Aside0.mk hc
  have HN := Aside0.mk hn
  have M1 := Aside0.mk (((Mem.nil w).alloc (Kx.rA r A5 A7 A8 A9 A10 c5 c7 c8 c9 c10) 25).allocAt (Kx.mA m A c) 27 (w.heap.size + 1) (by simp))
  clear hl hc hn
  have cM := blk_cell (M1.out.blk_at 0 rfl)
  have cR := blk_cell (M1.out.blk_at 1 rfl)
  have e0 : decide (m.f0 < 1) = false := by simp; omega
  clear ka
  have e8 : decide (8 < m.f0) = false := by simp; omega
  clear kb
  have e1 : decide (m.f1 < 0) = false := by simp; omega
  clear c1
  have e2 : decide (r.f1 ≤ m.f1) = true := by simp; omega
  clear c2
  go_enter Tryz.func66, Tryz.ntmps66
  go_wp2_with fail
  go_ret
  exact ⟨rfl, Mem.sel (ps := [_, _]) (F := []) [] 2 M1.out rfl rfl⟩
theorem msg_c3 (r : Rep) (m : Msg) (A5 A7 A8 A9 A10 A : Option Addr) (c5 c7 c8 c9 c10 c : Nat) (w : World) (hl : Kd.C kE w A m.f7.length m.f7) (hc : m.f7.length ≤ c) (hn : m.f7.length ≤ 1000000) (ka : 1 ≤ m.f0) (kb : m.f0 ≤ 8) (c1 : 0 ≤ m.f1) (c2 : m.f1 < r.f1) (c3 : ¬ (¬ m.f1 = r.f0)) :
    Calls Tryz.prog 66 #[.agg (Kx.rA r A5 A7 A8 A9 A10 c5 c7 c8 c9 c10), .agg (Kx.mA m A c)] w fun e w' => e = .returned (.bool false) ∧ Mem w w' [] := by
  have HL := Aside0.mk hl
  have HC := Aside0.mk hc
  have HN := Aside0.mk hn
  have M1 := Aside0.mk (((Mem.nil w).alloc (Kx.rA r A5 A7 A8 A9 A10 c5 c7 c8 c9 c10) 25).allocAt (Kx.mA m A c) 27 (w.heap.size + 1) (by simp))
  clear hl hc hn
  have cM := blk_cell (M1.out.blk_at 0 rfl)
  have cR := blk_cell (M1.out.blk_at 1 rfl)
  have e0 : decide (m.f0 < 1) = false := by simp; omega
  clear ka
  have e8 : decide (8 < m.f0) = false := by simp; omega
  clear kb
  have e1 : decide (m.f1 < 0) = false := by simp; omega
  clear c1
  have e2 : decide (r.f1 ≤ m.f1) = false := by simp; omega
  clear c2
  have e3 : (m.f1 == r.f0) = true := by simpa using c3
  clear c3
  go_enter Tryz.func66, Tryz.ntmps66
  go_wp2_with fail
  go_ret
  exact ⟨rfl, Mem.sel (ps := [_, _]) (F := []) [] 2 M1.out rfl rfl⟩
theorem msg_c4 (r : Rep) (m : Msg) (A5 A7 A8 A9 A10 A : Option Addr) (c5 c7 c8 c9 c10 c : Nat) (w : World) (hl : Kd.C kE w A m.f7.length m.f7) (hc : m.f7.length ≤ c) (hn : m.f7.length ≤ 1000000) (ka : 1 ≤ m.f0) (kb : m.f0 ≤ 8) (c1 : 0 ≤ m.f1) (c2 : m.f1 < r.f1) (c3 : ¬ m.f1 = r.f0) (c4 : ¬ (m.f2 = r.f0)) :
    Calls Tryz.prog 66 #[.agg (Kx.rA r A5 A7 A8 A9 A10 c5 c7 c8 c9 c10), .agg (Kx.mA m A c)] w fun e w' => e = .returned (.bool false) ∧ Mem w w' [] := by
  have HL := Aside0.mk hl
  have HC := Aside0.mk hc
  have HN := Aside0.mk hn
  have M1 := Aside0.mk (((Mem.nil w).alloc (Kx.rA r A5 A7 A8 A9 A10 c5 c7 c8 c9 c10) 25).allocAt (Kx.mA m A c) 27 (w.heap.size + 1) (by simp))
  clear hl hc hn
  have cM := blk_cell (M1.out.blk_at 0 rfl)
  have cR := blk_cell (M1.out.blk_at 1 rfl)
  have e0 : decide (m.f0 < 1) = false := by simp; omega
  clear ka
  have e8 : decide (8 < m.f0) = false := by simp; omega
  clear kb
  have e1 : decide (m.f1 < 0) = false := by simp; omega
  clear c1
  have e2 : decide (r.f1 ≤ m.f1) = false := by simp; omega
  clear c2
  have e3 : (m.f1 == r.f0) = false := by simpa using c3
  clear c3
  have e4 : (m.f2 == r.f0) = false := by simpa using c4
  have e4' : (m.f2 != r.f0) = true := by simpa using c4
  clear c4
  go_enter Tryz.func66, Tryz.ntmps66
  go_wp2_with fail
  go_ret
  exact ⟨rfl, Mem.sel (ps := [_, _]) (F := []) [] 2 M1.out rfl rfl⟩
theorem msg_b3 (r : Rep) (m : Msg) (A5 A7 A8 A9 A10 A : Option Addr) (c5 c7 c8 c9 c10 c : Nat) (w : World) (hl : Kd.C kE w A m.f7.length m.f7) (hc : m.f7.length ≤ c) (hn : m.f7.length ≤ 1000000) (ka : 1 ≤ m.f0) (kb : m.f0 ≤ 8) (c1 : 0 ≤ m.f1) (c2 : m.f1 < r.f1) (c3 : ¬ m.f1 = r.f0) (c4 : m.f2 = r.f0) (b3 : ¬ (below m.f3 = true)) :
    Calls Tryz.prog 66 #[.agg (Kx.rA r A5 A7 A8 A9 A10 c5 c7 c8 c9 c10), .agg (Kx.mA m A c)] w fun e w' => e = .returned (.bool false) ∧ Mem w w' [] := by
  have HL := Aside0.mk hl
  have HC := Aside0.mk hc
  have HN := Aside0.mk hn
  have M1 := Aside0.mk (((Mem.nil w).alloc (Kx.rA r A5 A7 A8 A9 A10 c5 c7 c8 c9 c10) 25).allocAt (Kx.mA m A c) 27 (w.heap.size + 1) (by simp))
  clear hl hc hn
  have cM := blk_cell (M1.out.blk_at 0 rfl)
  have cR := blk_cell (M1.out.blk_at 1 rfl)
  have e0 : decide (m.f0 < 1) = false := by simp; omega
  clear ka
  have e8 : decide (8 < m.f0) = false := by simp; omega
  clear kb
  have e1 : decide (m.f1 < 0) = false := by simp; omega
  clear c1
  have e2 : decide (r.f1 ≤ m.f1) = false := by simp; omega
  clear c2
  have e3 : (m.f1 == r.f0) = false := by simpa using c3
  clear c3
  have e4 : (m.f2 == r.f0) = true := by simpa using c4
  have e4' : (m.f2 != r.f0) = false := by simpa using c4
  clear c4
  have B3 := Aside0.mk (show below m.f3 = false by simpa using b3)
  clear b3
  go_enter Tryz.func66, Tryz.ntmps66
  go_wp2_with fail
  refine (time11_calls _ _).mono ?_
  rintro e w1 ⟨he, hb⟩
  rw [B3.out] at he
  subst he
  have M2 := Aside0.mk (M1.out.grow hb)
  clear hb M1 cM cR
  have M1 := M2
  clear M2
  have cM := blk_cell (M1.out.blk_at 0 rfl)
  have cR := blk_cell (M1.out.blk_at 1 rfl)
  go_wp2_with fail
  go_ret
  exact ⟨rfl, Mem.sel (ps := [_, _]) (F := []) [] 2 M1.out rfl rfl⟩
theorem msg_b4 (r : Rep) (m : Msg) (A5 A7 A8 A9 A10 A : Option Addr) (c5 c7 c8 c9 c10 c : Nat) (w : World) (hl : Kd.C kE w A m.f7.length m.f7) (hc : m.f7.length ≤ c) (hn : m.f7.length ≤ 1000000) (ka : 1 ≤ m.f0) (kb : m.f0 ≤ 8) (c1 : 0 ≤ m.f1) (c2 : m.f1 < r.f1) (c3 : ¬ m.f1 = r.f0) (c4 : m.f2 = r.f0) (b3 : below m.f3 = true) (b4 : ¬ (below m.f4 = true)) :
    Calls Tryz.prog 66 #[.agg (Kx.rA r A5 A7 A8 A9 A10 c5 c7 c8 c9 c10), .agg (Kx.mA m A c)] w fun e w' => e = .returned (.bool false) ∧ Mem w w' [] := by
  have HL := Aside0.mk hl
  have HC := Aside0.mk hc
  have HN := Aside0.mk hn
  have M1 := Aside0.mk (((Mem.nil w).alloc (Kx.rA r A5 A7 A8 A9 A10 c5 c7 c8 c9 c10) 25).allocAt (Kx.mA m A c) 27 (w.heap.size + 1) (by simp))
  clear hl hc hn
  have cM := blk_cell (M1.out.blk_at 0 rfl)
  have cR := blk_cell (M1.out.blk_at 1 rfl)
  have e0 : decide (m.f0 < 1) = false := by simp; omega
  clear ka
  have e8 : decide (8 < m.f0) = false := by simp; omega
  clear kb
  have e1 : decide (m.f1 < 0) = false := by simp; omega
  clear c1
  have e2 : decide (r.f1 ≤ m.f1) = false := by simp; omega
  clear c2
  have e3 : (m.f1 == r.f0) = false := by simpa using c3
  clear c3
  have e4 : (m.f2 == r.f0) = true := by simpa using c4
  have e4' : (m.f2 != r.f0) = false := by simpa using c4
  clear c4
  have B3 := Aside0.mk (show below m.f3 = true by simpa using b3)
  clear b3
  have B4 := Aside0.mk (show below m.f4 = false by simpa using b4)
  clear b4
  go_enter Tryz.func66, Tryz.ntmps66
  go_wp2_with fail
  refine (time11_calls _ _).mono ?_
  rintro e w1 ⟨he, hb⟩
  rw [B3.out] at he
  subst he
  have M2 := Aside0.mk (M1.out.grow hb)
  clear hb M1 cM cR
  have M1 := M2
  clear M2
  have cM := blk_cell (M1.out.blk_at 0 rfl)
  have cR := blk_cell (M1.out.blk_at 1 rfl)
  go_wp2_with fail
  refine (time11_calls _ _).mono ?_
  rintro e w1 ⟨he, hb⟩
  rw [B4.out] at he
  subst he
  have M2 := Aside0.mk (M1.out.grow hb)
  clear hb M1 cM cR
  have M1 := M2
  clear M2
  have cM := blk_cell (M1.out.blk_at 0 rfl)
  have cR := blk_cell (M1.out.blk_at 1 rfl)
  go_wp2_with fail
  go_ret
  exact ⟨rfl, Mem.sel (ps := [_, _]) (F := []) [] 2 M1.out rfl rfl⟩
theorem msg_b5 (r : Rep) (m : Msg) (A5 A7 A8 A9 A10 A : Option Addr) (c5 c7 c8 c9 c10 c : Nat) (w : World) (hl : Kd.C kE w A m.f7.length m.f7) (hc : m.f7.length ≤ c) (hn : m.f7.length ≤ 1000000) (ka : 1 ≤ m.f0) (kb : m.f0 ≤ 8) (c1 : 0 ≤ m.f1) (c2 : m.f1 < r.f1) (c3 : ¬ m.f1 = r.f0) (c4 : m.f2 = r.f0) (b3 : below m.f3 = true) (b4 : below m.f4 = true) (b5 : ¬ (below m.f5 = true)) :
    Calls Tryz.prog 66 #[.agg (Kx.rA r A5 A7 A8 A9 A10 c5 c7 c8 c9 c10), .agg (Kx.mA m A c)] w fun e w' => e = .returned (.bool false) ∧ Mem w w' [] := by
  have HL := Aside0.mk hl
  have HC := Aside0.mk hc
  have HN := Aside0.mk hn
  have M1 := Aside0.mk (((Mem.nil w).alloc (Kx.rA r A5 A7 A8 A9 A10 c5 c7 c8 c9 c10) 25).allocAt (Kx.mA m A c) 27 (w.heap.size + 1) (by simp))
  clear hl hc hn
  have cM := blk_cell (M1.out.blk_at 0 rfl)
  have cR := blk_cell (M1.out.blk_at 1 rfl)
  have e0 : decide (m.f0 < 1) = false := by simp; omega
  clear ka
  have e8 : decide (8 < m.f0) = false := by simp; omega
  clear kb
  have e1 : decide (m.f1 < 0) = false := by simp; omega
  clear c1
  have e2 : decide (r.f1 ≤ m.f1) = false := by simp; omega
  clear c2
  have e3 : (m.f1 == r.f0) = false := by simpa using c3
  clear c3
  have e4 : (m.f2 == r.f0) = true := by simpa using c4
  have e4' : (m.f2 != r.f0) = false := by simpa using c4
  clear c4
  have B3 := Aside0.mk (show below m.f3 = true by simpa using b3)
  clear b3
  have B4 := Aside0.mk (show below m.f4 = true by simpa using b4)
  clear b4
  have B5 := Aside0.mk (show below m.f5 = false by simpa using b5)
  clear b5
  go_enter Tryz.func66, Tryz.ntmps66
  go_wp2_with fail
  refine (time11_calls _ _).mono ?_
  rintro e w1 ⟨he, hb⟩
  rw [B3.out] at he
  subst he
  have M2 := Aside0.mk (M1.out.grow hb)
  clear hb M1 cM cR
  have M1 := M2
  clear M2
  have cM := blk_cell (M1.out.blk_at 0 rfl)
  have cR := blk_cell (M1.out.blk_at 1 rfl)
  go_wp2_with fail
  refine (time11_calls _ _).mono ?_
  rintro e w1 ⟨he, hb⟩
  rw [B4.out] at he
  subst he
  have M2 := Aside0.mk (M1.out.grow hb)
  clear hb M1 cM cR
  have M1 := M2
  clear M2
  have cM := blk_cell (M1.out.blk_at 0 rfl)
  have cR := blk_cell (M1.out.blk_at 1 rfl)
  go_wp2_with fail
  refine (time11_calls _ _).mono ?_
  rintro e w1 ⟨he, hb⟩
  rw [B5.out] at he
  subst he
  have M2 := Aside0.mk (M1.out.grow hb)
  clear hb M1 cM cR
  have M1 := M2
  clear M2
  have cM := blk_cell (M1.out.blk_at 0 rfl)
  have cR := blk_cell (M1.out.blk_at 1 rfl)
  go_wp2_with fail
  go_ret
  exact ⟨rfl, Mem.sel (ps := [_, _]) (F := []) [] 2 M1.out rfl rfl⟩
theorem msg_b6 (r : Rep) (m : Msg) (A5 A7 A8 A9 A10 A : Option Addr) (c5 c7 c8 c9 c10 c : Nat) (w : World) (hl : Kd.C kE w A m.f7.length m.f7) (hc : m.f7.length ≤ c) (hn : m.f7.length ≤ 1000000) (ka : 1 ≤ m.f0) (kb : m.f0 ≤ 8) (c1 : 0 ≤ m.f1) (c2 : m.f1 < r.f1) (c3 : ¬ m.f1 = r.f0) (c4 : m.f2 = r.f0) (b3 : below m.f3 = true) (b4 : below m.f4 = true) (b5 : below m.f5 = true) (b6 : ¬ (below m.f6 = true)) :
    Calls Tryz.prog 66 #[.agg (Kx.rA r A5 A7 A8 A9 A10 c5 c7 c8 c9 c10), .agg (Kx.mA m A c)] w fun e w' => e = .returned (.bool false) ∧ Mem w w' [] := by
  have HL := Aside0.mk hl
  have HC := Aside0.mk hc
  have HN := Aside0.mk hn
  have M1 := Aside0.mk (((Mem.nil w).alloc (Kx.rA r A5 A7 A8 A9 A10 c5 c7 c8 c9 c10) 25).allocAt (Kx.mA m A c) 27 (w.heap.size + 1) (by simp))
  clear hl hc hn
  have cM := blk_cell (M1.out.blk_at 0 rfl)
  have cR := blk_cell (M1.out.blk_at 1 rfl)
  have e0 : decide (m.f0 < 1) = false := by simp; omega
  clear ka
  have e8 : decide (8 < m.f0) = false := by simp; omega
  clear kb
  have e1 : decide (m.f1 < 0) = false := by simp; omega
  clear c1
  have e2 : decide (r.f1 ≤ m.f1) = false := by simp; omega
  clear c2
  have e3 : (m.f1 == r.f0) = false := by simpa using c3
  clear c3
  have e4 : (m.f2 == r.f0) = true := by simpa using c4
  have e4' : (m.f2 != r.f0) = false := by simpa using c4
  clear c4
  have B3 := Aside0.mk (show below m.f3 = true by simpa using b3)
  clear b3
  have B4 := Aside0.mk (show below m.f4 = true by simpa using b4)
  clear b4
  have B5 := Aside0.mk (show below m.f5 = true by simpa using b5)
  clear b5
  have B6 := Aside0.mk (show below m.f6 = false by simpa using b6)
  clear b6
  go_enter Tryz.func66, Tryz.ntmps66
  go_wp2_with fail
  refine (time11_calls _ _).mono ?_
  rintro e w1 ⟨he, hb⟩
  rw [B3.out] at he
  subst he
  have M2 := Aside0.mk (M1.out.grow hb)
  clear hb M1 cM cR
  have M1 := M2
  clear M2
  have cM := blk_cell (M1.out.blk_at 0 rfl)
  have cR := blk_cell (M1.out.blk_at 1 rfl)
  go_wp2_with fail
  refine (time11_calls _ _).mono ?_
  rintro e w1 ⟨he, hb⟩
  rw [B4.out] at he
  subst he
  have M2 := Aside0.mk (M1.out.grow hb)
  clear hb M1 cM cR
  have M1 := M2
  clear M2
  have cM := blk_cell (M1.out.blk_at 0 rfl)
  have cR := blk_cell (M1.out.blk_at 1 rfl)
  go_wp2_with fail
  refine (time11_calls _ _).mono ?_
  rintro e w1 ⟨he, hb⟩
  rw [B5.out] at he
  subst he
  have M2 := Aside0.mk (M1.out.grow hb)
  clear hb M1 cM cR
  have M1 := M2
  clear M2
  have cM := blk_cell (M1.out.blk_at 0 rfl)
  have cR := blk_cell (M1.out.blk_at 1 rfl)
  go_wp2_with fail
  refine (time11_calls _ _).mono ?_
  rintro e w1 ⟨he, hb⟩
  rw [B6.out] at he
  subst he
  have M2 := Aside0.mk (M1.out.grow hb)
  clear hb M1 cM cR
  have M1 := M2
  clear M2
  have cM := blk_cell (M1.out.blk_at 0 rfl)
  have cR := blk_cell (M1.out.blk_at 1 rfl)
  go_wp2_with fail
  go_ret
  exact ⟨rfl, Mem.sel (ps := [_, _]) (F := []) [] 2 M1.out rfl rfl⟩
theorem msg_lg (r : Rep) (m : Msg) (A5 A7 A8 A9 A10 A : Option Addr) (c5 c7 c8 c9 c10 c : Nat) (w : World) (hl : Kd.C kE w A m.f7.length m.f7) (hc : m.f7.length ≤ c) (hn : m.f7.length ≤ 1000000) (ka : 1 ≤ m.f0) (kb : m.f0 ≤ 8) (c1 : 0 ≤ m.f1) (c2 : m.f1 < r.f1) (c3 : ¬ m.f1 = r.f0) (c4 : m.f2 = r.f0) (b3 : below m.f3 = true) (b4 : below m.f4 = true) (b5 : below m.f5 = true) (b6 : below m.f6 = true) (lg : ¬ (log m.f7 = true)) :
    Calls Tryz.prog 66 #[.agg (Kx.rA r A5 A7 A8 A9 A10 c5 c7 c8 c9 c10), .agg (Kx.mA m A c)] w fun e w' => e = .returned (.bool false) ∧ Mem w w' [] := by
  have HL := Aside0.mk hl
  have HC := Aside0.mk hc
  have HN := Aside0.mk hn
  have M1 := Aside0.mk (((Mem.nil w).alloc (Kx.rA r A5 A7 A8 A9 A10 c5 c7 c8 c9 c10) 25).allocAt (Kx.mA m A c) 27 (w.heap.size + 1) (by simp))
  clear hl hc hn
  have cM := blk_cell (M1.out.blk_at 0 rfl)
  have cR := blk_cell (M1.out.blk_at 1 rfl)
  have e0 : decide (m.f0 < 1) = false := by simp; omega
  clear ka
  have e8 : decide (8 < m.f0) = false := by simp; omega
  clear kb
  have e1 : decide (m.f1 < 0) = false := by simp; omega
  clear c1
  have e2 : decide (r.f1 ≤ m.f1) = false := by simp; omega
  clear c2
  have e3 : (m.f1 == r.f0) = false := by simpa using c3
  clear c3
  have e4 : (m.f2 == r.f0) = true := by simpa using c4
  have e4' : (m.f2 != r.f0) = false := by simpa using c4
  clear c4
  have B3 := Aside0.mk (show below m.f3 = true by simpa using b3)
  clear b3
  have B4 := Aside0.mk (show below m.f4 = true by simpa using b4)
  clear b4
  have B5 := Aside0.mk (show below m.f5 = true by simpa using b5)
  clear b5
  have B6 := Aside0.mk (show below m.f6 = true by simpa using b6)
  clear b6
  have LG := Aside0.mk (show log m.f7 = false by simpa using lg)
  clear lg
  go_enter Tryz.func66, Tryz.ntmps66
  go_wp2_with fail
  refine (time11_calls _ _).mono ?_
  rintro e w1 ⟨he, hb⟩
  rw [B3.out] at he
  subst he
  have M2 := Aside0.mk (M1.out.grow hb)
  clear hb M1 cM cR
  have M1 := M2
  clear M2
  have cM := blk_cell (M1.out.blk_at 0 rfl)
  have cR := blk_cell (M1.out.blk_at 1 rfl)
  go_wp2_with fail
  refine (time11_calls _ _).mono ?_
  rintro e w1 ⟨he, hb⟩
  rw [B4.out] at he
  subst he
  have M2 := Aside0.mk (M1.out.grow hb)
  clear hb M1 cM cR
  have M1 := M2
  clear M2
  have cM := blk_cell (M1.out.blk_at 0 rfl)
  have cR := blk_cell (M1.out.blk_at 1 rfl)
  go_wp2_with fail
  refine (time11_calls _ _).mono ?_
  rintro e w1 ⟨he, hb⟩
  rw [B5.out] at he
  subst he
  have M2 := Aside0.mk (M1.out.grow hb)
  clear hb M1 cM cR
  have M1 := M2
  clear M2
  have cM := blk_cell (M1.out.blk_at 0 rfl)
  have cR := blk_cell (M1.out.blk_at 1 rfl)
  go_wp2_with fail
  refine (time11_calls _ _).mono ?_
  rintro e w1 ⟨he, hb⟩
  rw [B6.out] at he
  subst he
  have M2 := Aside0.mk (M1.out.grow hb)
  clear hb M1 cM cR
  have M1 := M2
  clear M2
  have cM := blk_cell (M1.out.blk_at 0 rfl)
  have cR := blk_cell (M1.out.blk_at 1 rfl)
  go_wp2_with fail
  refine (Entries11_calls A c m.f7 _ (Kd.C_below HL.out M1.out.below) HC.out HN.out).mono ?_
  rintro e w1 ⟨he, hb⟩
  rw [LG.out] at he
  subst he
  have M2 := Aside0.mk (M1.out.grow hb)
  clear hb M1 cM cR
  have M1 := M2
  clear M2
  have cM := blk_cell (M1.out.blk_at 0 rfl)
  have cR := blk_cell (M1.out.blk_at 1 rfl)
  go_wp2_with fail
  go_ret
  exact ⟨rfl, Mem.sel (ps := [_, _]) (F := []) [] 2 M1.out rfl rfl⟩
theorem msg_k (r : Rep) (m : Msg) (A5 A7 A8 A9 A10 A : Option Addr) (c5 c7 c8 c9 c10 c : Nat) (w : World) (hl : Kd.C kE w A m.f7.length m.f7) (hc : m.f7.length ≤ c) (hn : m.f7.length ≤ 1000000) (ka : 1 ≤ m.f0) (kb : m.f0 ≤ 8) (c1 : 0 ≤ m.f1) (c2 : m.f1 < r.f1) (c3 : ¬ m.f1 = r.f0) (c4 : m.f2 = r.f0) (b3 : below m.f3 = true) (b4 : below m.f4 = true) (b5 : below m.f5 = true) (b6 : below m.f6 = true) (lg : log m.f7 = true) (k1 : ¬ m.f0 = 1) :
    Calls Tryz.prog 66 #[.agg (Kx.rA r A5 A7 A8 A9 A10 c5 c7 c8 c9 c10), .agg (Kx.mA m A c)] w fun e w' => e = .returned (.bool true) ∧ Mem w w' [] := by
  have HL := Aside0.mk hl
  have HC := Aside0.mk hc
  have HN := Aside0.mk hn
  have M1 := Aside0.mk (((Mem.nil w).alloc (Kx.rA r A5 A7 A8 A9 A10 c5 c7 c8 c9 c10) 25).allocAt (Kx.mA m A c) 27 (w.heap.size + 1) (by simp))
  clear hl hc hn
  have cM := blk_cell (M1.out.blk_at 0 rfl)
  have cR := blk_cell (M1.out.blk_at 1 rfl)
  have e0 : decide (m.f0 < 1) = false := by simp; omega
  clear ka
  have e8 : decide (8 < m.f0) = false := by simp; omega
  clear kb
  have e1 : decide (m.f1 < 0) = false := by simp; omega
  clear c1
  have e2 : decide (r.f1 ≤ m.f1) = false := by simp; omega
  clear c2
  have e3 : (m.f1 == r.f0) = false := by simpa using c3
  clear c3
  have e4 : (m.f2 == r.f0) = true := by simpa using c4
  have e4' : (m.f2 != r.f0) = false := by simpa using c4
  clear c4
  have B3 := Aside0.mk (show below m.f3 = true by simpa using b3)
  clear b3
  have B4 := Aside0.mk (show below m.f4 = true by simpa using b4)
  clear b4
  have B5 := Aside0.mk (show below m.f5 = true by simpa using b5)
  clear b5
  have B6 := Aside0.mk (show below m.f6 = true by simpa using b6)
  clear b6
  have LG := Aside0.mk (show log m.f7 = true by simpa using lg)
  clear lg
  have e9 : (m.f0 == 1) = false := by simpa using k1
  have e9' : (m.f0 != 1) = true := by simpa using k1
  clear k1
  go_enter Tryz.func66, Tryz.ntmps66
  go_wp2_with fail
  refine (time11_calls _ _).mono ?_
  rintro e w1 ⟨he, hb⟩
  rw [B3.out] at he
  subst he
  have M2 := Aside0.mk (M1.out.grow hb)
  clear hb M1 cM cR
  have M1 := M2
  clear M2
  have cM := blk_cell (M1.out.blk_at 0 rfl)
  have cR := blk_cell (M1.out.blk_at 1 rfl)
  go_wp2_with fail
  refine (time11_calls _ _).mono ?_
  rintro e w1 ⟨he, hb⟩
  rw [B4.out] at he
  subst he
  have M2 := Aside0.mk (M1.out.grow hb)
  clear hb M1 cM cR
  have M1 := M2
  clear M2
  have cM := blk_cell (M1.out.blk_at 0 rfl)
  have cR := blk_cell (M1.out.blk_at 1 rfl)
  go_wp2_with fail
  refine (time11_calls _ _).mono ?_
  rintro e w1 ⟨he, hb⟩
  rw [B5.out] at he
  subst he
  have M2 := Aside0.mk (M1.out.grow hb)
  clear hb M1 cM cR
  have M1 := M2
  clear M2
  have cM := blk_cell (M1.out.blk_at 0 rfl)
  have cR := blk_cell (M1.out.blk_at 1 rfl)
  go_wp2_with fail
  refine (time11_calls _ _).mono ?_
  rintro e w1 ⟨he, hb⟩
  rw [B6.out] at he
  subst he
  have M2 := Aside0.mk (M1.out.grow hb)
  clear hb M1 cM cR
  have M1 := M2
  clear M2
  have cM := blk_cell (M1.out.blk_at 0 rfl)
  have cR := blk_cell (M1.out.blk_at 1 rfl)
  go_wp2_with fail
  refine (Entries11_calls A c m.f7 _ (Kd.C_below HL.out M1.out.below) HC.out HN.out).mono ?_
  rintro e w1 ⟨he, hb⟩
  rw [LG.out] at he
  subst he
  have M2 := Aside0.mk (M1.out.grow hb)
  clear hb M1 cM cR
  have M1 := M2
  clear M2
  have cM := blk_cell (M1.out.blk_at 0 rfl)
  have cR := blk_cell (M1.out.blk_at 1 rfl)
  go_wp2_with fail
  go_ret
  exact ⟨rfl, Mem.sel (ps := [_, _]) (F := []) [] 2 M1.out rfl rfl⟩
theorem msg_n1 (r : Rep) (m : Msg) (A5 A7 A8 A9 A10 A : Option Addr) (c5 c7 c8 c9 c10 c : Nat) (w : World) (hl : Kd.C kE w A m.f7.length m.f7) (hc : m.f7.length ≤ c) (hn : m.f7.length ≤ 1000000) (ka : 1 ≤ m.f0) (kb : m.f0 ≤ 8) (c1 : 0 ≤ m.f1) (c2 : m.f1 < r.f1) (c3 : ¬ m.f1 = r.f0) (c4 : m.f2 = r.f0) (b3 : below m.f3 = true) (b4 : below m.f4 = true) (b5 : below m.f5 = true) (b6 : below m.f6 = true) (lg : log m.f7 = true) (k1 : ¬ (¬ m.f0 = 1)) (n1 : ¬ ((m.f7.length : Int) = 1)) :
    Calls Tryz.prog 66 #[.agg (Kx.rA r A5 A7 A8 A9 A10 c5 c7 c8 c9 c10), .agg (Kx.mA m A c)] w fun e w' => e = .returned (.bool false) ∧ Mem w w' [] := by
  have HL := Aside0.mk hl
  have HC := Aside0.mk hc
  have HN := Aside0.mk hn
  have M1 := Aside0.mk (((Mem.nil w).alloc (Kx.rA r A5 A7 A8 A9 A10 c5 c7 c8 c9 c10) 25).allocAt (Kx.mA m A c) 27 (w.heap.size + 1) (by simp))
  clear hl hc hn
  have cM := blk_cell (M1.out.blk_at 0 rfl)
  have cR := blk_cell (M1.out.blk_at 1 rfl)
  have e0 : decide (m.f0 < 1) = false := by simp; omega
  clear ka
  have e8 : decide (8 < m.f0) = false := by simp; omega
  clear kb
  have e1 : decide (m.f1 < 0) = false := by simp; omega
  clear c1
  have e2 : decide (r.f1 ≤ m.f1) = false := by simp; omega
  clear c2
  have e3 : (m.f1 == r.f0) = false := by simpa using c3
  clear c3
  have e4 : (m.f2 == r.f0) = true := by simpa using c4
  have e4' : (m.f2 != r.f0) = false := by simpa using c4
  clear c4
  have B3 := Aside0.mk (show below m.f3 = true by simpa using b3)
  clear b3
  have B4 := Aside0.mk (show below m.f4 = true by simpa using b4)
  clear b4
  have B5 := Aside0.mk (show below m.f5 = true by simpa using b5)
  clear b5
  have B6 := Aside0.mk (show below m.f6 = true by simpa using b6)
  clear b6
  have LG := Aside0.mk (show log m.f7 = true by simpa using lg)
  clear lg
  have e9 : (m.f0 == 1) = true := by simpa using k1
  have e9' : (m.f0 != 1) = false := by simpa using k1
  clear k1
  have e10 : ((m.f7.length : Int) == 1) = false := by simpa using n1
  clear n1
  go_enter Tryz.func66, Tryz.ntmps66
  go_wp2_with fail
  refine (time11_calls _ _).mono ?_
  rintro e w1 ⟨he, hb⟩
  rw [B3.out] at he
  subst he
  have M2 := Aside0.mk (M1.out.grow hb)
  clear hb M1 cM cR
  have M1 := M2
  clear M2
  have cM := blk_cell (M1.out.blk_at 0 rfl)
  have cR := blk_cell (M1.out.blk_at 1 rfl)
  go_wp2_with fail
  refine (time11_calls _ _).mono ?_
  rintro e w1 ⟨he, hb⟩
  rw [B4.out] at he
  subst he
  have M2 := Aside0.mk (M1.out.grow hb)
  clear hb M1 cM cR
  have M1 := M2
  clear M2
  have cM := blk_cell (M1.out.blk_at 0 rfl)
  have cR := blk_cell (M1.out.blk_at 1 rfl)
  go_wp2_with fail
  refine (time11_calls _ _).mono ?_
  rintro e w1 ⟨he, hb⟩
  rw [B5.out] at he
  subst he
  have M2 := Aside0.mk (M1.out.grow hb)
  clear hb M1 cM cR
  have M1 := M2
  clear M2
  have cM := blk_cell (M1.out.blk_at 0 rfl)
  have cR := blk_cell (M1.out.blk_at 1 rfl)
  go_wp2_with fail
  refine (time11_calls _ _).mono ?_
  rintro e w1 ⟨he, hb⟩
  rw [B6.out] at he
  subst he
  have M2 := Aside0.mk (M1.out.grow hb)
  clear hb M1 cM cR
  have M1 := M2
  clear M2
  have cM := blk_cell (M1.out.blk_at 0 rfl)
  have cR := blk_cell (M1.out.blk_at 1 rfl)
  go_wp2_with fail
  refine (Entries11_calls A c m.f7 _ (Kd.C_below HL.out M1.out.below) HC.out HN.out).mono ?_
  rintro e w1 ⟨he, hb⟩
  rw [LG.out] at he
  subst he
  have M2 := Aside0.mk (M1.out.grow hb)
  clear hb M1 cM cR
  have M1 := M2
  clear M2
  have cM := blk_cell (M1.out.blk_at 0 rfl)
  have cR := blk_cell (M1.out.blk_at 1 rfl)
  go_wp2_with fail
  go_ret
  exact ⟨rfl, Mem.sel (ps := [_, _]) (F := []) [] 2 M1.out rfl rfl⟩
theorem msg_all (r : Rep) (m : Msg) (A5 A7 A8 A9 A10 A : Option Addr) (c5 c7 c8 c9 c10 c : Nat) (w : World) (hl : Kd.C kE w A m.f7.length m.f7) (hc : m.f7.length ≤ c) (hn : m.f7.length ≤ 1000000) (ka : 1 ≤ m.f0) (kb : m.f0 ≤ 8) (c1 : 0 ≤ m.f1) (c2 : m.f1 < r.f1) (c3 : ¬ m.f1 = r.f0) (c4 : m.f2 = r.f0) (b3 : below m.f3 = true) (b4 : below m.f4 = true) (b5 : below m.f5 = true) (b6 : below m.f6 = true) (lg : log m.f7 = true) (k1 : ¬ (¬ m.f0 = 1)) (n1 : (m.f7.length : Int) = 1) :
    Calls Tryz.prog 66 #[.agg (Kx.rA r A5 A7 A8 A9 A10 c5 c7 c8 c9 c10), .agg (Kx.mA m A c)] w fun e w' => e = .returned (.bool true) ∧ Mem w w' [] := by
  have HL := Aside0.mk hl
  have HC := Aside0.mk hc
  have HN := Aside0.mk hn
  have M1 := Aside0.mk (((Mem.nil w).alloc (Kx.rA r A5 A7 A8 A9 A10 c5 c7 c8 c9 c10) 25).allocAt (Kx.mA m A c) 27 (w.heap.size + 1) (by simp))
  clear hl hc hn
  have cM := blk_cell (M1.out.blk_at 0 rfl)
  have cR := blk_cell (M1.out.blk_at 1 rfl)
  have e0 : decide (m.f0 < 1) = false := by simp; omega
  clear ka
  have e8 : decide (8 < m.f0) = false := by simp; omega
  clear kb
  have e1 : decide (m.f1 < 0) = false := by simp; omega
  clear c1
  have e2 : decide (r.f1 ≤ m.f1) = false := by simp; omega
  clear c2
  have e3 : (m.f1 == r.f0) = false := by simpa using c3
  clear c3
  have e4 : (m.f2 == r.f0) = true := by simpa using c4
  have e4' : (m.f2 != r.f0) = false := by simpa using c4
  clear c4
  have B3 := Aside0.mk (show below m.f3 = true by simpa using b3)
  clear b3
  have B4 := Aside0.mk (show below m.f4 = true by simpa using b4)
  clear b4
  have B5 := Aside0.mk (show below m.f5 = true by simpa using b5)
  clear b5
  have B6 := Aside0.mk (show below m.f6 = true by simpa using b6)
  clear b6
  have LG := Aside0.mk (show log m.f7 = true by simpa using lg)
  clear lg
  have e9 : (m.f0 == 1) = true := by simpa using k1
  have e9' : (m.f0 != 1) = false := by simpa using k1
  clear k1
  have e10 : ((m.f7.length : Int) == 1) = true := by simpa using n1
  clear n1
  go_enter Tryz.func66, Tryz.ntmps66
  go_wp2_with fail
  refine (time11_calls _ _).mono ?_
  rintro e w1 ⟨he, hb⟩
  rw [B3.out] at he
  subst he
  have M2 := Aside0.mk (M1.out.grow hb)
  clear hb M1 cM cR
  have M1 := M2
  clear M2
  have cM := blk_cell (M1.out.blk_at 0 rfl)
  have cR := blk_cell (M1.out.blk_at 1 rfl)
  go_wp2_with fail
  refine (time11_calls _ _).mono ?_
  rintro e w1 ⟨he, hb⟩
  rw [B4.out] at he
  subst he
  have M2 := Aside0.mk (M1.out.grow hb)
  clear hb M1 cM cR
  have M1 := M2
  clear M2
  have cM := blk_cell (M1.out.blk_at 0 rfl)
  have cR := blk_cell (M1.out.blk_at 1 rfl)
  go_wp2_with fail
  refine (time11_calls _ _).mono ?_
  rintro e w1 ⟨he, hb⟩
  rw [B5.out] at he
  subst he
  have M2 := Aside0.mk (M1.out.grow hb)
  clear hb M1 cM cR
  have M1 := M2
  clear M2
  have cM := blk_cell (M1.out.blk_at 0 rfl)
  have cR := blk_cell (M1.out.blk_at 1 rfl)
  go_wp2_with fail
  refine (time11_calls _ _).mono ?_
  rintro e w1 ⟨he, hb⟩
  rw [B6.out] at he
  subst he
  have M2 := Aside0.mk (M1.out.grow hb)
  clear hb M1 cM cR
  have M1 := M2
  clear M2
  have cM := blk_cell (M1.out.blk_at 0 rfl)
  have cR := blk_cell (M1.out.blk_at 1 rfl)
  go_wp2_with fail
  refine (Entries11_calls A c m.f7 _ (Kd.C_below HL.out M1.out.below) HC.out HN.out).mono ?_
  rintro e w1 ⟨he, hb⟩
  rw [LG.out] at he
  subst he
  have M2 := Aside0.mk (M1.out.grow hb)
  clear hb M1 cM cR
  have M1 := M2
  clear M2
  have cM := blk_cell (M1.out.blk_at 0 rfl)
  have cR := blk_cell (M1.out.blk_at 1 rfl)
  go_wp2_with fail
  go_ret
  exact ⟨rfl, Mem.sel (ps := [_, _]) (F := []) [] 2 M1.out rfl rfl⟩
theorem message11_calls (r : Rep) (m : Msg) (A5 A7 A8 A9 A10 A : Option Addr) (c5 c7 c8 c9 c10 c : Nat) (w : World) (hl : Kd.C kE w A m.f7.length m.f7) (hc : m.f7.length ≤ c) (hn : m.f7.length ≤ 1000000) :
    Calls Tryz.prog 66 #[.agg (Kx.rA r A5 A7 A8 A9 A10 c5 c7 c8 c9 c10), .agg (Kx.mA m A c)] w fun e w' => e = .returned (.bool (mayMsg r m)) ∧ Mem w w' [] := by
  by_cases ka : 1 ≤ m.f0
  case neg =>
    have e : mayMsg r m = false := by simp [mayMsg, mayM, ka]
    rw [e]
    exact msg_ka r m A5 A7 A8 A9 A10 A c5 c7 c8 c9 c10 c w hl hc hn  ka
  by_cases kb : m.f0 ≤ 8
  case neg =>
    have e : mayMsg r m = false := by simp [mayMsg, mayM, kb]
    rw [e]
    exact msg_kb r m A5 A7 A8 A9 A10 A c5 c7 c8 c9 c10 c w hl hc hn ka kb
  by_cases c1 : 0 ≤ m.f1
  case neg =>
    have e : mayMsg r m = false := by simp [mayMsg, mayM, c1]
    rw [e]
    exact msg_c1 r m A5 A7 A8 A9 A10 A c5 c7 c8 c9 c10 c w hl hc hn ka kb c1
  by_cases c2 : m.f1 < r.f1
  case neg =>
    have e : mayMsg r m = false := by simp [mayMsg, mayM, c2]
    rw [e]
    exact msg_c2 r m A5 A7 A8 A9 A10 A c5 c7 c8 c9 c10 c w hl hc hn ka kb c1 c2
  by_cases c3 : ¬ m.f1 = r.f0
  case neg =>
    have e : mayMsg r m = false := by simp [mayMsg, mayM, c3]
    rw [e]
    exact msg_c3 r m A5 A7 A8 A9 A10 A c5 c7 c8 c9 c10 c w hl hc hn ka kb c1 c2 c3
  by_cases c4 : m.f2 = r.f0
  case neg =>
    have e : mayMsg r m = false := by simp [mayMsg, mayM, c4]
    rw [e]
    exact msg_c4 r m A5 A7 A8 A9 A10 A c5 c7 c8 c9 c10 c w hl hc hn ka kb c1 c2 c3 c4
  by_cases b3 : below m.f3 = true
  case neg =>
    have e : mayMsg r m = false := by simp [mayMsg, mayM, b3]
    rw [e]
    exact msg_b3 r m A5 A7 A8 A9 A10 A c5 c7 c8 c9 c10 c w hl hc hn ka kb c1 c2 c3 c4 b3
  by_cases b4 : below m.f4 = true
  case neg =>
    have e : mayMsg r m = false := by simp [mayMsg, mayM, b4]
    rw [e]
    exact msg_b4 r m A5 A7 A8 A9 A10 A c5 c7 c8 c9 c10 c w hl hc hn ka kb c1 c2 c3 c4 b3 b4
  by_cases b5 : below m.f5 = true
  case neg =>
    have e : mayMsg r m = false := by simp [mayMsg, mayM, b5]
    rw [e]
    exact msg_b5 r m A5 A7 A8 A9 A10 A c5 c7 c8 c9 c10 c w hl hc hn ka kb c1 c2 c3 c4 b3 b4 b5
  by_cases b6 : below m.f6 = true
  case neg =>
    have e : mayMsg r m = false := by simp [mayMsg, mayM, b6]
    rw [e]
    exact msg_b6 r m A5 A7 A8 A9 A10 A c5 c7 c8 c9 c10 c w hl hc hn ka kb c1 c2 c3 c4 b3 b4 b5 b6
  by_cases lg : log m.f7 = true
  case neg =>
    have e : mayMsg r m = false := by simp [mayMsg, mayM, lg]
    rw [e]
    exact msg_lg r m A5 A7 A8 A9 A10 A c5 c7 c8 c9 c10 c w hl hc hn ka kb c1 c2 c3 c4 b3 b4 b5 b6 lg
  by_cases k1 : ¬ m.f0 = 1
  · have e : mayMsg r m = true := by simp [mayMsg, mayM, ka, kb, c1, c2, c3, c4, b3, b4, b5, b6, lg, k1]
    rw [e]
    exact msg_k r m A5 A7 A8 A9 A10 A c5 c7 c8 c9 c10 c w hl hc hn ka kb c1 c2 c3 c4 b3 b4 b5 b6 lg k1
  have k2 : m.f0 = 1 := Classical.not_not.1 k1
  by_cases n1 : (m.f7.length : Int) = 1
  case neg =>
    have e : mayMsg r m = false := by simp [mayMsg, mayM, c1, c2, c3, c4, b3, b4, b5, b6, lg, k2, n1]
    rw [e]
    exact msg_n1 r m A5 A7 A8 A9 A10 A c5 c7 c8 c9 c10 c w hl hc hn ka kb c1 c2 c3 c4 b3 b4 b5 b6 lg k1 n1
  have e : mayMsg r m = true := by simp [mayMsg, mayM, c1, c2, c3, c4, b3, b4, b5, b6, lg, k2, n1]
  rw [e]
  exact msg_all r m A5 A7 A8 A9 A10 A c5 c7 c8 c9 c10 c w hl hc hn ka kb c1 c2 c3 c4 b3 b4 b5 b6 lg k1 n1
end Go.Proofs.YtggbjokhniigkaaGreat.Tn
namespace Go.Proofs.YtggbjokhniigkaaGreat.To
open Ty Go.RowKit YtggbjokhniigkaaGreatW.PrintWords YtggbjokhniigkaaGreatW.PrintLast YtggbjokhniigkaaGreatW.PrintMore Mx Kx Wa
/-- A block just laid out is a row of one element, whose own rows are told as a resource. -/
theorem lit1 {w0 w : World} {rs : List Res} {α : Type} (h : Mem w0 w rs) (i j : Nat) (hij : i ≠ j) (d : Kd α) {e : TypeId} {g : Nat} {cs : List Value} (p : α) (hi : rs[i]? = some (blk g e cs.toArray)) (hj : rs[j]? = some (el d p cs)) (hs : cs.length = d.sz) :
    Mem w0 w ((rs.set i (Mx.row d e (.slice (some ⟨g, 0, none⟩) 1 1) [p])).set j emp) := by
  obtain ⟨f, q, h1, h2, hf, hq, hd, h3⟩ := h.take2 hi hj hij
  refine h3 w _ rfl rfl rfl (Nat.le_refl _) (fun _ _ _ _ => rfl) ?_
  refine ⟨fun k hk => ?_, cs, ⟨by simpa using hs, .inr ⟨g, 1, cs.toArray, rfl, Nat.zero_le _, h1.1, Nat.le_refl _, by unfold maxLen; omega, by simpa using hs, ?_⟩⟩, ⟨by simpa using hs, fun j p' hj' => ?_⟩⟩
  · have : g = k := by simpa [Value.ownBlock] using hk
    subst this
    exact .inl h1.2
  · rw [List.take_of_length_le]
    simpa using Nat.le_of_eq hs
  · cases j with
    | zero =>
      obtain rfl : p = p' := by simpa using hj'
      have : (cs.drop (0 * d.sz)).take d.sz = cs := by
        rw [Nat.zero_mul, List.drop_zero, List.take_of_length_le (by omega)]
      rw [this]
      refine d.M_mono (fun k hk => ⟨.inr (.inl hk), fun he => ?_⟩) h2
      have : k = g := by simpa [Value.ownBlock] using he
      subst this
      exact hd k h1.2 hk
    | succ j => simp at hj'
theorem one11_calls (w0 w : World) (Rm : Res) (F : List Res) (g : Nat) (i n vw nr hw : Int) (vl : Value) (cm : Int) (va vv vo vb : Value) (bv bd : Int) (to_ m0 m1 m2 m3 m4 m5 m6 : Int) (A : Option Addr) (c : Nat) (l : List Entry)
    (hM : Mem w0 w (Rm :: blk g 25 #[.int .i64 i, .int .i64 n, .int .i64 vw, .int .i64 nr, .int .i64 hw, vl, .int .i64 cm, va, vv, vo, vb, .int .i64 bv, .int .i64 bd] :: F)) (hl : Rd w0 Rm kE A l) (hn : l.length ≤ 1000000000) (hc : l.length ≤ c) :
    Calls Tryz.prog 72 #[.pointer (some ⟨g, 0, none⟩), .int .i64 to_, .agg #[.int .i64 m0, .int .i64 m1, .int .i64 m2, .int .i64 m3, .int .i64 m4, .int .i64 m5, .int .i64 m6, .slice A l.length c]] w fun e w' =>
      ∃ vout : Value, e = .returned vout ∧ Mem w0 w' (row kM 27 vout [⟨m0, i, to_, vw, m4, m5, m6, l⟩] :: Rm :: blk g 25 #[.int .i64 i, .int .i64 n, .int .i64 vw, .int .i64 nr, .int .i64 hw, vl, .int .i64 cm, va, vv, vo, vb, .int .i64 bv, .int .i64 bd] :: F) := by
  have HN := Aside0.mk hn
  have hg : g < w.heap.size := blk_lt (hM.blk_at 1 rfl)
  have M3 := Aside0.mk (hM.allocAt #[.int .i64 m0, .int .i64 i, .int .i64 to_, .int .i64 vw, .int .i64 m4, .int .i64 m5, .int .i64 m6, .slice A l.length c] 27 _ rfl)
  have HCC := Aside0.mk (hl _ _ 1 M3.out rfl)
  have cG := blk_cell (hM.blk_at 1 rfl)
  have ngb : ¬ g = w.heap.size := by omega
  have nbg : ¬ w.heap.size = g := by omega
  clear hM hl hn hc
  go_enter Tryz.func72, Tryz.ntmps72
  go_wp2_with (((with_reducible refine gate_builtin (b := .append) (xs := #[.tmp 19, .tmp 21]) rfl ?_); at_builtin; refine Mem.app kE ((M3.out.allocAt #[] 68 (w.heap.size + 1) (by simp)).lit 0 kE [] rfl (Reps.none _ _) (by decide)) 0 _ [] l rfl (.tmp 19) (.tmp 21) 22 68 _ _ rfl Tryz.underlying22 infoEntry rfl (by decide) (by omega) A _ c rfl rfl rfl (Kd.C_alloc HCC.out _) (fun x cs h => h) (by have := HN.out; simp; omega) ?_; intro v1 w1 hM1; have M4 := Aside0.mk (show Mem _ _ (row kE _ v1 l :: _) from hM1); clear hM1; obtain ⟨A2, c2, he, hc2, _⟩ := M4.out.row_at 0 rfl; subst he; have cB4 := blk_cell (M4.out.blk_at 1 rfl); have fB4 := blk_frozen (M4.out.blk_at 1 rfl)))
  go_ret
  have M5 := M4.out.set 1 rfl 7 (.slice A2 l.length c2)
  have M6 := (M5.imp (i := 0) rfl (el kM ⟨m0, i, to_, vw, m4, m5, m6, l⟩ [.int .i64 m0, .int .i64 i, .int .i64 to_, .int .i64 vw, .int .i64 m4, .int .i64 m5, .int .i64 m6, .slice A2 l.length c2]) (fun f hf => kM_mkM _ _ _ ⟨m0, i, to_, vw, m4, m5, m6, l⟩ hf)).allocAt #[.int .i64 m0, .int .i64 i, .int .i64 to_, .int .i64 vw, .int .i64 m4, .int .i64 m5, .int .i64 m6, .slice A2 l.length c2] 27 w1.heap.size (by simp)
  exact ⟨_, rfl, Mem.sel (ps := [_, _, _, _, _]) (F := F) [0, 3, 4] 5 (lit1 M6 0 1 (by decide) kM (cs := [.int .i64 m0, .int .i64 i, .int .i64 to_, .int .i64 vw, .int .i64 m4, .int .i64 m5, .int .i64 m6, .slice A2 l.length c2]) ⟨m0, i, to_, vw, m4, m5, m6, l⟩ rfl rfl rfl) rfl rfl⟩
end Go.Proofs.YtggbjokhniigkaaGreat.To
