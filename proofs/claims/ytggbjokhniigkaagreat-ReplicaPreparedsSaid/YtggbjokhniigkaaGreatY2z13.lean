/- Texts laid together: Tn. No condition. -/
import Derived.Test.YtggbjokhniigkaaGreatY2z10
import Derived.Test.YtggbjokhniigkaaGreatY2z12
namespace Go.Proofs.YtggbjokhniigkaaGreat.Tn
open Go.Proofs.YtggbjokhniigkaaGreat.Ty Go.RowKit Go.Proofs.YtggbjokhniigkaaGreatW.PrintWords Go.Proofs.YtggbjokhniigkaaGreatW.PrintLast Go.Proofs.YtggbjokhniigkaaGreatW.PrintMore Go.Proofs.YtggbjokhniigkaaGreat.Mx Go.Proofs.YtggbjokhniigkaaGreat.Kx Go.Proofs.YtggbjokhniigkaaGreat.Wa Go.Proofs.YtggbjokhniigkaaGreat.Wb Go.Proofs.YtggbjokhniigkaaGreat.Tb Go.Proofs.YtggbjokhniigkaaGreat.Wj Go.Proofs.YtggbjokhniigkaaGreat.PReplicaTakes
set_option linter.unusedVariables false
set_option linter.unusedSimpArgs false
/-- May a replica take a message? -/
def mayMsg (r : Rep) (m : Msg) : Bool := decide (1 ≤ m.f0) && (decide (m.f0 ≤ 8) && mayM r m)
theorem Drawn0.below_ {w w' : World} (h : Drawn0 w w') : Below w.heap.size w w' := ((Mem.nil w).drawn h).below
theorem time11_calls (n : Int) (w : World) : Calls Tryz.prog 75 #[.int .i64 n] w fun e w' => e = .returned (.bool (below n)) ∧ Below w.heap.size w w' :=
  (falseworkref11_time.calls n _ w (Go.Proofs.YtggbjokhniigkaaGreat.Vb.time_f n)).mono fun _ _ h => ⟨h.1, Drawn0.below_ h.2⟩
theorem Entries11_calls (A : Option Addr) (c : Nat) (l : List Entry) (w : World) (hl : Kd.C kE w A l.length l) (hc : l.length ≤ c) (hn : l.length ≤ 1000000) :
    Calls Tryz.prog 76 #[.slice A l.length c] w fun e w' => e = .returned (.bool (log l)) ∧ Below w.heap.size w w' := by
  have m5 : (l.map toS).length = l.length := List.length_map ..
  have q := falseworkref11_Entries.calls (k := l.length + 1) (A0 := A) (c0 := c) (l0 := l.map toS) (r := log l) (w := w) (hr0 := m5.symm ▸ C_toS hl) (hc0 := m5.symm ▸ hc) (h := Go.Proofs.YtggbjokhniigkaaGreat.Ve.Entries_fG l (l.length + 1) (by omega) (Nat.le_trans hn (by decide)))
  rw [m5] at q
  exact q.mono fun _ _ h => ⟨h.1, Drawn0.below_ h.2⟩
set_option maxRecDepth 100000 in
set_option maxHeartbeats 4000000 in
theorem msg_ka (r : Rep) (m : Msg) (A5 A7 A8 A9 A10 A : Option Addr) (c5 c7 c8 c9 c10 c : Nat) (w : World) (hl : Kd.C kE w A m.f7.length m.f7) (hc : m.f7.length ≤ c) (hn : m.f7.length ≤ 1000000) (ka : ¬ (1 ≤ m.f0)) :
    Calls Tryz.prog 66 #[.agg #[.int .i64 r.f0, .int .i64 r.f1, .int .i64 r.f2, .int .i64 r.f3, .int .i64 r.f4, .slice A5 r.f5.length c5, .int .i64 r.f6, .slice A7 r.f7.length c7, .slice A8 r.f8.length c8, .slice A9 r.f9.length c9, .slice A10 r.f10.length c10, .int .i64 r.f11, .int .i64 r.f12], .agg #[.int .i64 m.f0, .int .i64 m.f1, .int .i64 m.f2, .int .i64 m.f3, .int .i64 m.f4, .int .i64 m.f5, .int .i64 m.f6, .slice A m.f7.length c]] w fun e w' => e = .returned (.bool false) ∧ Mem w w' [] := by
  have HL := Aside0.mk hl
  have HC := Aside0.mk hc
  have HN := Aside0.mk hn
  have M1 := Aside0.mk (((Mem.nil w).alloc #[.int .i64 r.f0, .int .i64 r.f1, .int .i64 r.f2, .int .i64 r.f3, .int .i64 r.f4, .slice A5 r.f5.length c5, .int .i64 r.f6, .slice A7 r.f7.length c7, .slice A8 r.f8.length c8, .slice A9 r.f9.length c9, .slice A10 r.f10.length c10, .int .i64 r.f11, .int .i64 r.f12] 25).allocAt #[.int .i64 m.f0, .int .i64 m.f1, .int .i64 m.f2, .int .i64 m.f3, .int .i64 m.f4, .int .i64 m.f5, .int .i64 m.f6, .slice A m.f7.length c] 27 (w.heap.size + 1) (by simp))
  clear hl hc hn
  have cM := blk_cell (M1.out.blk_at 0 rfl)
  have cR := blk_cell (M1.out.blk_at 1 rfl)
  have e0 : decide (m.f0 < 1) = true := by simpa using ka
  clear ka
  go_enter Tryz.func66, Tryz.ntmps66
  go_wp2_with fail
  go_ret
  exact ⟨rfl, Mem.sel (ps := [_, _]) (F := []) [] 2 M1.out rfl rfl⟩
set_option maxRecDepth 100000 in
set_option maxHeartbeats 4000000 in
theorem msg_kb (r : Rep) (m : Msg) (A5 A7 A8 A9 A10 A : Option Addr) (c5 c7 c8 c9 c10 c : Nat) (w : World) (hl : Kd.C kE w A m.f7.length m.f7) (hc : m.f7.length ≤ c) (hn : m.f7.length ≤ 1000000) (ka : 1 ≤ m.f0) (kb : ¬ (m.f0 ≤ 8)) :
    Calls Tryz.prog 66 #[.agg #[.int .i64 r.f0, .int .i64 r.f1, .int .i64 r.f2, .int .i64 r.f3, .int .i64 r.f4, .slice A5 r.f5.length c5, .int .i64 r.f6, .slice A7 r.f7.length c7, .slice A8 r.f8.length c8, .slice A9 r.f9.length c9, .slice A10 r.f10.length c10, .int .i64 r.f11, .int .i64 r.f12], .agg #[.int .i64 m.f0, .int .i64 m.f1, .int .i64 m.f2, .int .i64 m.f3, .int .i64 m.f4, .int .i64 m.f5, .int .i64 m.f6, .slice A m.f7.length c]] w fun e w' => e = .returned (.bool false) ∧ Mem w w' [] := by
  have HL := Aside0.mk hl
  have HC := Aside0.mk hc
  have HN := Aside0.mk hn
  have M1 := Aside0.mk (((Mem.nil w).alloc #[.int .i64 r.f0, .int .i64 r.f1, .int .i64 r.f2, .int .i64 r.f3, .int .i64 r.f4, .slice A5 r.f5.length c5, .int .i64 r.f6, .slice A7 r.f7.length c7, .slice A8 r.f8.length c8, .slice A9 r.f9.length c9, .slice A10 r.f10.length c10, .int .i64 r.f11, .int .i64 r.f12] 25).allocAt #[.int .i64 m.f0, .int .i64 m.f1, .int .i64 m.f2, .int .i64 m.f3, .int .i64 m.f4, .int .i64 m.f5, .int .i64 m.f6, .slice A m.f7.length c] 27 (w.heap.size + 1) (by simp))
  clear hl hc hn
  have cM := blk_cell (M1.out.blk_at 0 rfl)
  have cR := blk_cell (M1.out.blk_at 1 rfl)
  have e0 : decide (m.f0 < 1) = false := by simp; omega
  clear ka
  have e8 : decide (8 < m.f0) = true := by simpa using kb
  clear kb
  go_enter Tryz.func66, Tryz.ntmps66
  go_wp2_with fail
  go_ret
  exact ⟨rfl, Mem.sel (ps := [_, _]) (F := []) [] 2 M1.out rfl rfl⟩
set_option maxRecDepth 100000 in
set_option maxHeartbeats 4000000 in
theorem msg_c1 (r : Rep) (m : Msg) (A5 A7 A8 A9 A10 A : Option Addr) (c5 c7 c8 c9 c10 c : Nat) (w : World) (hl : Kd.C kE w A m.f7.length m.f7) (hc : m.f7.length ≤ c) (hn : m.f7.length ≤ 1000000) (ka : 1 ≤ m.f0) (kb : m.f0 ≤ 8) (c1 : ¬ (0 ≤ m.f1)) :
    Calls Tryz.prog 66 #[.agg #[.int .i64 r.f0, .int .i64 r.f1, .int .i64 r.f2, .int .i64 r.f3, .int .i64 r.f4, .slice A5 r.f5.length c5, .int .i64 r.f6, .slice A7 r.f7.length c7, .slice A8 r.f8.length c8, .slice A9 r.f9.length c9, .slice A10 r.f10.length c10, .int .i64 r.f11, .int .i64 r.f12], .agg #[.int .i64 m.f0, .int .i64 m.f1, .int .i64 m.f2, .int .i64 m.f3, .int .i64 m.f4, .int .i64 m.f5, .int .i64 m.f6, .slice A m.f7.length c]] w fun e w' => e = .returned (.bool false) ∧ Mem w w' [] := by
  have HL := Aside0.mk hl
  have HC := Aside0.mk hc
  have HN := Aside0.mk hn
  have M1 := Aside0.mk (((Mem.nil w).alloc #[.int .i64 r.f0, .int .i64 r.f1, .int .i64 r.f2, .int .i64 r.f3, .int .i64 r.f4, .slice A5 r.f5.length c5, .int .i64 r.f6, .slice A7 r.f7.length c7, .slice A8 r.f8.length c8, .slice A9 r.f9.length c9, .slice A10 r.f10.length c10, .int .i64 r.f11, .int .i64 r.f12] 25).allocAt #[.int .i64 m.f0, .int .i64 m.f1, .int .i64 m.f2, .int .i64 m.f3, .int .i64 m.f4, .int .i64 m.f5, .int .i64 m.f6, .slice A m.f7.length c] 27 (w.heap.size + 1) (by simp))
  clear hl hc hn
  have cM := blk_cell (M1.out.blk_at 0 rfl)
  have cR := blk_cell (M1.out.blk_at 1 rfl)
  have e0 : decide (m.f0 < 1) = false := by simp; omega
  clear ka
  have e8 : decide (8 < m.f0) = false := by simp; omega
  clear kb
  have e1 : decide (m.f1 < 0) = true := by simpa using c1
  clear c1
  go_enter Tryz.func66, Tryz.ntmps66
  go_wp2_with fail
  go_ret
  exact ⟨rfl, Mem.sel (ps := [_, _]) (F := []) [] 2 M1.out rfl rfl⟩
set_option maxRecDepth 100000 in
set_option maxHeartbeats 4000000 in
theorem msg_c2 (r : Rep) (m : Msg) (A5 A7 A8 A9 A10 A : Option Addr) (c5 c7 c8 c9 c10 c : Nat) (w : World) (hl : Kd.C kE w A m.f7.length m.f7) (hc : m.f7.length ≤ c) (hn : m.f7.length ≤ 1000000) (ka : 1 ≤ m.f0) (kb : m.f0 ≤ 8) (c1 : 0 ≤ m.f1) (c2 : ¬ (m.f1 < r.f1)) :
    Calls Tryz.prog 66 #[.agg #[.int .i64 r.f0, .int .i64 r.f1, .int .i64 r.f2, .int .i64 r.f3, .int .i64 r.f4, .slice A5 r.f5.length c5, .int .i64 r.f6, .slice A7 r.f7.length c7, .slice A8 r.f8.length c8, .slice A9 r.f9.length c9, .slice A10 r.f10.length c10, .int .i64 r.f11, .int .i64 r.f12], .agg #[.int .i64 m.f0, .int .i64 m.f1, .int .i64 m.f2, .int .i64 m.f3, .int .i64 m.f4, .int .i64 m.f5, .int .i64 m.f6, .slice A m.f7.length c]] w fun e w' => e = .returned (.bool false) ∧ Mem w w' [] := by
  have HL := Aside0.mk hl
  have HC := Aside0.mk hc
  have HN := Aside0.mk hn
  have M1 := Aside0.mk (((Mem.nil w).alloc #[.int .i64 r.f0, .int .i64 r.f1, .int .i64 r.f2, .int .i64 r.f3, .int .i64 r.f4, .slice A5 r.f5.length c5, .int .i64 r.f6, .slice A7 r.f7.length c7, .slice A8 r.f8.length c8, .slice A9 r.f9.length c9, .slice A10 r.f10.length c10, .int .i64 r.f11, .int .i64 r.f12] 25).allocAt #[.int .i64 m.f0, .int .i64 m.f1, .int .i64 m.f2, .int .i64 m.f3, .int .i64 m.f4, .int .i64 m.f5, .int .i64 m.f6, .slice A m.f7.length c] 27 (w.heap.size + 1) (by simp))
  clear hl hc hn
  have cM := blk_cell (M1.out.blk_at 0 rfl)
  have cR := blk_cell (M1.out.blk_at 1 rfl)
  have e0 : decide (m.f0 < 1) = false := by simp; omega
  clear ka
  have e8 : decide (8 < m.f0) = false := by simp; omega
  clear kb
  have e1 : decide (m.f1 < 0) = false := by simp; omega
  clear c1
  have e2 : decide (r.f1 ≤ m.f1) = true := by simp; omega
  clear c2
  go_enter Tryz.func66, Tryz.ntmps66
  go_wp2_with fail
  go_ret
  exact ⟨rfl, Mem.sel (ps := [_, _]) (F := []) [] 2 M1.out rfl rfl⟩
set_option maxRecDepth 100000 in
set_option maxHeartbeats 4000000 in
theorem msg_c3 (r : Rep) (m : Msg) (A5 A7 A8 A9 A10 A : Option Addr) (c5 c7 c8 c9 c10 c : Nat) (w : World) (hl : Kd.C kE w A m.f7.length m.f7) (hc : m.f7.length ≤ c) (hn : m.f7.length ≤ 1000000) (ka : 1 ≤ m.f0) (kb : m.f0 ≤ 8) (c1 : 0 ≤ m.f1) (c2 : m.f1 < r.f1) (c3 : ¬ (¬ m.f1 = r.f0)) :
    Calls Tryz.prog 66 #[.agg #[.int .i64 r.f0, .int .i64 r.f1, .int .i64 r.f2, .int .i64 r.f3, .int .i64 r.f4, .slice A5 r.f5.length c5, .int .i64 r.f6, .slice A7 r.f7.length c7, .slice A8 r.f8.length c8, .slice A9 r.f9.length c9, .slice A10 r.f10.length c10, .int .i64 r.f11, .int .i64 r.f12], .agg #[.int .i64 m.f0, .int .i64 m.f1, .int .i64 m.f2, .int .i64 m.f3, .int .i64 m.f4, .int .i64 m.f5, .int .i64 m.f6, .slice A m.f7.length c]] w fun e w' => e = .returned (.bool false) ∧ Mem w w' [] := by
  have HL := Aside0.mk hl
  have HC := Aside0.mk hc
  have HN := Aside0.mk hn
  have M1 := Aside0.mk (((Mem.nil w).alloc #[.int .i64 r.f0, .int .i64 r.f1, .int .i64 r.f2, .int .i64 r.f3, .int .i64 r.f4, .slice A5 r.f5.length c5, .int .i64 r.f6, .slice A7 r.f7.length c7, .slice A8 r.f8.length c8, .slice A9 r.f9.length c9, .slice A10 r.f10.length c10, .int .i64 r.f11, .int .i64 r.f12] 25).allocAt #[.int .i64 m.f0, .int .i64 m.f1, .int .i64 m.f2, .int .i64 m.f3, .int .i64 m.f4, .int .i64 m.f5, .int .i64 m.f6, .slice A m.f7.length c] 27 (w.heap.size + 1) (by simp))
  clear hl hc hn
  have cM := blk_cell (M1.out.blk_at 0 rfl)
  have cR := blk_cell (M1.out.blk_at 1 rfl)
  have e0 : decide (m.f0 < 1) = false := by simp; omega
  clear ka
  have e8 : decide (8 < m.f0) = false := by simp; omega
  clear kb
  have e1 : decide (m.f1 < 0) = false := by simp; omega
  clear c1
  have e2 : decide (r.f1 ≤ m.f1) = false := by simp; omega
  clear c2
  have e3 : (m.f1 == r.f0) = true := by simpa using c3
  clear c3
  go_enter Tryz.func66, Tryz.ntmps66
  go_wp2_with fail
  go_ret
  exact ⟨rfl, Mem.sel (ps := [_, _]) (F := []) [] 2 M1.out rfl rfl⟩
set_option maxRecDepth 100000 in
set_option maxHeartbeats 4000000 in
theorem msg_c4 (r : Rep) (m : Msg) (A5 A7 A8 A9 A10 A : Option Addr) (c5 c7 c8 c9 c10 c : Nat) (w : World) (hl : Kd.C kE w A m.f7.length m.f7) (hc : m.f7.length ≤ c) (hn : m.f7.length ≤ 1000000) (ka : 1 ≤ m.f0) (kb : m.f0 ≤ 8) (c1 : 0 ≤ m.f1) (c2 : m.f1 < r.f1) (c3 : ¬ m.f1 = r.f0) (c4 : ¬ (m.f2 = r.f0)) :
    Calls Tryz.prog 66 #[.agg #[.int .i64 r.f0, .int .i64 r.f1, .int .i64 r.f2, .int .i64 r.f3, .int .i64 r.f4, .slice A5 r.f5.length c5, .int .i64 r.f6, .slice A7 r.f7.length c7, .slice A8 r.f8.length c8, .slice A9 r.f9.length c9, .slice A10 r.f10.length c10, .int .i64 r.f11, .int .i64 r.f12], .agg #[.int .i64 m.f0, .int .i64 m.f1, .int .i64 m.f2, .int .i64 m.f3, .int .i64 m.f4, .int .i64 m.f5, .int .i64 m.f6, .slice A m.f7.length c]] w fun e w' => e = .returned (.bool false) ∧ Mem w w' [] := by
  have HL := Aside0.mk hl
  have HC := Aside0.mk hc
  have HN := Aside0.mk hn
  have M1 := Aside0.mk (((Mem.nil w).alloc #[.int .i64 r.f0, .int .i64 r.f1, .int .i64 r.f2, .int .i64 r.f3, .int .i64 r.f4, .slice A5 r.f5.length c5, .int .i64 r.f6, .slice A7 r.f7.length c7, .slice A8 r.f8.length c8, .slice A9 r.f9.length c9, .slice A10 r.f10.length c10, .int .i64 r.f11, .int .i64 r.f12] 25).allocAt #[.int .i64 m.f0, .int .i64 m.f1, .int .i64 m.f2, .int .i64 m.f3, .int .i64 m.f4, .int .i64 m.f5, .int .i64 m.f6, .slice A m.f7.length c] 27 (w.heap.size + 1) (by simp))
  clear hl hc hn
  have cM := blk_cell (M1.out.blk_at 0 rfl)
  have cR := blk_cell (M1.out.blk_at 1 rfl)
  have e0 : decide (m.f0 < 1) = false := by simp; omega
  clear ka
  have e8 : decide (8 < m.f0) = false := by simp; omega
  clear kb
  have e1 : decide (m.f1 < 0) = false := by simp; omega
  clear c1
  have e2 : decide (r.f1 ≤ m.f1) = false := by simp; omega
  clear c2
  have e3 : (m.f1 == r.f0) = false := by simpa using c3
  clear c3
  have e4 : (m.f2 == r.f0) = false := by simpa using c4
  have e4' : (m.f2 != r.f0) = true := by simpa using c4
  clear c4
  go_enter Tryz.func66, Tryz.ntmps66
  go_wp2_with fail
  go_ret
  exact ⟨rfl, Mem.sel (ps := [_, _]) (F := []) [] 2 M1.out rfl rfl⟩
set_option maxRecDepth 100000 in
set_option maxHeartbeats 4000000 in
theorem msg_b3 (r : Rep) (m : Msg) (A5 A7 A8 A9 A10 A : Option Addr) (c5 c7 c8 c9 c10 c : Nat) (w : World) (hl : Kd.C kE w A m.f7.length m.f7) (hc : m.f7.length ≤ c) (hn : m.f7.length ≤ 1000000) (ka : 1 ≤ m.f0) (kb : m.f0 ≤ 8) (c1 : 0 ≤ m.f1) (c2 : m.f1 < r.f1) (c3 : ¬ m.f1 = r.f0) (c4 : m.f2 = r.f0) (b3 : ¬ (below m.f3 = true)) :
    Calls Tryz.prog 66 #[.agg #[.int .i64 r.f0, .int .i64 r.f1, .int .i64 r.f2, .int .i64 r.f3, .int .i64 r.f4, .slice A5 r.f5.length c5, .int .i64 r.f6, .slice A7 r.f7.length c7, .slice A8 r.f8.length c8, .slice A9 r.f9.length c9, .slice A10 r.f10.length c10, .int .i64 r.f11, .int .i64 r.f12], .agg #[.int .i64 m.f0, .int .i64 m.f1, .int .i64 m.f2, .int .i64 m.f3, .int .i64 m.f4, .int .i64 m.f5, .int .i64 m.f6, .slice A m.f7.length c]] w fun e w' => e = .returned (.bool false) ∧ Mem w w' [] := by
  have HL := Aside0.mk hl
  have HC := Aside0.mk hc
  have HN := Aside0.mk hn
  have M1 := Aside0.mk (((Mem.nil w).alloc #[.int .i64 r.f0, .int .i64 r.f1, .int .i64 r.f2, .int .i64 r.f3, .int .i64 r.f4, .slice A5 r.f5.length c5, .int .i64 r.f6, .slice A7 r.f7.length c7, .slice A8 r.f8.length c8, .slice A9 r.f9.length c9, .slice A10 r.f10.length c10, .int .i64 r.f11, .int .i64 r.f12] 25).allocAt #[.int .i64 m.f0, .int .i64 m.f1, .int .i64 m.f2, .int .i64 m.f3, .int .i64 m.f4, .int .i64 m.f5, .int .i64 m.f6, .slice A m.f7.length c] 27 (w.heap.size + 1) (by simp))
  clear hl hc hn
  have cM := blk_cell (M1.out.blk_at 0 rfl)
  have cR := blk_cell (M1.out.blk_at 1 rfl)
  have e0 : decide (m.f0 < 1) = false := by simp; omega
  clear ka
  have e8 : decide (8 < m.f0) = false := by simp; omega
  clear kb
  have e1 : decide (m.f1 < 0) = false := by simp; omega
  clear c1
  have e2 : decide (r.f1 ≤ m.f1) = false := by simp; omega
  clear c2
  have e3 : (m.f1 == r.f0) = false := by simpa using c3
  clear c3
  have e4 : (m.f2 == r.f0) = true := by simpa using c4
  have e4' : (m.f2 != r.f0) = false := by simpa using c4
  clear c4
  have B3 := Aside0.mk (show below m.f3 = false by simpa using b3)
  clear b3
  go_enter Tryz.func66, Tryz.ntmps66
  go_wp2_with fail
  refine (time11_calls _ _).mono ?_
  rintro e w1 ⟨he, hb⟩
  rw [B3.out] at he
  subst he
  have M2 := Aside0.mk (M1.out.grow hb)
  clear hb M1 cM cR
  have M1 := M2
  clear M2
  have cM := blk_cell (M1.out.blk_at 0 rfl)
  have cR := blk_cell (M1.out.blk_at 1 rfl)
  go_wp2_with fail
  go_ret
  exact ⟨rfl, Mem.sel (ps := [_, _]) (F := []) [] 2 M1.out rfl rfl⟩
set_option maxRecDepth 100000 in
set_option maxHeartbeats 4000000 in
theorem msg_b4 (r : Rep) (m : Msg) (A5 A7 A8 A9 A10 A : Option Addr) (c5 c7 c8 c9 c10 c : Nat) (w : World) (hl : Kd.C kE w A m.f7.length m.f7) (hc : m.f7.length ≤ c) (hn : m.f7.length ≤ 1000000) (ka : 1 ≤ m.f0) (kb : m.f0 ≤ 8) (c1 : 0 ≤ m.f1) (c2 : m.f1 < r.f1) (c3 : ¬ m.f1 = r.f0) (c4 : m.f2 = r.f0) (b3 : below m.f3 = true) (b4 : ¬ (below m.f4 = true)) :
    Calls Tryz.prog 66 #[.agg #[.int .i64 r.f0, .int .i64 r.f1, .int .i64 r.f2, .int .i64 r.f3, .int .i64 r.f4, .slice A5 r.f5.length c5, .int .i64 r.f6, .slice A7 r.f7.length c7, .slice A8 r.f8.length c8, .slice A9 r.f9.length c9, .slice A10 r.f10.length c10, .int .i64 r.f11, .int .i64 r.f12], .agg #[.int .i64 m.f0, .int .i64 m.f1, .int .i64 m.f2, .int .i64 m.f3, .int .i64 m.f4, .int .i64 m.f5, .int .i64 m.f6, .slice A m.f7.length c]] w fun e w' => e = .returned (.bool false) ∧ Mem w w' [] := by
  have HL := Aside0.mk hl
  have HC := Aside0.mk hc
  have HN := Aside0.mk hn
  have M1 := Aside0.mk (((Mem.nil w).alloc #[.int .i64 r.f0, .int .i64 r.f1, .int .i64 r.f2, .int .i64 r.f3, .int .i64 r.f4, .slice A5 r.f5.length c5, .int .i64 r.f6, .slice A7 r.f7.length c7, .slice A8 r.f8.length c8, .slice A9 r.f9.length c9, .slice A10 r.f10.length c10, .int .i64 r.f11, .int .i64 r.f12] 25).allocAt #[.int .i64 m.f0, .int .i64 m.f1, .int .i64 m.f2, .int .i64 m.f3, .int .i64 m.f4, .int .i64 m.f5, .int .i64 m.f6, .slice A m.f7.length c] 27 (w.heap.size + 1) (by simp))
  clear hl hc hn
  have cM := blk_cell (M1.out.blk_at 0 rfl)
  have cR := blk_cell (M1.out.blk_at 1 rfl)
  have e0 : decide (m.f0 < 1) = false := by simp; omega
  clear ka
  have e8 : decide (8 < m.f0) = false := by simp; omega
  clear kb
  have e1 : decide (m.f1 < 0) = false := by simp; omega
  clear c1
  have e2 : decide (r.f1 ≤ m.f1) = false := by simp; omega
  clear c2
  have e3 : (m.f1 == r.f0) = false := by simpa using c3
  clear c3
  have e4 : (m.f2 == r.f0) = true := by simpa using c4
  have e4' : (m.f2 != r.f0) = false := by simpa using c4
  clear c4
  have B3 := Aside0.mk (show below m.f3 = true by simpa using b3)
  clear b3
  have B4 := Aside0.mk (show below m.f4 = false by simpa using b4)
  clear b4
  go_enter Tryz.func66, Tryz.ntmps66
  go_wp2_with fail
  refine (time11_calls _ _).mono ?_
  rintro e w1 ⟨he, hb⟩
  rw [B3.out] at he
  subst he
  have M2 := Aside0.mk (M1.out.grow hb)
  clear hb M1 cM cR
  have M1 := M2
  clear M2
  have cM := blk_cell (M1.out.blk_at 0 rfl)
  have cR := blk_cell (M1.out.blk_at 1 rfl)
  go_wp2_with fail
  refine (time11_calls _ _).mono ?_
  rintro e w1 ⟨he, hb⟩
  rw [B4.out] at he
  subst he
  have M2 := Aside0.mk (M1.out.grow hb)
  clear hb M1 cM cR
  have M1 := M2
  clear M2
  have cM := blk_cell (M1.out.blk_at 0 rfl)
  have cR := blk_cell (M1.out.blk_at 1 rfl)
  go_wp2_with fail
  go_ret
  exact ⟨rfl, Mem.sel (ps := [_, _]) (F := []) [] 2 M1.out rfl rfl⟩
set_option maxRecDepth 100000 in
set_option maxHeartbeats 4000000 in
theorem msg_b5 (r : Rep) (m : Msg) (A5 A7 A8 A9 A10 A : Option Addr) (c5 c7 c8 c9 c10 c : Nat) (w : World) (hl : Kd.C kE w A m.f7.length m.f7) (hc : m.f7.length ≤ c) (hn : m.f7.length ≤ 1000000) (ka : 1 ≤ m.f0) (kb : m.f0 ≤ 8) (c1 : 0 ≤ m.f1) (c2 : m.f1 < r.f1) (c3 : ¬ m.f1 = r.f0) (c4 : m.f2 = r.f0) (b3 : below m.f3 = true) (b4 : below m.f4 = true) (b5 : ¬ (below m.f5 = true)) :
    Calls Tryz.prog 66 #[.agg #[.int .i64 r.f0, .int .i64 r.f1, .int .i64 r.f2, .int .i64 r.f3, .int .i64 r.f4, .slice A5 r.f5.length c5, .int .i64 r.f6, .slice A7 r.f7.length c7, .slice A8 r.f8.length c8, .slice A9 r.f9.length c9, .slice A10 r.f10.length c10, .int .i64 r.f11, .int .i64 r.f12], .agg #[.int .i64 m.f0, .int .i64 m.f1, .int .i64 m.f2, .int .i64 m.f3, .int .i64 m.f4, .int .i64 m.f5, .int .i64 m.f6, .slice A m.f7.length c]] w fun e w' => e = .returned (.bool false) ∧ Mem w w' [] := by
  have HL := Aside0.mk hl
  have HC := Aside0.mk hc
  have HN := Aside0.mk hn
  have M1 := Aside0.mk (((Mem.nil w).alloc #[.int .i64 r.f0, .int .i64 r.f1, .int .i64 r.f2, .int .i64 r.f3, .int .i64 r.f4, .slice A5 r.f5.length c5, .int .i64 r.f6, .slice A7 r.f7.length c7, .slice A8 r.f8.length c8, .slice A9 r.f9.length c9, .slice A10 r.f10.length c10, .int .i64 r.f11, .int .i64 r.f12] 25).allocAt #[.int .i64 m.f0, .int .i64 m.f1, .int .i64 m.f2, .int .i64 m.f3, .int .i64 m.f4, .int .i64 m.f5, .int .i64 m.f6, .slice A m.f7.length c] 27 (w.heap.size + 1) (by simp))
  clear hl hc hn
  have cM := blk_cell (M1.out.blk_at 0 rfl)
  have cR := blk_cell (M1.out.blk_at 1 rfl)
  have e0 : decide (m.f0 < 1) = false := by simp; omega
  clear ka
  have e8 : decide (8 < m.f0) = false := by simp; omega
  clear kb
  have e1 : decide (m.f1 < 0) = false := by simp; omega
  clear c1
  have e2 : decide (r.f1 ≤ m.f1) = false := by simp; omega
  clear c2
  have e3 : (m.f1 == r.f0) = false := by simpa using c3
  clear c3
  have e4 : (m.f2 == r.f0) = true := by simpa using c4
  have e4' : (m.f2 != r.f0) = false := by simpa using c4
  clear c4
  have B3 := Aside0.mk (show below m.f3 = true by simpa using b3)
  clear b3
  have B4 := Aside0.mk (show below m.f4 = true by simpa using b4)
  clear b4
  have B5 := Aside0.mk (show below m.f5 = false by simpa using b5)
  clear b5
  go_enter Tryz.func66, Tryz.ntmps66
  go_wp2_with fail
  refine (time11_calls _ _).mono ?_
  rintro e w1 ⟨he, hb⟩
  rw [B3.out] at he
  subst he
  have M2 := Aside0.mk (M1.out.grow hb)
  clear hb M1 cM cR
  have M1 := M2
  clear M2
  have cM := blk_cell (M1.out.blk_at 0 rfl)
  have cR := blk_cell (M1.out.blk_at 1 rfl)
  go_wp2_with fail
  refine (time11_calls _ _).mono ?_
  rintro e w1 ⟨he, hb⟩
  rw [B4.out] at he
  subst he
  have M2 := Aside0.mk (M1.out.grow hb)
  clear hb M1 cM cR
  have M1 := M2
  clear M2
  have cM := blk_cell (M1.out.blk_at 0 rfl)
  have cR := blk_cell (M1.out.blk_at 1 rfl)
  go_wp2_with fail
  refine (time11_calls _ _).mono ?_
  rintro e w1 ⟨he, hb⟩
  rw [B5.out] at he
  subst he
  have M2 := Aside0.mk (M1.out.grow hb)
  clear hb M1 cM cR
  have M1 := M2
  clear M2
  have cM := blk_cell (M1.out.blk_at 0 rfl)
  have cR := blk_cell (M1.out.blk_at 1 rfl)
  go_wp2_with fail
  go_ret
  exact ⟨rfl, Mem.sel (ps := [_, _]) (F := []) [] 2 M1.out rfl rfl⟩
set_option maxRecDepth 100000 in
set_option maxHeartbeats 4000000 in
theorem msg_b6 (r : Rep) (m : Msg) (A5 A7 A8 A9 A10 A : Option Addr) (c5 c7 c8 c9 c10 c : Nat) (w : World) (hl : Kd.C kE w A m.f7.length m.f7) (hc : m.f7.length ≤ c) (hn : m.f7.length ≤ 1000000) (ka : 1 ≤ m.f0) (kb : m.f0 ≤ 8) (c1 : 0 ≤ m.f1) (c2 : m.f1 < r.f1) (c3 : ¬ m.f1 = r.f0) (c4 : m.f2 = r.f0) (b3 : below m.f3 = true) (b4 : below m.f4 = true) (b5 : below m.f5 = true) (b6 : ¬ (below m.f6 = true)) :
    Calls Tryz.prog 66 #[.agg #[.int .i64 r.f0, .int .i64 r.f1, .int .i64 r.f2, .int .i64 r.f3, .int .i64 r.f4, .slice A5 r.f5.length c5, .int .i64 r.f6, .slice A7 r.f7.length c7, .slice A8 r.f8.length c8, .slice A9 r.f9.length c9, .slice A10 r.f10.length c10, .int .i64 r.f11, .int .i64 r.f12], .agg #[.int .i64 m.f0, .int .i64 m.f1, .int .i64 m.f2, .int .i64 m.f3, .int .i64 m.f4, .int .i64 m.f5, .int .i64 m.f6, .slice A m.f7.length c]] w fun e w' => e = .returned (.bool false) ∧ Mem w w' [] := by
  have HL := Aside0.mk hl
  have HC := Aside0.mk hc
  have HN := Aside0.mk hn
  have M1 := Aside0.mk (((Mem.nil w).alloc #[.int .i64 r.f0, .int .i64 r.f1, .int .i64 r.f2, .int .i64 r.f3, .int .i64 r.f4, .slice A5 r.f5.length c5, .int .i64 r.f6, .slice A7 r.f7.length c7, .slice A8 r.f8.length c8, .slice A9 r.f9.length c9, .slice A10 r.f10.length c10, .int .i64 r.f11, .int .i64 r.f12] 25).allocAt #[.int .i64 m.f0, .int .i64 m.f1, .int .i64 m.f2, .int .i64 m.f3, .int .i64 m.f4, .int .i64 m.f5, .int .i64 m.f6, .slice A m.f7.length c] 27 (w.heap.size + 1) (by simp))
  clear hl hc hn
  have cM := blk_cell (M1.out.blk_at 0 rfl)
  have cR := blk_cell (M1.out.blk_at 1 rfl)
  have e0 : decide (m.f0 < 1) = false := by simp; omega
  clear ka
  have e8 : decide (8 < m.f0) = false := by simp; omega
  clear kb
  have e1 : decide (m.f1 < 0) = false := by simp; omega
  clear c1
  have e2 : decide (r.f1 ≤ m.f1) = false := by simp; omega
  clear c2
  have e3 : (m.f1 == r.f0) = false := by simpa using c3
  clear c3
  have e4 : (m.f2 == r.f0) = true := by simpa using c4
  have e4' : (m.f2 != r.f0) = false := by simpa using c4
  clear c4
  have B3 := Aside0.mk (show below m.f3 = true by simpa using b3)
  clear b3
  have B4 := Aside0.mk (show below m.f4 = true by simpa using b4)
  clear b4
  have B5 := Aside0.mk (show below m.f5 = true by simpa using b5)
  clear b5
  have B6 := Aside0.mk (show below m.f6 = false by simpa using b6)
  clear b6
  go_enter Tryz.func66, Tryz.ntmps66
  go_wp2_with fail
  refine (time11_calls _ _).mono ?_
  rintro e w1 ⟨he, hb⟩
  rw [B3.out] at he
  subst he
  have M2 := Aside0.mk (M1.out.grow hb)
  clear hb M1 cM cR
  have M1 := M2
  clear M2
  have cM := blk_cell (M1.out.blk_at 0 rfl)
  have cR := blk_cell (M1.out.blk_at 1 rfl)
  go_wp2_with fail
  refine (time11_calls _ _).mono ?_
  rintro e w1 ⟨he, hb⟩
  rw [B4.out] at he
  subst he
  have M2 := Aside0.mk (M1.out.grow hb)
  clear hb M1 cM cR
  have M1 := M2
  clear M2
  have cM := blk_cell (M1.out.blk_at 0 rfl)
  have cR := blk_cell (M1.out.blk_at 1 rfl)
  go_wp2_with fail
  refine (time11_calls _ _).mono ?_
  rintro e w1 ⟨he, hb⟩
  rw [B5.out] at he
  subst he
  have M2 := Aside0.mk (M1.out.grow hb)
  clear hb M1 cM cR
  have M1 := M2
  clear M2
  have cM := blk_cell (M1.out.blk_at 0 rfl)
  have cR := blk_cell (M1.out.blk_at 1 rfl)
  go_wp2_with fail
  refine (time11_calls _ _).mono ?_
  rintro e w1 ⟨he, hb⟩
  rw [B6.out] at he
  subst he
  have M2 := Aside0.mk (M1.out.grow hb)
  clear hb M1 cM cR
  have M1 := M2
  clear M2
  have cM := blk_cell (M1.out.blk_at 0 rfl)
  have cR := blk_cell (M1.out.blk_at 1 rfl)
  go_wp2_with fail
  go_ret
  exact ⟨rfl, Mem.sel (ps := [_, _]) (F := []) [] 2 M1.out rfl rfl⟩
set_option maxRecDepth 100000 in
set_option maxHeartbeats 4000000 in
theorem msg_lg (r : Rep) (m : Msg) (A5 A7 A8 A9 A10 A : Option Addr) (c5 c7 c8 c9 c10 c : Nat) (w : World) (hl : Kd.C kE w A m.f7.length m.f7) (hc : m.f7.length ≤ c) (hn : m.f7.length ≤ 1000000) (ka : 1 ≤ m.f0) (kb : m.f0 ≤ 8) (c1 : 0 ≤ m.f1) (c2 : m.f1 < r.f1) (c3 : ¬ m.f1 = r.f0) (c4 : m.f2 = r.f0) (b3 : below m.f3 = true) (b4 : below m.f4 = true) (b5 : below m.f5 = true) (b6 : below m.f6 = true) (lg : ¬ (log m.f7 = true)) :
    Calls Tryz.prog 66 #[.agg #[.int .i64 r.f0, .int .i64 r.f1, .int .i64 r.f2, .int .i64 r.f3, .int .i64 r.f4, .slice A5 r.f5.length c5, .int .i64 r.f6, .slice A7 r.f7.length c7, .slice A8 r.f8.length c8, .slice A9 r.f9.length c9, .slice A10 r.f10.length c10, .int .i64 r.f11, .int .i64 r.f12], .agg #[.int .i64 m.f0, .int .i64 m.f1, .int .i64 m.f2, .int .i64 m.f3, .int .i64 m.f4, .int .i64 m.f5, .int .i64 m.f6, .slice A m.f7.length c]] w fun e w' => e = .returned (.bool false) ∧ Mem w w' [] := by
  have HL := Aside0.mk hl
  have HC := Aside0.mk hc
  have HN := Aside0.mk hn
  have M1 := Aside0.mk (((Mem.nil w).alloc #[.int .i64 r.f0, .int .i64 r.f1, .int .i64 r.f2, .int .i64 r.f3, .int .i64 r.f4, .slice A5 r.f5.length c5, .int .i64 r.f6, .slice A7 r.f7.length c7, .slice A8 r.f8.length c8, .slice A9 r.f9.length c9, .slice A10 r.f10.length c10, .int .i64 r.f11, .int .i64 r.f12] 25).allocAt #[.int .i64 m.f0, .int .i64 m.f1, .int .i64 m.f2, .int .i64 m.f3, .int .i64 m.f4, .int .i64 m.f5, .int .i64 m.f6, .slice A m.f7.length c] 27 (w.heap.size + 1) (by simp))
  clear hl hc hn
  have cM := blk_cell (M1.out.blk_at 0 rfl)
  have cR := blk_cell (M1.out.blk_at 1 rfl)
  have e0 : decide (m.f0 < 1) = false := by simp; omega
  clear ka
  have e8 : decide (8 < m.f0) = false := by simp; omega
  clear kb
  have e1 : decide (m.f1 < 0) = false := by simp; omega
  clear c1
  have e2 : decide (r.f1 ≤ m.f1) = false := by simp; omega
  clear c2
  have e3 : (m.f1 == r.f0) = false := by simpa using c3
  clear c3
  have e4 : (m.f2 == r.f0) = true := by simpa using c4
  have e4' : (m.f2 != r.f0) = false := by simpa using c4
  clear c4
  have B3 := Aside0.mk (show below m.f3 = true by simpa using b3)
  clear b3
  have B4 := Aside0.mk (show below m.f4 = true by simpa using b4)
  clear b4
  have B5 := Aside0.mk (show below m.f5 = true by simpa using b5)
  clear b5
  have B6 := Aside0.mk (show below m.f6 = true by simpa using b6)
  clear b6
  have LG := Aside0.mk (show log m.f7 = false by simpa using lg)
  clear lg
  go_enter Tryz.func66, Tryz.ntmps66
  go_wp2_with fail
  refine (time11_calls _ _).mono ?_
  rintro e w1 ⟨he, hb⟩
  rw [B3.out] at he
  subst he
  have M2 := Aside0.mk (M1.out.grow hb)
  clear hb M1 cM cR
  have M1 := M2
  clear M2
  have cM := blk_cell (M1.out.blk_at 0 rfl)
  have cR := blk_cell (M1.out.blk_at 1 rfl)
  go_wp2_with fail
  refine (time11_calls _ _).mono ?_
  rintro e w1 ⟨he, hb⟩
  rw [B4.out] at he
  subst he
  have M2 := Aside0.mk (M1.out.grow hb)
  clear hb M1 cM cR
  have M1 := M2
  clear M2
  have cM := blk_cell (M1.out.blk_at 0 rfl)
  have cR := blk_cell (M1.out.blk_at 1 rfl)
  go_wp2_with fail
  refine (time11_calls _ _).mono ?_
  rintro e w1 ⟨he, hb⟩
  rw [B5.out] at he
  subst he
  have M2 := Aside0.mk (M1.out.grow hb)
  clear hb M1 cM cR
  have M1 := M2
  clear M2
  have cM := blk_cell (M1.out.blk_at 0 rfl)
  have cR := blk_cell (M1.out.blk_at 1 rfl)
  go_wp2_with fail
  refine (time11_calls _ _).mono ?_
  rintro e w1 ⟨he, hb⟩
  rw [B6.out] at he
  subst he
  have M2 := Aside0.mk (M1.out.grow hb)
  clear hb M1 cM cR
  have M1 := M2
  clear M2
  have cM := blk_cell (M1.out.blk_at 0 rfl)
  have cR := blk_cell (M1.out.blk_at 1 rfl)
  go_wp2_with fail
  refine (Entries11_calls A c m.f7 _ (Kd.C_below HL.out M1.out.below) HC.out HN.out).mono ?_
  rintro e w1 ⟨he, hb⟩
  rw [LG.out] at he
  subst he
  have M2 := Aside0.mk (M1.out.grow hb)
  clear hb M1 cM cR
  have M1 := M2
  clear M2
  have cM := blk_cell (M1.out.blk_at 0 rfl)
  have cR := blk_cell (M1.out.blk_at 1 rfl)
  go_wp2_with fail
  go_ret
  exact ⟨rfl, Mem.sel (ps := [_, _]) (F := []) [] 2 M1.out rfl rfl⟩
set_option maxRecDepth 100000 in
set_option maxHeartbeats 4000000 in
theorem msg_k (r : Rep) (m : Msg) (A5 A7 A8 A9 A10 A : Option Addr) (c5 c7 c8 c9 c10 c : Nat) (w : World) (hl : Kd.C kE w A m.f7.length m.f7) (hc : m.f7.length ≤ c) (hn : m.f7.length ≤ 1000000) (ka : 1 ≤ m.f0) (kb : m.f0 ≤ 8) (c1 : 0 ≤ m.f1) (c2 : m.f1 < r.f1) (c3 : ¬ m.f1 = r.f0) (c4 : m.f2 = r.f0) (b3 : below m.f3 = true) (b4 : below m.f4 = true) (b5 : below m.f5 = true) (b6 : below m.f6 = true) (lg : log m.f7 = true) (k1 : ¬ m.f0 = 1) :
    Calls Tryz.prog 66 #[.agg #[.int .i64 r.f0, .int .i64 r.f1, .int .i64 r.f2, .int .i64 r.f3, .int .i64 r.f4, .slice A5 r.f5.length c5, .int .i64 r.f6, .slice A7 r.f7.length c7, .slice A8 r.f8.length c8, .slice A9 r.f9.length c9, .slice A10 r.f10.length c10, .int .i64 r.f11, .int .i64 r.f12], .agg #[.int .i64 m.f0, .int .i64 m.f1, .int .i64 m.f2, .int .i64 m.f3, .int .i64 m.f4, .int .i64 m.f5, .int .i64 m.f6, .slice A m.f7.length c]] w fun e w' => e = .returned (.bool true) ∧ Mem w w' [] := by
  have HL := Aside0.mk hl
  have HC := Aside0.mk hc
  have HN := Aside0.mk hn
  have M1 := Aside0.mk (((Mem.nil w).alloc #[.int .i64 r.f0, .int .i64 r.f1, .int .i64 r.f2, .int .i64 r.f3, .int .i64 r.f4, .slice A5 r.f5.length c5, .int .i64 r.f6, .slice A7 r.f7.length c7, .slice A8 r.f8.length c8, .slice A9 r.f9.length c9, .slice A10 r.f10.length c10, .int .i64 r.f11, .int .i64 r.f12] 25).allocAt #[.int .i64 m.f0, .int .i64 m.f1, .int .i64 m.f2, .int .i64 m.f3, .int .i64 m.f4, .int .i64 m.f5, .int .i64 m.f6, .slice A m.f7.length c] 27 (w.heap.size + 1) (by simp))
  clear hl hc hn
  have cM := blk_cell (M1.out.blk_at 0 rfl)
  have cR := blk_cell (M1.out.blk_at 1 rfl)
  have e0 : decide (m.f0 < 1) = false := by simp; omega
  clear ka
  have e8 : decide (8 < m.f0) = false := by simp; omega
  clear kb
  have e1 : decide (m.f1 < 0) = false := by simp; omega
  clear c1
  have e2 : decide (r.f1 ≤ m.f1) = false := by simp; omega
  clear c2
  have e3 : (m.f1 == r.f0) = false := by simpa using c3
  clear c3
  have e4 : (m.f2 == r.f0) = true := by simpa using c4
  have e4' : (m.f2 != r.f0) = false := by simpa using c4
  clear c4
  have B3 := Aside0.mk (show below m.f3 = true by simpa using b3)
  clear b3
  have B4 := Aside0.mk (show below m.f4 = true by simpa using b4)
  clear b4
  have B5 := Aside0.mk (show below m.f5 = true by simpa using b5)
  clear b5
  have B6 := Aside0.mk (show below m.f6 = true by simpa using b6)
  clear b6
  have LG := Aside0.mk (show log m.f7 = true by simpa using lg)
  clear lg
  have e9 : (m.f0 == 1) = false := by simpa using k1
  have e9' : (m.f0 != 1) = true := by simpa using k1
  clear k1
  go_enter Tryz.func66, Tryz.ntmps66
  go_wp2_with fail
  refine (time11_calls _ _).mono ?_
  rintro e w1 ⟨he, hb⟩
  rw [B3.out] at he
  subst he
  have M2 := Aside0.mk (M1.out.grow hb)
  clear hb M1 cM cR
  have M1 := M2
  clear M2
  have cM := blk_cell (M1.out.blk_at 0 rfl)
  have cR := blk_cell (M1.out.blk_at 1 rfl)
  go_wp2_with fail
  refine (time11_calls _ _).mono ?_
  rintro e w1 ⟨he, hb⟩
  rw [B4.out] at he
  subst he
  have M2 := Aside0.mk (M1.out.grow hb)
  clear hb M1 cM cR
  have M1 := M2
  clear M2
  have cM := blk_cell (M1.out.blk_at 0 rfl)
  have cR := blk_cell (M1.out.blk_at 1 rfl)
  go_wp2_with fail
  refine (time11_calls _ _).mono ?_
  rintro e w1 ⟨he, hb⟩
  rw [B5.out] at he
  subst he
  have M2 := Aside0.mk (M1.out.grow hb)
  clear hb M1 cM cR
  have M1 := M2
  clear M2
  have cM := blk_cell (M1.out.blk_at 0 rfl)
  have cR := blk_cell (M1.out.blk_at 1 rfl)
  go_wp2_with fail
  refine (time11_calls _ _).mono ?_
  rintro e w1 ⟨he, hb⟩
  rw [B6.out] at he
  subst he
  have M2 := Aside0.mk (M1.out.grow hb)
  clear hb M1 cM cR
  have M1 := M2
  clear M2
  have cM := blk_cell (M1.out.blk_at 0 rfl)
  have cR := blk_cell (M1.out.blk_at 1 rfl)
  go_wp2_with fail
  refine (Entries11_calls A c m.f7 _ (Kd.C_below HL.out M1.out.below) HC.out HN.out).mono ?_
  rintro e w1 ⟨he, hb⟩
  rw [LG.out] at he
  subst he
  have M2 := Aside0.mk (M1.out.grow hb)
  clear hb M1 cM cR
  have M1 := M2
  clear M2
  have cM := blk_cell (M1.out.blk_at 0 rfl)
  have cR := blk_cell (M1.out.blk_at 1 rfl)
  go_wp2_with fail
  go_ret
  exact ⟨rfl, Mem.sel (ps := [_, _]) (F := []) [] 2 M1.out rfl rfl⟩
set_option maxRecDepth 100000 in
set_option maxHeartbeats 4000000 in
theorem msg_n1 (r : Rep) (m : Msg) (A5 A7 A8 A9 A10 A : Option Addr) (c5 c7 c8 c9 c10 c : Nat) (w : World) (hl : Kd.C kE w A m.f7.length m.f7) (hc : m.f7.length ≤ c) (hn : m.f7.length ≤ 1000000) (ka : 1 ≤ m.f0) (kb : m.f0 ≤ 8) (c1 : 0 ≤ m.f1) (c2 : m.f1 < r.f1) (c3 : ¬ m.f1 = r.f0) (c4 : m.f2 = r.f0) (b3 : below m.f3 = true) (b4 : below m.f4 = true) (b5 : below m.f5 = true) (b6 : below m.f6 = true) (lg : log m.f7 = true) (k1 : ¬ (¬ m.f0 = 1)) (n1 : ¬ ((m.f7.length : Int) = 1)) :
    Calls Tryz.prog 66 #[.agg #[.int .i64 r.f0, .int .i64 r.f1, .int .i64 r.f2, .int .i64 r.f3, .int .i64 r.f4, .slice A5 r.f5.length c5, .int .i64 r.f6, .slice A7 r.f7.length c7, .slice A8 r.f8.length c8, .slice A9 r.f9.length c9, .slice A10 r.f10.length c10, .int .i64 r.f11, .int .i64 r.f12], .agg #[.int .i64 m.f0, .int .i64 m.f1, .int .i64 m.f2, .int .i64 m.f3, .int .i64 m.f4, .int .i64 m.f5, .int .i64 m.f6, .slice A m.f7.length c]] w fun e w' => e = .returned (.bool false) ∧ Mem w w' [] := by
  have HL := Aside0.mk hl
  have HC := Aside0.mk hc
  have HN := Aside0.mk hn
  have M1 := Aside0.mk (((Mem.nil w).alloc #[.int .i64 r.f0, .int .i64 r.f1, .int .i64 r.f2, .int .i64 r.f3, .int .i64 r.f4, .slice A5 r.f5.length c5, .int .i64 r.f6, .slice A7 r.f7.length c7, .slice A8 r.f8.length c8, .slice A9 r.f9.length c9, .slice A10 r.f10.length c10, .int .i64 r.f11, .int .i64 r.f12] 25).allocAt #[.int .i64 m.f0, .int .i64 m.f1, .int .i64 m.f2, .int .i64 m.f3, .int .i64 m.f4, .int .i64 m.f5, .int .i64 m.f6, .slice A m.f7.length c] 27 (w.heap.size + 1) (by simp))
  clear hl hc hn
  have cM := blk_cell (M1.out.blk_at 0 rfl)
  have cR := blk_cell (M1.out.blk_at 1 rfl)
  have e0 : decide (m.f0 < 1) = false := by simp; omega
  clear ka
  have e8 : decide (8 < m.f0) = false := by simp; omega
  clear kb
  have e1 : decide (m.f1 < 0) = false := by simp; omega
  clear c1
  have e2 : decide (r.f1 ≤ m.f1) = false := by simp; omega
  clear c2
  have e3 : (m.f1 == r.f0) = false := by simpa using c3
  clear c3
  have e4 : (m.f2 == r.f0) = true := by simpa using c4
  have e4' : (m.f2 != r.f0) = false := by simpa using c4
  clear c4
  have B3 := Aside0.mk (show below m.f3 = true by simpa using b3)
  clear b3
  have B4 := Aside0.mk (show below m.f4 = true by simpa using b4)
  clear b4
  have B5 := Aside0.mk (show below m.f5 = true by simpa using b5)
  clear b5
  have B6 := Aside0.mk (show below m.f6 = true by simpa using b6)
  clear b6
  have LG := Aside0.mk (show log m.f7 = true by simpa using lg)
  clear lg
  have e9 : (m.f0 == 1) = true := by simpa using k1
  have e9' : (m.f0 != 1) = false := by simpa using k1
  clear k1
  have e10 : ((m.f7.length : Int) == 1) = false := by simpa using n1
  clear n1
  go_enter Tryz.func66, Tryz.ntmps66
  go_wp2_with fail
  refine (time11_calls _ _).mono ?_
  rintro e w1 ⟨he, hb⟩
  rw [B3.out] at he
  subst he
  have M2 := Aside0.mk (M1.out.grow hb)
  clear hb M1 cM cR
  have M1 := M2
  clear M2
  have cM := blk_cell (M1.out.blk_at 0 rfl)
  have cR := blk_cell (M1.out.blk_at 1 rfl)
  go_wp2_with fail
  refine (time11_calls _ _).mono ?_
  rintro e w1 ⟨he, hb⟩
  rw [B4.out] at he
  subst he
  have M2 := Aside0.mk (M1.out.grow hb)
  clear hb M1 cM cR
  have M1 := M2
  clear M2
  have cM := blk_cell (M1.out.blk_at 0 rfl)
  have cR := blk_cell (M1.out.blk_at 1 rfl)
  go_wp2_with fail
  refine (time11_calls _ _).mono ?_
  rintro e w1 ⟨he, hb⟩
  rw [B5.out] at he
  subst he
  have M2 := Aside0.mk (M1.out.grow hb)
  clear hb M1 cM cR
  have M1 := M2
  clear M2
  have cM := blk_cell (M1.out.blk_at 0 rfl)
  have cR := blk_cell (M1.out.blk_at 1 rfl)
  go_wp2_with fail
  refine (time11_calls _ _).mono ?_
  rintro e w1 ⟨he, hb⟩
  rw [B6.out] at he
  subst he
  have M2 := Aside0.mk (M1.out.grow hb)
  clear hb M1 cM cR
  have M1 := M2
  clear M2
  have cM := blk_cell (M1.out.blk_at 0 rfl)
  have cR := blk_cell (M1.out.blk_at 1 rfl)
  go_wp2_with fail
  refine (Entries11_calls A c m.f7 _ (Kd.C_below HL.out M1.out.below) HC.out HN.out).mono ?_
  rintro e w1 ⟨he, hb⟩
  rw [LG.out] at he
  subst he
  have M2 := Aside0.mk (M1.out.grow hb)
  clear hb M1 cM cR
  have M1 := M2
  clear M2
  have cM := blk_cell (M1.out.blk_at 0 rfl)
  have cR := blk_cell (M1.out.blk_at 1 rfl)
  go_wp2_with fail
  go_ret
  exact ⟨rfl, Mem.sel (ps := [_, _]) (F := []) [] 2 M1.out rfl rfl⟩
set_option maxRecDepth 100000 in
set_option maxHeartbeats 4000000 in
theorem msg_all (r : Rep) (m : Msg) (A5 A7 A8 A9 A10 A : Option Addr) (c5 c7 c8 c9 c10 c : Nat) (w : World) (hl : Kd.C kE w A m.f7.length m.f7) (hc : m.f7.length ≤ c) (hn : m.f7.length ≤ 1000000) (ka : 1 ≤ m.f0) (kb : m.f0 ≤ 8) (c1 : 0 ≤ m.f1) (c2 : m.f1 < r.f1) (c3 : ¬ m.f1 = r.f0) (c4 : m.f2 = r.f0) (b3 : below m.f3 = true) (b4 : below m.f4 = true) (b5 : below m.f5 = true) (b6 : below m.f6 = true) (lg : log m.f7 = true) (k1 : ¬ (¬ m.f0 = 1)) (n1 : (m.f7.length : Int) = 1) :
    Calls Tryz.prog 66 #[.agg #[.int .i64 r.f0, .int .i64 r.f1, .int .i64 r.f2, .int .i64 r.f3, .int .i64 r.f4, .slice A5 r.f5.length c5, .int .i64 r.f6, .slice A7 r.f7.length c7, .slice A8 r.f8.length c8, .slice A9 r.f9.length c9, .slice A10 r.f10.length c10, .int .i64 r.f11, .int .i64 r.f12], .agg #[.int .i64 m.f0, .int .i64 m.f1, .int .i64 m.f2, .int .i64 m.f3, .int .i64 m.f4, .int .i64 m.f5, .int .i64 m.f6, .slice A m.f7.length c]] w fun e w' => e = .returned (.bool true) ∧ Mem w w' [] := by
  have HL := Aside0.mk hl
  have HC := Aside0.mk hc
  have HN := Aside0.mk hn
  have M1 := Aside0.mk (((Mem.nil w).alloc #[.int .i64 r.f0, .int .i64 r.f1, .int .i64 r.f2, .int .i64 r.f3, .int .i64 r.f4, .slice A5 r.f5.length c5, .int .i64 r.f6, .slice A7 r.f7.length c7, .slice A8 r.f8.length c8, .slice A9 r.f9.length c9, .slice A10 r.f10.length c10, .int .i64 r.f11, .int .i64 r.f12] 25).allocAt #[.int .i64 m.f0, .int .i64 m.f1, .int .i64 m.f2, .int .i64 m.f3, .int .i64 m.f4, .int .i64 m.f5, .int .i64 m.f6, .slice A m.f7.length c] 27 (w.heap.size + 1) (by simp))
  clear hl hc hn
  have cM := blk_cell (M1.out.blk_at 0 rfl)
  have cR := blk_cell (M1.out.blk_at 1 rfl)
  have e0 : decide (m.f0 < 1) = false := by simp; omega
  clear ka
  have e8 : decide (8 < m.f0) = false := by simp; omega
  clear kb
  have e1 : decide (m.f1 < 0) = false := by simp; omega
  clear c1
  have e2 : decide (r.f1 ≤ m.f1) = false := by simp; omega
  clear c2
  have e3 : (m.f1 == r.f0) = false := by simpa using c3
  clear c3
  have e4 : (m.f2 == r.f0) = true := by simpa using c4
  have e4' : (m.f2 != r.f0) = false := by simpa using c4
  clear c4
  have B3 := Aside0.mk (show below m.f3 = true by simpa using b3)
  clear b3
  have B4 := Aside0.mk (show below m.f4 = true by simpa using b4)
  clear b4
  have B5 := Aside0.mk (show below m.f5 = true by simpa using b5)
  clear b5
  have B6 := Aside0.mk (show below m.f6 = true by simpa using b6)
  clear b6
  have LG := Aside0.mk (show log m.f7 = true by simpa using lg)
  clear lg
  have e9 : (m.f0 == 1) = true := by simpa using k1
  have e9' : (m.f0 != 1) = false := by simpa using k1
  clear k1
  have e10 : ((m.f7.length : Int) == 1) = true := by simpa using n1
  clear n1
  go_enter Tryz.func66, Tryz.ntmps66
  go_wp2_with fail
  refine (time11_calls _ _).mono ?_
  rintro e w1 ⟨he, hb⟩
  rw [B3.out] at he
  subst he
  have M2 := Aside0.mk (M1.out.grow hb)
  clear hb M1 cM cR
  have M1 := M2
  clear M2
  have cM := blk_cell (M1.out.blk_at 0 rfl)
  have cR := blk_cell (M1.out.blk_at 1 rfl)
  go_wp2_with fail
  refine (time11_calls _ _).mono ?_
  rintro e w1 ⟨he, hb⟩
  rw [B4.out] at he
  subst he
  have M2 := Aside0.mk (M1.out.grow hb)
  clear hb M1 cM cR
  have M1 := M2
  clear M2
  have cM := blk_cell (M1.out.blk_at 0 rfl)
  have cR := blk_cell (M1.out.blk_at 1 rfl)
  go_wp2_with fail
  refine (time11_calls _ _).mono ?_
  rintro e w1 ⟨he, hb⟩
  rw [B5.out] at he
  subst he
  have M2 := Aside0.mk (M1.out.grow hb)
  clear hb M1 cM cR
  have M1 := M2
  clear M2
  have cM := blk_cell (M1.out.blk_at 0 rfl)
  have cR := blk_cell (M1.out.blk_at 1 rfl)
  go_wp2_with fail
  refine (time11_calls _ _).mono ?_
  rintro e w1 ⟨he, hb⟩
  rw [B6.out] at he
  subst he
  have M2 := Aside0.mk (M1.out.grow hb)
  clear hb M1 cM cR
  have M1 := M2
  clear M2
  have cM := blk_cell (M1.out.blk_at 0 rfl)
  have cR := blk_cell (M1.out.blk_at 1 rfl)
  go_wp2_with fail
  refine (Entries11_calls A c m.f7 _ (Kd.C_below HL.out M1.out.below) HC.out HN.out).mono ?_
  rintro e w1 ⟨he, hb⟩
  rw [LG.out] at he
  subst he
  have M2 := Aside0.mk (M1.out.grow hb)
  clear hb M1 cM cR
  have M1 := M2
  clear M2
  have cM := blk_cell (M1.out.blk_at 0 rfl)
  have cR := blk_cell (M1.out.blk_at 1 rfl)
  go_wp2_with fail
  go_ret
  exact ⟨rfl, Mem.sel (ps := [_, _]) (F := []) [] 2 M1.out rfl rfl⟩
theorem message11_calls (r : Rep) (m : Msg) (A5 A7 A8 A9 A10 A : Option Addr) (c5 c7 c8 c9 c10 c : Nat) (w : World) (hl : Kd.C kE w A m.f7.length m.f7) (hc : m.f7.length ≤ c) (hn : m.f7.length ≤ 1000000) :
    Calls Tryz.prog 66 #[.agg #[.int .i64 r.f0, .int .i64 r.f1, .int .i64 r.f2, .int .i64 r.f3, .int .i64 r.f4, .slice A5 r.f5.length c5, .int .i64 r.f6, .slice A7 r.f7.length c7, .slice A8 r.f8.length c8, .slice A9 r.f9.length c9, .slice A10 r.f10.length c10, .int .i64 r.f11, .int .i64 r.f12], .agg #[.int .i64 m.f0, .int .i64 m.f1, .int .i64 m.f2, .int .i64 m.f3, .int .i64 m.f4, .int .i64 m.f5, .int .i64 m.f6, .slice A m.f7.length c]] w fun e w' => e = .returned (.bool (mayMsg r m)) ∧ Mem w w' [] := by
  by_cases ka : 1 ≤ m.f0
  case neg =>
    have e : mayMsg r m = false := by simp [mayMsg, mayM, ka]
    rw [e]
    exact msg_ka r m A5 A7 A8 A9 A10 A c5 c7 c8 c9 c10 c w hl hc hn  ka
  by_cases kb : m.f0 ≤ 8
  case neg =>
    have e : mayMsg r m = false := by simp [mayMsg, mayM, kb]
    rw [e]
    exact msg_kb r m A5 A7 A8 A9 A10 A c5 c7 c8 c9 c10 c w hl hc hn ka kb
  by_cases c1 : 0 ≤ m.f1
  case neg =>
    have e : mayMsg r m = false := by simp [mayMsg, mayM, c1]
    rw [e]
    exact msg_c1 r m A5 A7 A8 A9 A10 A c5 c7 c8 c9 c10 c w hl hc hn ka kb c1
  by_cases c2 : m.f1 < r.f1
  case neg =>
    have e : mayMsg r m = false := by simp [mayMsg, mayM, c2]
    rw [e]
    exact msg_c2 r m A5 A7 A8 A9 A10 A c5 c7 c8 c9 c10 c w hl hc hn ka kb c1 c2
  by_cases c3 : ¬ m.f1 = r.f0
  case neg =>
    have e : mayMsg r m = false := by simp [mayMsg, mayM, c3]
    rw [e]
    exact msg_c3 r m A5 A7 A8 A9 A10 A c5 c7 c8 c9 c10 c w hl hc hn ka kb c1 c2 c3
  by_cases c4 : m.f2 = r.f0
  case neg =>
    have e : mayMsg r m = false := by simp [mayMsg, mayM, c4]
    rw [e]
    exact msg_c4 r m A5 A7 A8 A9 A10 A c5 c7 c8 c9 c10 c w hl hc hn ka kb c1 c2 c3 c4
  by_cases b3 : below m.f3 = true
  case neg =>
    have e : mayMsg r m = false := by simp [mayMsg, mayM, b3]
    rw [e]
    exact msg_b3 r m A5 A7 A8 A9 A10 A c5 c7 c8 c9 c10 c w hl hc hn ka kb c1 c2 c3 c4 b3
  by_cases b4 : below m.f4 = true
  case neg =>
    have e : mayMsg r m = false := by simp [mayMsg, mayM, b4]
    rw [e]
    exact msg_b4 r m A5 A7 A8 A9 A10 A c5 c7 c8 c9 c10 c w hl hc hn ka kb c1 c2 c3 c4 b3 b4
  by_cases b5 : below m.f5 = true
  case neg =>
    have e : mayMsg r m = false := by simp [mayMsg, mayM, b5]
    rw [e]
    exact msg_b5 r m A5 A7 A8 A9 A10 A c5 c7 c8 c9 c10 c w hl hc hn ka kb c1 c2 c3 c4 b3 b4 b5
  by_cases b6 : below m.f6 = true
  case neg =>
    have e : mayMsg r m = false := by simp [mayMsg, mayM, b6]
    rw [e]
    exact msg_b6 r m A5 A7 A8 A9 A10 A c5 c7 c8 c9 c10 c w hl hc hn ka kb c1 c2 c3 c4 b3 b4 b5 b6
  by_cases lg : log m.f7 = true
  case neg =>
    have e : mayMsg r m = false := by simp [mayMsg, mayM, lg]
    rw [e]
    exact msg_lg r m A5 A7 A8 A9 A10 A c5 c7 c8 c9 c10 c w hl hc hn ka kb c1 c2 c3 c4 b3 b4 b5 b6 lg
  by_cases k1 : ¬ m.f0 = 1
  · have e : mayMsg r m = true := by simp [mayMsg, mayM, ka, kb, c1, c2, c3, c4, b3, b4, b5, b6, lg, k1]
    rw [e]
    exact msg_k r m A5 A7 A8 A9 A10 A c5 c7 c8 c9 c10 c w hl hc hn ka kb c1 c2 c3 c4 b3 b4 b5 b6 lg k1
  have k2 : m.f0 = 1 := Classical.not_not.1 k1
  by_cases n1 : (m.f7.length : Int) = 1
  case neg =>
    have e : mayMsg r m = false := by simp [mayMsg, mayM, c1, c2, c3, c4, b3, b4, b5, b6, lg, k2, n1]
    rw [e]
    exact msg_n1 r m A5 A7 A8 A9 A10 A c5 c7 c8 c9 c10 c w hl hc hn ka kb c1 c2 c3 c4 b3 b4 b5 b6 lg k1 n1
  have e : mayMsg r m = true := by simp [mayMsg, mayM, c1, c2, c3, c4, b3, b4, b5, b6, lg, k2, n1]
  rw [e]
  exact msg_all r m A5 A7 A8 A9 A10 A c5 c7 c8 c9 c10 c w hl hc hn ka kb c1 c2 c3 c4 b3 b4 b5 b6 lg k1 n1
end Go.Proofs.YtggbjokhniigkaaGreat.Tn
