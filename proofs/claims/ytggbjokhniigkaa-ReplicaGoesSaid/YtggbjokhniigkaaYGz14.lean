/- Texts laid together: Tg. No condition. -/
import Derived.Test.YtggbjokhniigkaaYGz7
set_option linter.unusedVariables false
set_option linter.unusedSimpArgs false
set_option maxRecDepth 100000
set_option maxHeartbeats 8000000
namespace Go.Proofs.Ytggbjokhniigkaa.Tg
open Lx Ty Go.RowKit YtggbjokhniigkaaW.PrintWords YtggbjokhniigkaaW.PrintLast YtggbjokhniigkaaW.PrintMore Mx Kx Wa Tk We Sa Tl Wj Wd
theorem wr2 {a : Int} {n : Nat} (h0 : 0 ≤ a) (h1 : a ≤ 4611686018427387904) (hn : n ≤ 1200) : IntKind.i64.wrap (a + (n : Int)) = a + (n : Int) ∧ wrap64 (a + (n : Int)) = a + (n : Int) := ⟨by rw [IntKind.wrap_i64]; omega, by unfold wrap64; omega⟩
theorem log_l1 (w0 w : World) (F : List Res) (g : Nat) (r : Rep) (m : Msg) (v5 v7 v8 v9 v10 : Value) (A : Option Addr) (c : Nat) (hM : Mem w0 w (wS g r v5 r.f5 r.f6 v7 v8 v9 v10 (.slice none 0 0) [] F)) (H0 : IdleIn r m) (h1 : ¬ m.f3 = r.f2) :
    LogDoes w0 w F g m A c r [] := by
  unfold LogDoes
  obtain ⟨hx, hx1, hlm, hw0, hw1, hn0, hn5⟩ := H0
  obtain ⟨B5, d5, rfl, _, _⟩ := hM.row_at 2 rfl
  have e1 : (m.f3 == r.f2) = false := by simpa using h1
  have e1' : (m.f3 != r.f2) = true := by simpa using h1
  clear h1
  have HV := Aside0.mk (show 0 ≤ r.f2 ∧ r.f2 ≤ 4611686018427387904 from ⟨hw0, hw1⟩)
  have HI := Aside0.mk (show 0 < r.f1 ∧ r.f1 ≤ 5 from ⟨hn0, hn5⟩)
  obtain ⟨ew, ew'⟩ := wr2 hx hx1 hlm
  have M1 := Aside0.mk (hM.alloc (Kx.mA m A c) 29)
  clear hM hx hx1 hlm hw0 hw1 hn0 hn5
  have cM := blk_cell (M1.out.blk_at 0 rfl)
  have cG := blk_cell (M1.out.blk_at 1 rfl)
  unfold Wa.wc at cG
  go_enter Try.func102, Try.ntmps102
  go_wp2_with fail
  go_quiet (fail)
  go_wp2
  first | go_end0 | (refine bodyPost_ret (results_none rfl _ _ _) rfl ?_)
  exact ⟨rfl, _, _, _, _, _, _, Mem.sel (ps := [_, _, _, _, _, _, _, _]) (F := F) [1, 2, 3, 4, 5, 6, 7] 8 (M1.out.drewN _) rfl rfl⟩
theorem log_l2 (w0 w : World) (F : List Res) (g : Nat) (r : Rep) (m : Msg) (v5 v7 v8 v9 v10 : Value) (A : Option Addr) (c : Nat) (hM : Mem w0 w (wS g r v5 r.f5 r.f6 v7 v8 v9 v10 (.slice none 0 0) [] F)) (H0 : IdleIn r m) (h1 : m.f3 = r.f2) (h2 : (r.f5.length : Int) < m.f4) :
    LogDoes w0 w F g m A c r [] := by
  unfold LogDoes
  obtain ⟨hx, hx1, hlm, hw0, hw1, hn0, hn5⟩ := H0
  obtain ⟨B5, d5, rfl, _, _⟩ := hM.row_at 2 rfl
  have e1 : (m.f3 == r.f2) = true := by simpa using h1
  have e1' : (m.f3 != r.f2) = false := by simpa using h1
  clear h1
  have e2 : decide ((r.f5.length : Int) < m.f4) = true := decide_eq_true h2
  clear h2
  have HV := Aside0.mk (show 0 ≤ r.f2 ∧ r.f2 ≤ 4611686018427387904 from ⟨hw0, hw1⟩)
  have HI := Aside0.mk (show 0 < r.f1 ∧ r.f1 ≤ 5 from ⟨hn0, hn5⟩)
  obtain ⟨ew, ew'⟩ := wr2 hx hx1 hlm
  have M1 := Aside0.mk (hM.alloc (Kx.mA m A c) 29)
  clear hM hx hx1 hlm hw0 hw1 hn0 hn5
  have cM := blk_cell (M1.out.blk_at 0 rfl)
  have cG := blk_cell (M1.out.blk_at 1 rfl)
  unfold Wa.wc at cG
  go_enter Try.func102, Try.ntmps102
  go_wp2_with fail
  go_quiet (fail)
  go_wp2
  first | go_end0 | (refine bodyPost_ret (results_none rfl _ _ _) rfl ?_)
  exact ⟨rfl, _, _, _, _, _, _, Mem.sel (ps := [_, _, _, _, _, _, _, _]) (F := F) [1, 2, 3, 4, 5, 6, 7] 8 (M1.out.drewN _) rfl rfl⟩
theorem log_a1 (w0 w : World) (F : List Res) (g : Nat) (r : Rep) (m : Msg) (v5 v7 v8 v9 v10 : Value) (A : Option Addr) (c : Nat) (hM : Mem w0 w (wS g r v5 r.f5 r.f6 v7 v8 v9 v10 (.slice none 0 0) [] F)) (H0 : IdleIn r m) (h1 : m.f3 = r.f2) (h2 : ¬ (r.f5.length : Int) < m.f4) (h3 : r.f4 = 2) (h5 : ¬ m.f4 ≤ r.f6) :
    LogDoes w0 w F g m A c r [] := by
  unfold LogDoes
  obtain ⟨hx, hx1, hlm, hw0, hw1, hn0, hn5⟩ := H0
  obtain ⟨B5, d5, rfl, _, _⟩ := hM.row_at 2 rfl
  have e1 : (m.f3 == r.f2) = true := by simpa using h1
  have e1' : (m.f3 != r.f2) = false := by simpa using h1
  clear h1
  have e2 : decide ((r.f5.length : Int) < m.f4) = false := decide_eq_false h2
  clear h2
  have e3 : (r.f4 == 2) = true := by simpa using h3
  have e3' : (r.f4 != 2) = false := by simpa using h3
  have h4 : ¬ r.f4 = 0 := by rw [h3]; decide
  have e4 : (r.f4 == 0) = false := by simpa using h4
  have e4' : (r.f4 != 0) = true := by simpa using h4
  clear h3 h4
  have e5 : decide (m.f4 ≤ r.f6) = false := decide_eq_false h5
  clear h5
  have HV := Aside0.mk (show 0 ≤ r.f2 ∧ r.f2 ≤ 4611686018427387904 from ⟨hw0, hw1⟩)
  have HI := Aside0.mk (show 0 < r.f1 ∧ r.f1 ≤ 5 from ⟨hn0, hn5⟩)
  obtain ⟨ew, ew'⟩ := wr2 hx hx1 hlm
  have M1 := Aside0.mk (hM.alloc (Kx.mA m A c) 29)
  clear hM hx hx1 hlm hw0 hw1 hn0 hn5
  have cM := blk_cell (M1.out.blk_at 0 rfl)
  have cG := blk_cell (M1.out.blk_at 1 rfl)
  unfold Wa.wc at cG
  go_enter Try.func102, Try.ntmps102
  go_wp2_with fail
  go_quiet (fail)
  go_wp2_with fail
  go_quiet (fail)
  go_wp2_with fail
  go_quiet (fail)
  go_wp2
  first | go_end0 | (refine bodyPost_ret (results_none rfl _ _ _) rfl ?_)
  exact ⟨rfl, _, _, _, _, _, _, Mem.sel (ps := [_, _, _, _, _, _, _, _]) (F := F) [1, 2, 3, 4, 5, 6, 7] 8 (((M1.out.drewN _).drewN _).drewN _) rfl rfl⟩
theorem log_a2 (w0 w : World) (F : List Res) (g : Nat) (r : Rep) (m : Msg) (v5 v7 v8 v9 v10 : Value) (A : Option Addr) (c : Nat) (hM : Mem w0 w (wS g r v5 r.f5 r.f6 v7 v8 v9 v10 (.slice none 0 0) [] F)) (H0 : IdleIn r m) (h1 : m.f3 = r.f2) (h2 : ¬ (r.f5.length : Int) < m.f4) (h3 : r.f4 = 2) (h5 : m.f4 ≤ r.f6) (h6 : ¬ r.f6 ≤ m.f4 + (m.f7.length : Int)) :
    LogDoes w0 w F g m A c r [] := by
  unfold LogDoes
  obtain ⟨hx, hx1, hlm, hw0, hw1, hn0, hn5⟩ := H0
  obtain ⟨B5, d5, rfl, _, _⟩ := hM.row_at 2 rfl
  have e1 : (m.f3 == r.f2) = true := by simpa using h1
  have e1' : (m.f3 != r.f2) = false := by simpa using h1
  clear h1
  have e2 : decide ((r.f5.length : Int) < m.f4) = false := decide_eq_false h2
  clear h2
  have e3 : (r.f4 == 2) = true := by simpa using h3
  have e3' : (r.f4 != 2) = false := by simpa using h3
  have h4 : ¬ r.f4 = 0 := by rw [h3]; decide
  have e4 : (r.f4 == 0) = false := by simpa using h4
  have e4' : (r.f4 != 0) = true := by simpa using h4
  clear h3 h4
  have e5 : decide (m.f4 ≤ r.f6) = true := decide_eq_true h5
  clear h5
  have e6 : decide (r.f6 ≤ m.f4 + (m.f7.length : Int)) = false := decide_eq_false h6
  clear h6
  have HV := Aside0.mk (show 0 ≤ r.f2 ∧ r.f2 ≤ 4611686018427387904 from ⟨hw0, hw1⟩)
  have HI := Aside0.mk (show 0 < r.f1 ∧ r.f1 ≤ 5 from ⟨hn0, hn5⟩)
  obtain ⟨ew, ew'⟩ := wr2 hx hx1 hlm
  have M1 := Aside0.mk (hM.alloc (Kx.mA m A c) 29)
  clear hM hx hx1 hlm hw0 hw1 hn0 hn5
  have cM := blk_cell (M1.out.blk_at 0 rfl)
  have cG := blk_cell (M1.out.blk_at 1 rfl)
  unfold Wa.wc at cG
  go_enter Try.func102, Try.ntmps102
  go_wp2_with fail
  go_quiet (fail)
  go_wp2_with fail
  go_quiet (fail)
  go_wp2_with fail
  go_quiet (fail)
  go_wp2
  first | go_end0 | (refine bodyPost_ret (results_none rfl _ _ _) rfl ?_)
  exact ⟨rfl, _, _, _, _, _, _, Mem.sel (ps := [_, _, _, _, _, _, _, _]) (F := F) [1, 2, 3, 4, 5, 6, 7] 8 (((M1.out.drewN _).drewN _).drewN _) rfl rfl⟩
theorem log_c1 (w0 w : World) (F : List Res) (g : Nat) (r : Rep) (m : Msg) (v5 v7 v8 v9 v10 : Value) (A : Option Addr) (c : Nat) (hM : Mem w0 w (wS g r v5 r.f5 r.f6 v7 v8 v9 v10 (.slice none 0 0) [] F)) (H0 : IdleIn r m) (h1 : m.f3 = r.f2) (h2 : ¬ (r.f5.length : Int) < m.f4) (h3 : ¬ r.f4 = 2) (h4 : ¬ r.f4 = 0) :
    LogDoes w0 w F g m A c r [] := by
  unfold LogDoes
  obtain ⟨hx, hx1, hlm, hw0, hw1, hn0, hn5⟩ := H0
  obtain ⟨B5, d5, rfl, _, _⟩ := hM.row_at 2 rfl
  have e1 : (m.f3 == r.f2) = true := by simpa using h1
  have e1' : (m.f3 != r.f2) = false := by simpa using h1
  clear h1
  have e2 : decide ((r.f5.length : Int) < m.f4) = false := decide_eq_false h2
  clear h2
  have e3 : (r.f4 == 2) = false := by simpa using h3
  have e3' : (r.f4 != 2) = true := by simpa using h3
  have e4 : (r.f4 == 0) = false := by simpa using h4
  have e4' : (r.f4 != 0) = true := by simpa using h4
  clear h3 h4
  have HV := Aside0.mk (show 0 ≤ r.f2 ∧ r.f2 ≤ 4611686018427387904 from ⟨hw0, hw1⟩)
  have HI := Aside0.mk (show 0 < r.f1 ∧ r.f1 ≤ 5 from ⟨hn0, hn5⟩)
  obtain ⟨ew, ew'⟩ := wr2 hx hx1 hlm
  have M1 := Aside0.mk (hM.alloc (Kx.mA m A c) 29)
  clear hM hx hx1 hlm hw0 hw1 hn0 hn5
  have cM := blk_cell (M1.out.blk_at 0 rfl)
  have cG := blk_cell (M1.out.blk_at 1 rfl)
  unfold Wa.wc at cG
  go_enter Try.func102, Try.ntmps102
  go_wp2_with fail
  go_quiet (fail)
  go_wp2_with fail
  go_quiet (fail)
  go_wp2_with fail
  go_quiet (fail)
  go_wp2
  first | go_end0 | (refine bodyPost_ret (results_none rfl _ _ _) rfl ?_)
  exact ⟨rfl, _, _, _, _, _, _, Mem.sel (ps := [_, _, _, _, _, _, _, _]) (F := F) [1, 2, 3, 4, 5, 6, 7] 8 (((M1.out.drewN _).drewN _).drewN _) rfl rfl⟩
theorem log_p1 (w0 w : World) (F : List Res) (g : Nat) (r : Rep) (m : Msg) (v5 v7 v8 v9 v10 : Value) (A : Option Addr) (c : Nat) (hM : Mem w0 w (wS g r v5 r.f5 r.f6 v7 v8 v9 v10 (.slice none 0 0) [] F)) (H0 : IdleIn r m) (h1 : m.f3 = r.f2) (h2 : ¬ (r.f5.length : Int) < m.f4) (h4 : r.f4 = 0) (h7 : r.f2 % r.f1 = r.f0) :
    LogDoes w0 w F g m A c r [] := by
  unfold LogDoes
  obtain ⟨hx, hx1, hlm, hw0, hw1, hn0, hn5⟩ := H0
  obtain ⟨B5, d5, rfl, _, _⟩ := hM.row_at 2 rfl
  have e1 : (m.f3 == r.f2) = true := by simpa using h1
  have e1' : (m.f3 != r.f2) = false := by simpa using h1
  clear h1
  have e2 : decide ((r.f5.length : Int) < m.f4) = false := decide_eq_false h2
  clear h2
  have h3 : ¬ r.f4 = 2 := by rw [h4]; decide
  have e3 : (r.f4 == 2) = false := by simpa using h3
  have e3' : (r.f4 != 2) = true := by simpa using h3
  have e4 : (r.f4 == 0) = true := by simpa using h4
  have e4' : (r.f4 != 0) = false := by simpa using h4
  clear h3 h4
  have e7 : (r.f2 % r.f1 == r.f0) = true := by simpa using h7
  have e7' : (r.f2 % r.f1 != r.f0) = false := by simpa using h7
  clear h7
  have HV := Aside0.mk (show 0 ≤ r.f2 ∧ r.f2 ≤ 4611686018427387904 from ⟨hw0, hw1⟩)
  have HI := Aside0.mk (show 0 < r.f1 ∧ r.f1 ≤ 5 from ⟨hn0, hn5⟩)
  obtain ⟨ew, ew'⟩ := wr2 hx hx1 hlm
  have M1 := Aside0.mk (hM.alloc (Kx.mA m A c) 29)
  clear hM hx hx1 hlm hw0 hw1 hn0 hn5
  have cM := blk_cell (M1.out.blk_at 0 rfl)
  have cG := blk_cell (M1.out.blk_at 1 rfl)
  unfold Wa.wc at cG
  go_enter Try.func102, Try.ntmps102
  go_wp2_with fail
  go_quiet (fail)
  go_upto_region 4 with (fail)
  go_cut [33] (fun s33 wx => s33 = .bool false ∧ Aside0 (Mem w0 wx (mS w m.f4 m A c <| wS g r (.slice B5 r.f5.length d5) r.f5 r.f6 v7 v8 v9 v10 (.slice none 0 0) [] F)))
  case first =>
    go_quiet (fail)
    go_wp2_with fail
    go_meet
    case rel => exact ⟨rfl, ⟨(M1.out.drewN _).drewN _⟩⟩
  case rest =>
  obtain ⟨rfl, M2⟩ := hcut
  clear M1 cM cG
  have M1 := M2
  clear M2
  have cG := blk_cell (M1.out.blk_at 1 rfl)
  have hW := M1.out.blk_at 1 rfl
  unfold Wa.wc at cG
  go_wp2_with fail
  go_quiet ((go_at_call 74; exact primary_quiet _ _ g r.f0 r.f1 r.f2 r.f3 r.f4 _ r.f6 _ _ _ _ r.f11 r.f12 _ r.f2 hW HV.out.1 HV.out.2 HI.out.1 HI.out.2))
  go_wp2
  first | go_end0 | (refine bodyPost_ret (results_none rfl _ _ _) rfl ?_)
  exact ⟨rfl, _, _, _, _, _, _, Mem.sel (ps := [_, _, _, _, _, _, _, _]) (F := F) [1, 2, 3, 4, 5, 6, 7] 8 (M1.out.drewN _) rfl rfl⟩
end Go.Proofs.Ytggbjokhniigkaa.Tg
