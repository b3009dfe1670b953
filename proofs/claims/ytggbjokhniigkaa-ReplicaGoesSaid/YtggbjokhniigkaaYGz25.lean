/- Texts laid together: Fi. No condition. -/
import Derived.Test.YtggbjokhniigkaaYGz11
set_option linter.unusedVariables false
set_option linter.unusedSimpArgs false
set_option maxRecDepth 100000
set_option maxHeartbeats 8000000
namespace Go.Proofs.Ytggbjokhniigkaa.Fi
open Go.Proofs.Ytggbjokhniigkaa.Ty Go.RowKit Go.Proofs.YtggbjokhniigkaaW.PrintWords Go.Proofs.YtggbjokhniigkaaW.PrintLast Go.Proofs.YtggbjokhniigkaaW.PrintMore Go.Proofs.Ytggbjokhniigkaa.Mx Go.Proofs.Ytggbjokhniigkaa.Kx Go.Proofs.Ytggbjokhniigkaa.Wa Go.Proofs.Ytggbjokhniigkaa.Wb Go.Proofs.Ytggbjokhniigkaa.Wd Go.Proofs.Ytggbjokhniigkaa.Vc Go.Proofs.Ytggbjokhniigkaa.Ve
set_option linter.unusedVariables false
set_option linter.unusedSimpArgs false
set_option maxRecDepth 100000 in
set_option maxHeartbeats 4000000 in
theorem fitted_may (r : Rep) (m : Msg) (A5 A7 A8 A9 A10 A : Option Addr) (c5 c7 c8 c9 c10 c : Nat) (w : World) (h : RdRep w r A5 A7 A8 A9 A10) (hc : Fit r c5 c7 c8 c9 c10) (hs : r.f5.length ≤ 9223372036854775807 ∧ r.f7.length ≤ 9223372036854775807 ∧ r.f8.length ≤ 9223372036854775807 ∧ r.f9.length ≤ 9223372036854775807 ∧ r.f10.length ≤ 9223372036854775807) (h1 : may r = false) :
    Calls Try.prog 41 #[.agg #[.int .i64 r.f0, .int .i64 r.f1, .int .i64 r.f2, .int .i64 r.f3, .int .i64 r.f4, .slice A5 r.f5.length c5, .int .i64 r.f6, .slice A7 r.f7.length c7, .slice A8 r.f8.length c8, .slice A9 r.f9.length c9, .slice A10 r.f10.length c10, .int .i64 r.f11, .int .i64 r.f12], .agg #[.int .i64 m.f0, .int .i64 m.f1, .int .i64 m.f2, .int .i64 m.f3, .int .i64 m.f4, .int .i64 m.f5, .int .i64 m.f6, .slice A m.f7.length c], .bool true] w fun e w' => e = .returned (.agg #[.int .i64 m.f0, .int .i64 m.f1, .int .i64 m.f2, .int .i64 m.f3, .int .i64 m.f4, .int .i64 m.f5, .int .i64 m.f6, .slice A m.f7.length c]) ∧ Mem w w' [] := by
  have E1 := Aside0.mk h1
  clear h1
  have H := Aside0.mk h
  have HC := Aside0.mk hc
  have HS := Aside0.mk hs
  have M1 := Aside0.mk ((((Mem.nil w).alloc #[.int .i64 r.f0, .int .i64 r.f1, .int .i64 r.f2, .int .i64 r.f3, .int .i64 r.f4, .slice A5 r.f5.length c5, .int .i64 r.f6, .slice A7 r.f7.length c7, .slice A8 r.f8.length c8, .slice A9 r.f9.length c9, .slice A10 r.f10.length c10, .int .i64 r.f11, .int .i64 r.f12] 45).allocAt #[.int .i64 m.f0, .int .i64 m.f1, .int .i64 m.f2, .int .i64 m.f3, .int .i64 m.f4, .int .i64 m.f5, .int .i64 m.f6, .slice A m.f7.length c] 29 (w.heap.size + 1) (by simp)).allocAt #[.int .i64 0, .int .i64 0, .int .i64 0, .int .i64 0, .int .i64 0, .int .i64 0, .int .i64 0, .slice none 0 0] 29 (w.heap.size + 2) (by simp))
  clear h hc hs
  go_enter Try.func41, Try.ntmps41
  go_wp2_with fail
  refine (May11_any r A5 A7 A8 A9 A10 c5 c7 c8 c9 c10 _ (H.out.below M1.out.below) HC.out HS.out).mono ?_
  rintro e w1 ⟨he, hb⟩
  rw [E1.out] at he
  subst he
  have M2 := Aside0.mk (M1.out.grow hb)
  clear hb M1
  have cZ := blk_cell (M2.out.blk_at 0 rfl)
  have fZ := blk_frozen (M2.out.blk_at 0 rfl)
  have cM := blk_cell (M2.out.blk_at 1 rfl)
  have cR := blk_cell (M2.out.blk_at 2 rfl)
  go_wp2_with fail
  all_goals
    have MF := (M2.out.setRow 0 rfl [.int .i64 m.f0, .int .i64 m.f1, .int .i64 m.f2, .int .i64 m.f3, .int .i64 m.f4, .int .i64 m.f5, .int .i64 m.f6, .slice A m.f7.length c] rfl)
    have hgF := MF.blk_at 0 rfl
    refine bodyPost_ret (results_cell_row rfl _ _ (w.heap.size + 2) 29 #[.int .i64 m.f0, .int .i64 m.f1, .int .i64 m.f2, .int .i64 m.f3, .int .i64 m.f4, .int .i64 m.f5, .int .i64 m.f6, .slice A m.f7.length c] (0, 0) _ rfl hgF Try.underlying29 rfl (by kernel_rfl)) rfl ?_
    exact ⟨rfl, Mem.sel (ps := [_, _, _]) (F := []) [] 3 MF rfl rfl⟩
set_option maxRecDepth 100000 in
set_option maxHeartbeats 4000000 in
theorem fitted_one (r : Rep) (m : Msg) (A5 A7 A8 A9 A10 A : Option Addr) (c5 c7 c8 c9 c10 c : Nat) (w : World) (h : RdRep w r A5 A7 A8 A9 A10) (hc : Fit r c5 c7 c8 c9 c10) (hs : r.f5.length ≤ 9223372036854775807 ∧ r.f7.length ≤ 9223372036854775807 ∧ r.f8.length ≤ 9223372036854775807 ∧ r.f9.length ≤ 9223372036854775807 ∧ r.f10.length ≤ 9223372036854775807) (h1 : may r = true) (h2 : r.f1 = 1) :
    Calls Try.prog 41 #[.agg #[.int .i64 r.f0, .int .i64 r.f1, .int .i64 r.f2, .int .i64 r.f3, .int .i64 r.f4, .slice A5 r.f5.length c5, .int .i64 r.f6, .slice A7 r.f7.length c7, .slice A8 r.f8.length c8, .slice A9 r.f9.length c9, .slice A10 r.f10.length c10, .int .i64 r.f11, .int .i64 r.f12], .agg #[.int .i64 m.f0, .int .i64 m.f1, .int .i64 m.f2, .int .i64 m.f3, .int .i64 m.f4, .int .i64 m.f5, .int .i64 m.f6, .slice A m.f7.length c], .bool true] w fun e w' => e = .returned (.agg #[.int .i64 m.f0, .int .i64 m.f1, .int .i64 m.f2, .int .i64 m.f3, .int .i64 m.f4, .int .i64 m.f5, .int .i64 m.f6, .slice A m.f7.length c]) ∧ Mem w w' [] := by
  have E1 := Aside0.mk h1
  have e2 : (r.f1 == 1) = true := by simpa using h2
  clear h1 h2
  have H := Aside0.mk h
  have HC := Aside0.mk hc
  have HS := Aside0.mk hs
  have M1 := Aside0.mk ((((Mem.nil w).alloc #[.int .i64 r.f0, .int .i64 r.f1, .int .i64 r.f2, .int .i64 r.f3, .int .i64 r.f4, .slice A5 r.f5.length c5, .int .i64 r.f6, .slice A7 r.f7.length c7, .slice A8 r.f8.length c8, .slice A9 r.f9.length c9, .slice A10 r.f10.length c10, .int .i64 r.f11, .int .i64 r.f12] 45).allocAt #[.int .i64 m.f0, .int .i64 m.f1, .int .i64 m.f2, .int .i64 m.f3, .int .i64 m.f4, .int .i64 m.f5, .int .i64 m.f6, .slice A m.f7.length c] 29 (w.heap.size + 1) (by simp)).allocAt #[.int .i64 0, .int .i64 0, .int .i64 0, .int .i64 0, .int .i64 0, .int .i64 0, .int .i64 0, .slice none 0 0] 29 (w.heap.size + 2) (by simp))
  clear h hc hs
  go_enter Try.func41, Try.ntmps41
  go_wp2_with fail
  refine (May11_any r A5 A7 A8 A9 A10 c5 c7 c8 c9 c10 _ (H.out.below M1.out.below) HC.out HS.out).mono ?_
  rintro e w1 ⟨he, hb⟩
  rw [E1.out] at he
  subst he
  have M2 := Aside0.mk (M1.out.grow hb)
  clear hb M1
  have cZ := blk_cell (M2.out.blk_at 0 rfl)
  have fZ := blk_frozen (M2.out.blk_at 0 rfl)
  have cM := blk_cell (M2.out.blk_at 1 rfl)
  have cR := blk_cell (M2.out.blk_at 2 rfl)
  go_wp2_with fail
  all_goals
    have MF := (M2.out.setRow 0 rfl [.int .i64 m.f0, .int .i64 m.f1, .int .i64 m.f2, .int .i64 m.f3, .int .i64 m.f4, .int .i64 m.f5, .int .i64 m.f6, .slice A m.f7.length c] rfl)
    have hgF := MF.blk_at 0 rfl
    refine bodyPost_ret (results_cell_row rfl _ _ (w.heap.size + 2) 29 #[.int .i64 m.f0, .int .i64 m.f1, .int .i64 m.f2, .int .i64 m.f3, .int .i64 m.f4, .int .i64 m.f5, .int .i64 m.f6, .slice A m.f7.length c] (0, 0) _ rfl hgF Try.underlying29 rfl (by kernel_rfl)) rfl ?_
    exact ⟨rfl, Mem.sel (ps := [_, _, _]) (F := []) [] 3 MF rfl rfl⟩
set_option maxRecDepth 100000 in
set_option maxHeartbeats 4000000 in
theorem fitted_same (r : Rep) (m : Msg) (A5 A7 A8 A9 A10 A : Option Addr) (c5 c7 c8 c9 c10 c : Nat) (w : World) (h : RdRep w r A5 A7 A8 A9 A10) (hc : Fit r c5 c7 c8 c9 c10) (hs : r.f5.length ≤ 9223372036854775807 ∧ r.f7.length ≤ 9223372036854775807 ∧ r.f8.length ≤ 9223372036854775807 ∧ r.f9.length ≤ 9223372036854775807 ∧ r.f10.length ≤ 9223372036854775807) (h1 : may r = true) (h2 : ¬ r.f1 = 1) (hn : ¬ r.f1 = 0) (g1 : ¬ m.f1 < 0) (g2 : m.f1 < r.f1) (g3 : ¬ m.f1 = r.f0) :
    Calls Try.prog 41 #[.agg #[.int .i64 r.f0, .int .i64 r.f1, .int .i64 r.f2, .int .i64 r.f3, .int .i64 r.f4, .slice A5 r.f5.length c5, .int .i64 r.f6, .slice A7 r.f7.length c7, .slice A8 r.f8.length c8, .slice A9 r.f9.length c9, .slice A10 r.f10.length c10, .int .i64 r.f11, .int .i64 r.f12], .agg #[.int .i64 m.f0, .int .i64 m.f1, .int .i64 m.f2, .int .i64 m.f3, .int .i64 m.f4, .int .i64 m.f5, .int .i64 m.f6, .slice A m.f7.length c], .bool true] w fun e w' => ∃ m' : Msg, m'.f0 = m.f0 ∧ m'.f7 = m.f7 ∧ e = .returned (.agg #[.int .i64 m'.f0, .int .i64 m'.f1, .int .i64 m'.f2, .int .i64 m'.f3, .int .i64 m'.f4, .int .i64 m'.f5, .int .i64 m'.f6, .slice A m'.f7.length c]) ∧ Mem w w' [] := by
  have E1 := Aside0.mk h1
  have e2 : (r.f1 == 1) = false := by simpa using h2
  have en : (r.f1 == 0) = false := by simpa using hn
  have e3 : decide (m.f1 < 0) = false := decide_eq_false g1
  have e4 : decide (r.f1 ≤ m.f1) = false := by simp; omega
  have e5 : (m.f1 == r.f0) = false := by simpa using g3
  clear g1 g2 g3
  clear h1 h2
  have H := Aside0.mk h
  have HC := Aside0.mk hc
  have HS := Aside0.mk hs
  have M1 := Aside0.mk ((((Mem.nil w).alloc #[.int .i64 r.f0, .int .i64 r.f1, .int .i64 r.f2, .int .i64 r.f3, .int .i64 r.f4, .slice A5 r.f5.length c5, .int .i64 r.f6, .slice A7 r.f7.length c7, .slice A8 r.f8.length c8, .slice A9 r.f9.length c9, .slice A10 r.f10.length c10, .int .i64 r.f11, .int .i64 r.f12] 45).allocAt #[.int .i64 m.f0, .int .i64 m.f1, .int .i64 m.f2, .int .i64 m.f3, .int .i64 m.f4, .int .i64 m.f5, .int .i64 m.f6, .slice A m.f7.length c] 29 (w.heap.size + 1) (by simp)).allocAt #[.int .i64 0, .int .i64 0, .int .i64 0, .int .i64 0, .int .i64 0, .int .i64 0, .int .i64 0, .slice none 0 0] 29 (w.heap.size + 2) (by simp))
  clear h hc hs
  go_enter Try.func41, Try.ntmps41
  go_wp2_with fail
  refine (May11_any r A5 A7 A8 A9 A10 c5 c7 c8 c9 c10 _ (H.out.below M1.out.below) HC.out HS.out).mono ?_
  rintro e w1 ⟨he, hb⟩
  rw [E1.out] at he
  subst he
  have M2 := Aside0.mk (M1.out.grow hb)
  clear hb M1
  have cZ := blk_cell (M2.out.blk_at 0 rfl)
  have fZ := blk_frozen (M2.out.blk_at 0 rfl)
  have cM := blk_cell (M2.out.blk_at 1 rfl)
  have cR := blk_cell (M2.out.blk_at 2 rfl)
  have fM := blk_frozen (M2.out.blk_at 1 rfl)
  go_upto_region 7 with (fail)
  generalize wrap64 (wrap64 (r.f2 + wrap64 ((IntKind.u64.wrap m.f3).tmod 3)) - 1) = V
  generalize (if (1099511627775 : Int) < V then (1099511627775 : Int) else V) = U
  generalize (if (0 : Int) < U then U else (0 : Int)) = y
  go_wp2
  have MF := ((M2.out.set 1 rfl 2 (.int .i64 r.f0)).set 1 rfl 3 (.int .i64 y)).setRow 0 rfl [.int .i64 m.f0, .int .i64 m.f1, .int .i64 r.f0, .int .i64 y, .int .i64 m.f4, .int .i64 m.f5, .int .i64 m.f6, .slice A m.f7.length c] rfl
  have hgF := MF.blk_at 0 rfl
  refine bodyPost_ret (results_cell_row rfl _ _ (w.heap.size + 2) 29 #[.int .i64 m.f0, .int .i64 m.f1, .int .i64 r.f0, .int .i64 y, .int .i64 m.f4, .int .i64 m.f5, .int .i64 m.f6, .slice A m.f7.length c] (0, 0) _ rfl hgF Try.underlying29 rfl (by kernel_rfl)) rfl ?_
  exact ⟨⟨m.f0, m.f1, r.f0, y, m.f4, m.f5, m.f6, m.f7⟩, rfl, rfl, rfl, Mem.sel (ps := [_, _, _]) (F := []) [] 3 MF rfl rfl⟩
set_option maxRecDepth 100000 in
set_option maxHeartbeats 4000000 in
theorem fitted_neg (r : Rep) (m : Msg) (A5 A7 A8 A9 A10 A : Option Addr) (c5 c7 c8 c9 c10 c : Nat) (w : World) (h : RdRep w r A5 A7 A8 A9 A10) (hc : Fit r c5 c7 c8 c9 c10) (hs : r.f5.length ≤ 9223372036854775807 ∧ r.f7.length ≤ 9223372036854775807 ∧ r.f8.length ≤ 9223372036854775807 ∧ r.f9.length ≤ 9223372036854775807 ∧ r.f10.length ≤ 9223372036854775807) (h1 : may r = true) (h2 : ¬ r.f1 = 1) (hn : ¬ r.f1 = 0) (g1 : m.f1 < 0) :
    Calls Try.prog 41 #[.agg #[.int .i64 r.f0, .int .i64 r.f1, .int .i64 r.f2, .int .i64 r.f3, .int .i64 r.f4, .slice A5 r.f5.length c5, .int .i64 r.f6, .slice A7 r.f7.length c7, .slice A8 r.f8.length c8, .slice A9 r.f9.length c9, .slice A10 r.f10.length c10, .int .i64 r.f11, .int .i64 r.f12], .agg #[.int .i64 m.f0, .int .i64 m.f1, .int .i64 m.f2, .int .i64 m.f3, .int .i64 m.f4, .int .i64 m.f5, .int .i64 m.f6, .slice A m.f7.length c], .bool true] w fun e w' => ∃ m' : Msg, m'.f0 = m.f0 ∧ m'.f7 = m.f7 ∧ e = .returned (.agg #[.int .i64 m'.f0, .int .i64 m'.f1, .int .i64 m'.f2, .int .i64 m'.f3, .int .i64 m'.f4, .int .i64 m'.f5, .int .i64 m'.f6, .slice A m'.f7.length c]) ∧ Mem w w' [] := by
  have E1 := Aside0.mk h1
  have e2 : (r.f1 == 1) = false := by simpa using h2
  have en : (r.f1 == 0) = false := by simpa using hn
  have e3 : decide (m.f1 < 0) = true := decide_eq_true g1
  clear g1
  clear h1 h2
  have H := Aside0.mk h
  have HC := Aside0.mk hc
  have HS := Aside0.mk hs
  have M1 := Aside0.mk ((((Mem.nil w).alloc #[.int .i64 r.f0, .int .i64 r.f1, .int .i64 r.f2, .int .i64 r.f3, .int .i64 r.f4, .slice A5 r.f5.length c5, .int .i64 r.f6, .slice A7 r.f7.length c7, .slice A8 r.f8.length c8, .slice A9 r.f9.length c9, .slice A10 r.f10.length c10, .int .i64 r.f11, .int .i64 r.f12] 45).allocAt #[.int .i64 m.f0, .int .i64 m.f1, .int .i64 m.f2, .int .i64 m.f3, .int .i64 m.f4, .int .i64 m.f5, .int .i64 m.f6, .slice A m.f7.length c] 29 (w.heap.size + 1) (by simp)).allocAt #[.int .i64 0, .int .i64 0, .int .i64 0, .int .i64 0, .int .i64 0, .int .i64 0, .int .i64 0, .slice none 0 0] 29 (w.heap.size + 2) (by simp))
  clear h hc hs
  go_enter Try.func41, Try.ntmps41
  go_wp2_with fail
  refine (May11_any r A5 A7 A8 A9 A10 c5 c7 c8 c9 c10 _ (H.out.below M1.out.below) HC.out HS.out).mono ?_
  rintro e w1 ⟨he, hb⟩
  rw [E1.out] at he
  subst he
  have M2 := Aside0.mk (M1.out.grow hb)
  clear hb M1
  have cZ := blk_cell (M2.out.blk_at 0 rfl)
  have fZ := blk_frozen (M2.out.blk_at 0 rfl)
  have cM := blk_cell (M2.out.blk_at 1 rfl)
  have cR := blk_cell (M2.out.blk_at 2 rfl)
  have fM := blk_frozen (M2.out.blk_at 1 rfl)
  go_upto_region 7 with (fail)
  generalize wrap64 (wrap64 (r.f2 + wrap64 ((IntKind.u64.wrap m.f3).tmod 3)) - 1) = V
  generalize (if (1099511627775 : Int) < V then (1099511627775 : Int) else V) = U
  generalize (if (0 : Int) < U then U else (0 : Int)) = y
  generalize Int.tmod (wrap64 (r.f0 + 1)) r.f1 = x
  go_wp2
  have MF := (((M2.out.set 1 rfl 2 (.int .i64 r.f0)).set 1 rfl 1 (.int .i64 x)).set 1 rfl 3 (.int .i64 y)).setRow 0 rfl [.int .i64 m.f0, .int .i64 x, .int .i64 r.f0, .int .i64 y, .int .i64 m.f4, .int .i64 m.f5, .int .i64 m.f6, .slice A m.f7.length c] rfl
  have hgF := MF.blk_at 0 rfl
  refine bodyPost_ret (results_cell_row rfl _ _ (w.heap.size + 2) 29 #[.int .i64 m.f0, .int .i64 x, .int .i64 r.f0, .int .i64 y, .int .i64 m.f4, .int .i64 m.f5, .int .i64 m.f6, .slice A m.f7.length c] (0, 0) _ rfl hgF Try.underlying29 rfl (by kernel_rfl)) rfl ?_
  exact ⟨⟨m.f0, x, r.f0, y, m.f4, m.f5, m.f6, m.f7⟩, rfl, rfl, rfl, Mem.sel (ps := [_, _, _]) (F := []) [] 3 MF rfl rfl⟩
set_option maxRecDepth 100000 in
set_option maxHeartbeats 4000000 in
theorem fitted_big (r : Rep) (m : Msg) (A5 A7 A8 A9 A10 A : Option Addr) (c5 c7 c8 c9 c10 c : Nat) (w : World) (h : RdRep w r A5 A7 A8 A9 A10) (hc : Fit r c5 c7 c8 c9 c10) (hs : r.f5.length ≤ 9223372036854775807 ∧ r.f7.length ≤ 9223372036854775807 ∧ r.f8.length ≤ 9223372036854775807 ∧ r.f9.length ≤ 9223372036854775807 ∧ r.f10.length ≤ 9223372036854775807) (h1 : may r = true) (h2 : ¬ r.f1 = 1) (hn : ¬ r.f1 = 0) (g1 : ¬ m.f1 < 0) (g2 : ¬ m.f1 < r.f1) :
    Calls Try.prog 41 #[.agg #[.int .i64 r.f0, .int .i64 r.f1, .int .i64 r.f2, .int .i64 r.f3, .int .i64 r.f4, .slice A5 r.f5.length c5, .int .i64 r.f6, .slice A7 r.f7.length c7, .slice A8 r.f8.length c8, .slice A9 r.f9.length c9, .slice A10 r.f10.length c10, .int .i64 r.f11, .int .i64 r.f12], .agg #[.int .i64 m.f0, .int .i64 m.f1, .int .i64 m.f2, .int .i64 m.f3, .int .i64 m.f4, .int .i64 m.f5, .int .i64 m.f6, .slice A m.f7.length c], .bool true] w fun e w' => ∃ m' : Msg, m'.f0 = m.f0 ∧ m'.f7 = m.f7 ∧ e = .returned (.agg #[.int .i64 m'.f0, .int .i64 m'.f1, .int .i64 m'.f2, .int .i64 m'.f3, .int .i64 m'.f4, .int .i64 m'.f5, .int .i64 m'.f6, .slice A m'.f7.length c]) ∧ Mem w w' [] := by
  have E1 := Aside0.mk h1
  have e2 : (r.f1 == 1) = false := by simpa using h2
  have en : (r.f1 == 0) = false := by simpa using hn
  have e3 : decide (m.f1 < 0) = false := decide_eq_false g1
  have e4 : decide (r.f1 ≤ m.f1) = true := by simp; omega
  clear g1 g2
  clear h1 h2
  have H := Aside0.mk h
  have HC := Aside0.mk hc
  have HS := Aside0.mk hs
  have M1 := Aside0.mk ((((Mem.nil w).alloc #[.int .i64 r.f0, .int .i64 r.f1, .int .i64 r.f2, .int .i64 r.f3, .int .i64 r.f4, .slice A5 r.f5.length c5, .int .i64 r.f6, .slice A7 r.f7.length c7, .slice A8 r.f8.length c8, .slice A9 r.f9.length c9, .slice A10 r.f10.length c10, .int .i64 r.f11, .int .i64 r.f12] 45).allocAt #[.int .i64 m.f0, .int .i64 m.f1, .int .i64 m.f2, .int .i64 m.f3, .int .i64 m.f4, .int .i64 m.f5, .int .i64 m.f6, .slice A m.f7.length c] 29 (w.heap.size + 1) (by simp)).allocAt #[.int .i64 0, .int .i64 0, .int .i64 0, .int .i64 0, .int .i64 0, .int .i64 0, .int .i64 0, .slice none 0 0] 29 (w.heap.size + 2) (by simp))
  clear h hc hs
  go_enter Try.func41, Try.ntmps41
  go_wp2_with fail
  refine (May11_any r A5 A7 A8 A9 A10 c5 c7 c8 c9 c10 _ (H.out.below M1.out.below) HC.out HS.out).mono ?_
  rintro e w1 ⟨he, hb⟩
  rw [E1.out] at he
  subst he
  have M2 := Aside0.mk (M1.out.grow hb)
  clear hb M1
  have cZ := blk_cell (M2.out.blk_at 0 rfl)
  have fZ := blk_frozen (M2.out.blk_at 0 rfl)
  have cM := blk_cell (M2.out.blk_at 1 rfl)
  have cR := blk_cell (M2.out.blk_at 2 rfl)
  have fM := blk_frozen (M2.out.blk_at 1 rfl)
  go_upto_region 7 with (fail)
  generalize wrap64 (wrap64 (r.f2 + wrap64 ((IntKind.u64.wrap m.f3).tmod 3)) - 1) = V
  generalize (if (1099511627775 : Int) < V then (1099511627775 : Int) else V) = U
  generalize (if (0 : Int) < U then U else (0 : Int)) = y
  generalize Int.tmod (wrap64 (r.f0 + 1)) r.f1 = x
  go_wp2
  have MF := (((M2.out.set 1 rfl 2 (.int .i64 r.f0)).set 1 rfl 1 (.int .i64 x)).set 1 rfl 3 (.int .i64 y)).setRow 0 rfl [.int .i64 m.f0, .int .i64 x, .int .i64 r.f0, .int .i64 y, .int .i64 m.f4, .int .i64 m.f5, .int .i64 m.f6, .slice A m.f7.length c] rfl
  have hgF := MF.blk_at 0 rfl
  refine bodyPost_ret (results_cell_row rfl _ _ (w.heap.size + 2) 29 #[.int .i64 m.f0, .int .i64 x, .int .i64 r.f0, .int .i64 y, .int .i64 m.f4, .int .i64 m.f5, .int .i64 m.f6, .slice A m.f7.length c] (0, 0) _ rfl hgF Try.underlying29 rfl (by kernel_rfl)) rfl ?_
  exact ⟨⟨m.f0, x, r.f0, y, m.f4, m.f5, m.f6, m.f7⟩, rfl, rfl, rfl, Mem.sel (ps := [_, _, _]) (F := []) [] 3 MF rfl rfl⟩
set_option maxRecDepth 100000 in
set_option maxHeartbeats 4000000 in
theorem fitted_self (r : Rep) (m : Msg) (A5 A7 A8 A9 A10 A : Option Addr) (c5 c7 c8 c9 c10 c : Nat) (w : World) (h : RdRep w r A5 A7 A8 A9 A10) (hc : Fit r c5 c7 c8 c9 c10) (hs : r.f5.length ≤ 9223372036854775807 ∧ r.f7.length ≤ 9223372036854775807 ∧ r.f8.length ≤ 9223372036854775807 ∧ r.f9.length ≤ 9223372036854775807 ∧ r.f10.length ≤ 9223372036854775807) (h1 : may r = true) (h2 : ¬ r.f1 = 1) (hn : ¬ r.f1 = 0) (g1 : ¬ m.f1 < 0) (g2 : m.f1 < r.f1) (g3 : m.f1 = r.f0) :
    Calls Try.prog 41 #[.agg #[.int .i64 r.f0, .int .i64 r.f1, .int .i64 r.f2, .int .i64 r.f3, .int .i64 r.f4, .slice A5 r.f5.length c5, .int .i64 r.f6, .slice A7 r.f7.length c7, .slice A8 r.f8.length c8, .slice A9 r.f9.length c9, .slice A10 r.f10.length c10, .int .i64 r.f11, .int .i64 r.f12], .agg #[.int .i64 m.f0, .int .i64 m.f1, .int .i64 m.f2, .int .i64 m.f3, .int .i64 m.f4, .int .i64 m.f5, .int .i64 m.f6, .slice A m.f7.length c], .bool true] w fun e w' => ∃ m' : Msg, m'.f0 = m.f0 ∧ m'.f7 = m.f7 ∧ e = .returned (.agg #[.int .i64 m'.f0, .int .i64 m'.f1, .int .i64 m'.f2, .int .i64 m'.f3, .int .i64 m'.f4, .int .i64 m'.f5, .int .i64 m'.f6, .slice A m'.f7.length c]) ∧ Mem w w' [] := by
  have E1 := Aside0.mk h1
  have e2 : (r.f1 == 1) = false := by simpa using h2
  have en : (r.f1 == 0) = false := by simpa using hn
  have e3 : decide (m.f1 < 0) = false := decide_eq_false g1
  have e4 : decide (r.f1 ≤ m.f1) = false := by simp; omega
  have e5 : (m.f1 == r.f0) = true := by simpa using g3
  clear g1 g2 g3
  clear h1 h2
  have H := Aside0.mk h
  have HC := Aside0.mk hc
  have HS := Aside0.mk hs
  have M1 := Aside0.mk ((((Mem.nil w).alloc #[.int .i64 r.f0, .int .i64 r.f1, .int .i64 r.f2, .int .i64 r.f3, .int .i64 r.f4, .slice A5 r.f5.length c5, .int .i64 r.f6, .slice A7 r.f7.length c7, .slice A8 r.f8.length c8, .slice A9 r.f9.length c9, .slice A10 r.f10.length c10, .int .i64 r.f11, .int .i64 r.f12] 45).allocAt #[.int .i64 m.f0, .int .i64 m.f1, .int .i64 m.f2, .int .i64 m.f3, .int .i64 m.f4, .int .i64 m.f5, .int .i64 m.f6, .slice A m.f7.length c] 29 (w.heap.size + 1) (by simp)).allocAt #[.int .i64 0, .int .i64 0, .int .i64 0, .int .i64 0, .int .i64 0, .int .i64 0, .int .i64 0, .slice none 0 0] 29 (w.heap.size + 2) (by simp))
  clear h hc hs
  go_enter Try.func41, Try.ntmps41
  go_wp2_with fail
  refine (May11_any r A5 A7 A8 A9 A10 c5 c7 c8 c9 c10 _ (H.out.below M1.out.below) HC.out HS.out).mono ?_
  rintro e w1 ⟨he, hb⟩
  rw [E1.out] at he
  subst he
  have M2 := Aside0.mk (M1.out.grow hb)
  clear hb M1
  have cZ := blk_cell (M2.out.blk_at 0 rfl)
  have fZ := blk_frozen (M2.out.blk_at 0 rfl)
  have cM := blk_cell (M2.out.blk_at 1 rfl)
  have cR := blk_cell (M2.out.blk_at 2 rfl)
  have fM := blk_frozen (M2.out.blk_at 1 rfl)
  go_upto_region 7 with (fail)
  generalize wrap64 (wrap64 (r.f2 + wrap64 ((IntKind.u64.wrap m.f3).tmod 3)) - 1) = V
  generalize (if (1099511627775 : Int) < V then (1099511627775 : Int) else V) = U
  generalize (if (0 : Int) < U then U else (0 : Int)) = y
  generalize Int.tmod (wrap64 (r.f0 + 1)) r.f1 = x
  go_wp2
  have MF := (((M2.out.set 1 rfl 2 (.int .i64 r.f0)).set 1 rfl 1 (.int .i64 x)).set 1 rfl 3 (.int .i64 y)).setRow 0 rfl [.int .i64 m.f0, .int .i64 x, .int .i64 r.f0, .int .i64 y, .int .i64 m.f4, .int .i64 m.f5, .int .i64 m.f6, .slice A m.f7.length c] rfl
  have hgF := MF.blk_at 0 rfl
  refine bodyPost_ret (results_cell_row rfl _ _ (w.heap.size + 2) 29 #[.int .i64 m.f0, .int .i64 x, .int .i64 r.f0, .int .i64 y, .int .i64 m.f4, .int .i64 m.f5, .int .i64 m.f6, .slice A m.f7.length c] (0, 0) _ rfl hgF Try.underlying29 rfl (by kernel_rfl)) rfl ?_
  exact ⟨⟨m.f0, x, r.f0, y, m.f4, m.f5, m.f6, m.f7⟩, rfl, rfl, rfl, Mem.sel (ps := [_, _, _]) (F := []) [] 3 MF rfl rfl⟩
/-- Some message of the same kind, with the same log. -/
theorem fitted_calls (r : Rep) (m : Msg) (A5 A7 A8 A9 A10 A : Option Addr) (c5 c7 c8 c9 c10 c : Nat) (w : World) (h : RdRep w r A5 A7 A8 A9 A10) (hc : Fit r c5 c7 c8 c9 c10) (hs : r.f5.length ≤ 9223372036854775807 ∧ r.f7.length ≤ 9223372036854775807 ∧ r.f8.length ≤ 9223372036854775807 ∧ r.f9.length ≤ 9223372036854775807 ∧ r.f10.length ≤ 9223372036854775807) :
    Calls Try.prog 41 #[.agg #[.int .i64 r.f0, .int .i64 r.f1, .int .i64 r.f2, .int .i64 r.f3, .int .i64 r.f4, .slice A5 r.f5.length c5, .int .i64 r.f6, .slice A7 r.f7.length c7, .slice A8 r.f8.length c8, .slice A9 r.f9.length c9, .slice A10 r.f10.length c10, .int .i64 r.f11, .int .i64 r.f12], .agg #[.int .i64 m.f0, .int .i64 m.f1, .int .i64 m.f2, .int .i64 m.f3, .int .i64 m.f4, .int .i64 m.f5, .int .i64 m.f6, .slice A m.f7.length c], .bool true] w fun e w' => ∃ m' : Msg, m'.f0 = m.f0 ∧ m'.f7 = m.f7 ∧ e = .returned (.agg #[.int .i64 m'.f0, .int .i64 m'.f1, .int .i64 m'.f2, .int .i64 m'.f3, .int .i64 m'.f4, .int .i64 m'.f5, .int .i64 m'.f6, .slice A m'.f7.length c]) ∧ Mem w w' [] := by
  cases h1 : may r with
  | false => exact (fitted_may r m A5 A7 A8 A9 A10 A c5 c7 c8 c9 c10 c w h hc hs h1).mono fun e w' q => ⟨m, rfl, rfl, q.1, q.2⟩
  | true =>
    by_cases h2 : r.f1 = 1
    · exact (fitted_one r m A5 A7 A8 A9 A10 A c5 c7 c8 c9 c10 c w h hc hs h1 h2).mono fun e w' q => ⟨m, rfl, rfl, q.1, q.2⟩
    have hn : ¬ r.f1 = 0 := by
      intro h0
      have := ((may_iff r).1 h1).1
      rw [h0] at this
      exact absurd this (by decide)
    by_cases g1 : m.f1 < 0
    · exact fitted_neg r m A5 A7 A8 A9 A10 A c5 c7 c8 c9 c10 c w h hc hs h1 h2 hn g1
    by_cases g2 : m.f1 < r.f1
    · by_cases g3 : m.f1 = r.f0
      · exact fitted_self r m A5 A7 A8 A9 A10 A c5 c7 c8 c9 c10 c w h hc hs h1 h2 hn g1 g2 g3
      · exact fitted_same r m A5 A7 A8 A9 A10 A c5 c7 c8 c9 c10 c w h hc hs h1 h2 hn g1 g2 g3
    · exact fitted_big r m A5 A7 A8 A9 A10 A c5 c7 c8 c9 c10 c w h hc hs h1 h2 hn g1 g2
end Go.Proofs.Ytggbjokhniigkaa.Fi
