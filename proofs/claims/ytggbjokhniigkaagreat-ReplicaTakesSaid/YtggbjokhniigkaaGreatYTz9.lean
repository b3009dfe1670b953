/- Texts laid together: Ve, Fi, Rd, Tk. No condition. -/
import Derived.Test.YtggbjokhniigkaaGreatYTz7
import Derived.Test.YtggbjokhniigkaaGreatYTz8
set_option linter.unusedVariables false
set_option linter.unusedSimpArgs false
set_option maxRecDepth 100000
set_option maxHeartbeats 8000000
namespace Go.Proofs.YtggbjokhniigkaaGreat.Ve
open Ty Go.RowKit YtggbjokhniigkaaGreatW.PrintWords YtggbjokhniigkaaGreatW.PrintLast YtggbjokhniigkaaGreatW.PrintMore Mx Kx Wa Wb Wc Wj Va Vb Vc Wd PReplicaTakes
theorem May11_any (r : Rep) (A5 A7 A8 A9 A10 : Option Addr) (c5 c7 c8 c9 c10 : Nat) (w : World) (h : RdRep w r A5 A7 A8 A9 A10) (hc : Fit r c5 c7 c8 c9 c10) (hs : r.f5.length ≤ 9223372036854775807 ∧ r.f7.length ≤ 9223372036854775807 ∧ r.f8.length ≤ 9223372036854775807 ∧ r.f9.length ≤ 9223372036854775807 ∧ r.f10.length ≤ 9223372036854775807) :
    Calls Tryz.prog 39 #[.agg (Kx.rA r A5 A7 A8 A9 A10 c5 c7 c8 c9 c10)] w fun e w' => e = .returned (.bool (may r)) ∧ Below w.heap.size w w' :=
  (Hm.May_calls11 r A5 A7 A8 A9 A10 c5 c7 c8 c9 c10 w h hs).mono fun _ _ h => ⟨h.1, h.2.below⟩
theorem May11_calls (r : Rep) (A5 A7 A8 A9 A10 : Option Addr) (c5 c7 c8 c9 c10 : Nat) (w : World) (h : RdRep w r A5 A7 A8 A9 A10) (hc : Fit r c5 c7 c8 c9 c10) (hs : r.f5.length ≤ 1200 ∧ r.f7.length ≤ 20 ∧ r.f8.length ≤ 20 ∧ r.f9.length ≤ 20 ∧ r.f10.length ≤ 1200) :
    Calls Tryz.prog 39 #[.agg (Kx.rA r A5 A7 A8 A9 A10 c5 c7 c8 c9 c10)] w fun e w' => e = .returned (.bool (may r)) ∧ Below w.heap.size w w' :=
  May11_any r A5 A7 A8 A9 A10 c5 c7 c8 c9 c10 w h hc ⟨Nat.le_trans hs.1 (by decide), Nat.le_trans hs.2.1 (by decide), Nat.le_trans hs.2.2.1 (by decide), Nat.le_trans hs.2.2.2.1 (by decide), Nat.le_trans hs.2.2.2.2 (by decide)⟩
end Go.Proofs.YtggbjokhniigkaaGreat.Ve
namespace Go.Proofs.YtggbjokhniigkaaGreat.Fi
open Ty Go.RowKit YtggbjokhniigkaaGreatW.PrintWords YtggbjokhniigkaaGreatW.PrintLast YtggbjokhniigkaaGreatW.PrintMore Mx Kx Wa Wb Wd Vc Ve
theorem fitted_may (r : Rep) (m : Msg) (A5 A7 A8 A9 A10 A : Option Addr) (c5 c7 c8 c9 c10 c : Nat) (w : World) (h : RdRep w r A5 A7 A8 A9 A10) (hc : Fit r c5 c7 c8 c9 c10) (hs : r.f5.length ≤ 9223372036854775807 ∧ r.f7.length ≤ 9223372036854775807 ∧ r.f8.length ≤ 9223372036854775807 ∧ r.f9.length ≤ 9223372036854775807 ∧ r.f10.length ≤ 9223372036854775807) (h1 : may r = false) :
    Calls Tryz.prog 16 #[.agg (Kx.rA r A5 A7 A8 A9 A10 c5 c7 c8 c9 c10), .agg (Kx.mA m A c), .bool true] w fun e w' => e = .returned (.agg (Kx.mA m A c)) ∧ Mem w w' [] := by
  have E1 := Aside0.mk h1
  clear h1
  have H := Aside0.mk h
  have HC := Aside0.mk hc
  have HS := Aside0.mk hs
  have M1 := Aside0.mk ((((Mem.nil w).alloc (Kx.rA r A5 A7 A8 A9 A10 c5 c7 c8 c9 c10) 25).allocAt (Kx.mA m A c) 27 (w.heap.size + 1) (by simp)).allocAt #[.int .i64 0, .int .i64 0, .int .i64 0, .int .i64 0, .int .i64 0, .int .i64 0, .int .i64 0, .slice none 0 0] 27 (w.heap.size + 2) (by simp))
  clear h hc hs
  go_enter Tryz.func16, Tryz.ntmps16
  go_wp2_with fail
  refine (May11_any r A5 A7 A8 A9 A10 c5 c7 c8 c9 c10 _ (H.out.below M1.out.below) HC.out HS.out).mono ?_
  rintro e w1 ⟨he, hb⟩
  rw [E1.out] at he
  subst he
  have M2 := Aside0.mk (M1.out.grow hb)
  clear hb M1
  have cZ := blk_cell (M2.out.blk_at 0 rfl)
  have fZ := blk_frozen (M2.out.blk_at 0 rfl)
  have cM := blk_cell (M2.out.blk_at 1 rfl)
  have cR := blk_cell (M2.out.blk_at 2 rfl)
  go_wp2_with fail
  all_goals
    have MF := (M2.out.setRow 0 rfl [.int .i64 m.f0, .int .i64 m.f1, .int .i64 m.f2, .int .i64 m.f3, .int .i64 m.f4, .int .i64 m.f5, .int .i64 m.f6, .slice A m.f7.length c] rfl)
    have hgF := MF.blk_at 0 rfl
    refine bodyPost_ret (results_cell_row rfl _ _ (w.heap.size + 2) 27 (Kx.mA m A c) (0, 0) _ rfl hgF Tryz.underlying27 rfl (by kernel_rfl)) rfl ?_
    exact ⟨rfl, Mem.sel (ps := [_, _, _]) (F := []) [] 3 MF rfl rfl⟩
theorem fitted_one (r : Rep) (m : Msg) (A5 A7 A8 A9 A10 A : Option Addr) (c5 c7 c8 c9 c10 c : Nat) (w : World) (h : RdRep w r A5 A7 A8 A9 A10) (hc : Fit r c5 c7 c8 c9 c10) (hs : r.f5.length ≤ 9223372036854775807 ∧ r.f7.length ≤ 9223372036854775807 ∧ r.f8.length ≤ 9223372036854775807 ∧ r.f9.length ≤ 9223372036854775807 ∧ r.f10.length ≤ 9223372036854775807) (h1 : may r = true) (h2 : r.f1 = 1) :
    Calls Tryz.prog 16 #[.agg (Kx.rA r A5 A7 A8 A9 A10 c5 c7 c8 c9 c10), .agg (Kx.mA m A c), .bool true] w fun e w' => e = .returned (.agg (Kx.mA m A c)) ∧ Mem w w' [] := by
  have E1 := Aside0.mk h1
  have e2 : (r.f1 == 1) = true := by simpa using h2
  clear h1 h2
  have H := Aside0.mk h
  have HC := Aside0.mk hc
  have HS := Aside0.mk hs
  have M1 := Aside0.mk ((((Mem.nil w).alloc (Kx.rA r A5 A7 A8 A9 A10 c5 c7 c8 c9 c10) 25).allocAt (Kx.mA m A c) 27 (w.heap.size + 1) (by simp)).allocAt #[.int .i64 0, .int .i64 0, .int .i64 0, .int .i64 0, .int .i64 0, .int .i64 0, .int .i64 0, .slice none 0 0] 27 (w.heap.size + 2) (by simp))
  clear h hc hs
  go_enter Tryz.func16, Tryz.ntmps16
  go_wp2_with fail
  refine (May11_any r A5 A7 A8 A9 A10 c5 c7 c8 c9 c10 _ (H.out.below M1.out.below) HC.out HS.out).mono ?_
  rintro e w1 ⟨he, hb⟩
  rw [E1.out] at he
  subst he
  have M2 := Aside0.mk (M1.out.grow hb)
  clear hb M1
  have cZ := blk_cell (M2.out.blk_at 0 rfl)
  have fZ := blk_frozen (M2.out.blk_at 0 rfl)
  have cM := blk_cell (M2.out.blk_at 1 rfl)
  have cR := blk_cell (M2.out.blk_at 2 rfl)
  go_wp2_with fail
  all_goals
    have MF := (M2.out.setRow 0 rfl [.int .i64 m.f0, .int .i64 m.f1, .int .i64 m.f2, .int .i64 m.f3, .int .i64 m.f4, .int .i64 m.f5, .int .i64 m.f6, .slice A m.f7.length c] rfl)
    have hgF := MF.blk_at 0 rfl
    refine bodyPost_ret (results_cell_row rfl _ _ (w.heap.size + 2) 27 (Kx.mA m A c) (0, 0) _ rfl hgF Tryz.underlying27 rfl (by kernel_rfl)) rfl ?_
    exact ⟨rfl, Mem.sel (ps := [_, _, _]) (F := []) [] 3 MF rfl rfl⟩
theorem fitted_same (r : Rep) (m : Msg) (A5 A7 A8 A9 A10 A : Option Addr) (c5 c7 c8 c9 c10 c : Nat) (w : World) (h : RdRep w r A5 A7 A8 A9 A10) (hc : Fit r c5 c7 c8 c9 c10) (hs : r.f5.length ≤ 9223372036854775807 ∧ r.f7.length ≤ 9223372036854775807 ∧ r.f8.length ≤ 9223372036854775807 ∧ r.f9.length ≤ 9223372036854775807 ∧ r.f10.length ≤ 9223372036854775807) (h1 : may r = true) (h2 : ¬ r.f1 = 1) (hn : ¬ r.f1 = 0) (g1 : ¬ m.f1 < 0) (g2 : m.f1 < r.f1) (g3 : ¬ m.f1 = r.f0) :
    Calls Tryz.prog 16 #[.agg (Kx.rA r A5 A7 A8 A9 A10 c5 c7 c8 c9 c10), .agg (Kx.mA m A c), .bool true] w fun e w' => ∃ m' : Msg, m'.f0 = m.f0 ∧ m'.f7 = m.f7 ∧ e = .returned (.agg #[.int .i64 m'.f0, .int .i64 m'.f1, .int .i64 m'.f2, .int .i64 m'.f3, .int .i64 m'.f4, .int .i64 m'.f5, .int .i64 m'.f6, .slice A m'.f7.length c]) ∧ Mem w w' [] := by
  have E1 := Aside0.mk h1
  have e2 : (r.f1 == 1) = false := by simpa using h2
  have en : (r.f1 == 0) = false := by simpa using hn
  have e3 : decide (m.f1 < 0) = false := decide_eq_false g1
  have e4 : decide (r.f1 ≤ m.f1) = false := by simp; omega
  have e5 : (m.f1 == r.f0) = false := by simpa using g3
  clear g1 g2 g3
  clear h1 h2
  have H := Aside0.mk h
  have HC := Aside0.mk hc
  have HS := Aside0.mk hs
  have M1 := Aside0.mk ((((Mem.nil w).alloc (Kx.rA r A5 A7 A8 A9 A10 c5 c7 c8 c9 c10) 25).allocAt (Kx.mA m A c) 27 (w.heap.size + 1) (by simp)).allocAt #[.int .i64 0, .int .i64 0, .int .i64 0, .int .i64 0, .int .i64 0, .int .i64 0, .int .i64 0, .slice none 0 0] 27 (w.heap.size + 2) (by simp))
  clear h hc hs
  go_enter Tryz.func16, Tryz.ntmps16
  go_wp2_with fail
  refine (May11_any r A5 A7 A8 A9 A10 c5 c7 c8 c9 c10 _ (H.out.below M1.out.below) HC.out HS.out).mono ?_
  rintro e w1 ⟨he, hb⟩
  rw [E1.out] at he
  subst he
  have M2 := Aside0.mk (M1.out.grow hb)
  clear hb M1
  have cZ := blk_cell (M2.out.blk_at 0 rfl)
  have fZ := blk_frozen (M2.out.blk_at 0 rfl)
  have cM := blk_cell (M2.out.blk_at 1 rfl)
  have cR := blk_cell (M2.out.blk_at 2 rfl)
  have fM := blk_frozen (M2.out.blk_at 1 rfl)
  go_upto_region 7 with (fail)
  generalize wrap64 (wrap64 (r.f2 + wrap64 ((IntKind.u64.wrap m.f3).tmod 3)) - 1) = V
  generalize (if (1099511627775 : Int) < V then (1099511627775 : Int) else V) = U
  generalize (if (0 : Int) < U then U else (0 : Int)) = y
  go_wp2
  have MF := ((M2.out.set 1 rfl 2 (.int .i64 r.f0)).set 1 rfl 3 (.int .i64 y)).setRow 0 rfl [.int .i64 m.f0, .int .i64 m.f1, .int .i64 r.f0, .int .i64 y, .int .i64 m.f4, .int .i64 m.f5, .int .i64 m.f6, .slice A m.f7.length c] rfl
  have hgF := MF.blk_at 0 rfl
  refine bodyPost_ret (results_cell_row rfl _ _ (w.heap.size + 2) 27 #[.int .i64 m.f0, .int .i64 m.f1, .int .i64 r.f0, .int .i64 y, .int .i64 m.f4, .int .i64 m.f5, .int .i64 m.f6, .slice A m.f7.length c] (0, 0) _ rfl hgF Tryz.underlying27 rfl (by kernel_rfl)) rfl ?_
  exact ⟨⟨m.f0, m.f1, r.f0, y, m.f4, m.f5, m.f6, m.f7⟩, rfl, rfl, rfl, Mem.sel (ps := [_, _, _]) (F := []) [] 3 MF rfl rfl⟩
theorem fitted_neg (r : Rep) (m : Msg) (A5 A7 A8 A9 A10 A : Option Addr) (c5 c7 c8 c9 c10 c : Nat) (w : World) (h : RdRep w r A5 A7 A8 A9 A10) (hc : Fit r c5 c7 c8 c9 c10) (hs : r.f5.length ≤ 9223372036854775807 ∧ r.f7.length ≤ 9223372036854775807 ∧ r.f8.length ≤ 9223372036854775807 ∧ r.f9.length ≤ 9223372036854775807 ∧ r.f10.length ≤ 9223372036854775807) (h1 : may r = true) (h2 : ¬ r.f1 = 1) (hn : ¬ r.f1 = 0) (g1 : m.f1 < 0) :
    Calls Tryz.prog 16 #[.agg (Kx.rA r A5 A7 A8 A9 A10 c5 c7 c8 c9 c10), .agg (Kx.mA m A c), .bool true] w fun e w' => ∃ m' : Msg, m'.f0 = m.f0 ∧ m'.f7 = m.f7 ∧ e = .returned (.agg #[.int .i64 m'.f0, .int .i64 m'.f1, .int .i64 m'.f2, .int .i64 m'.f3, .int .i64 m'.f4, .int .i64 m'.f5, .int .i64 m'.f6, .slice A m'.f7.length c]) ∧ Mem w w' [] := by
  have E1 := Aside0.mk h1
  have e2 : (r.f1 == 1) = false := by simpa using h2
  have en : (r.f1 == 0) = false := by simpa using hn
  have e3 : decide (m.f1 < 0) = true := decide_eq_true g1
  clear g1
  clear h1 h2
  have H := Aside0.mk h
  have HC := Aside0.mk hc
  have HS := Aside0.mk hs
  have M1 := Aside0.mk ((((Mem.nil w).alloc (Kx.rA r A5 A7 A8 A9 A10 c5 c7 c8 c9 c10) 25).allocAt (Kx.mA m A c) 27 (w.heap.size + 1) (by simp)).allocAt #[.int .i64 0, .int .i64 0, .int .i64 0, .int .i64 0, .int .i64 0, .int .i64 0, .int .i64 0, .slice none 0 0] 27 (w.heap.size + 2) (by simp))
  clear h hc hs
  go_enter Tryz.func16, Tryz.ntmps16
  go_wp2_with fail
  refine (May11_any r A5 A7 A8 A9 A10 c5 c7 c8 c9 c10 _ (H.out.below M1.out.below) HC.out HS.out).mono ?_
  rintro e w1 ⟨he, hb⟩
  rw [E1.out] at he
  subst he
  have M2 := Aside0.mk (M1.out.grow hb)
  clear hb M1
  have cZ := blk_cell (M2.out.blk_at 0 rfl)
  have fZ := blk_frozen (M2.out.blk_at 0 rfl)
  have cM := blk_cell (M2.out.blk_at 1 rfl)
  have cR := blk_cell (M2.out.blk_at 2 rfl)
  have fM := blk_frozen (M2.out.blk_at 1 rfl)
  go_upto_region 7 with (fail)
  generalize wrap64 (wrap64 (r.f2 + wrap64 ((IntKind.u64.wrap m.f3).tmod 3)) - 1) = V
  generalize (if (1099511627775 : Int) < V then (1099511627775 : Int) else V) = U
  generalize (if (0 : Int) < U then U else (0 : Int)) = y
  generalize Int.tmod (wrap64 (r.f0 + 1)) r.f1 = x
  go_wp2
  have MF := (((M2.out.set 1 rfl 2 (.int .i64 r.f0)).set 1 rfl 1 (.int .i64 x)).set 1 rfl 3 (.int .i64 y)).setRow 0 rfl [.int .i64 m.f0, .int .i64 x, .int .i64 r.f0, .int .i64 y, .int .i64 m.f4, .int .i64 m.f5, .int .i64 m.f6, .slice A m.f7.length c] rfl
  have hgF := MF.blk_at 0 rfl
  refine bodyPost_ret (results_cell_row rfl _ _ (w.heap.size + 2) 27 #[.int .i64 m.f0, .int .i64 x, .int .i64 r.f0, .int .i64 y, .int .i64 m.f4, .int .i64 m.f5, .int .i64 m.f6, .slice A m.f7.length c] (0, 0) _ rfl hgF Tryz.underlying27 rfl (by kernel_rfl)) rfl ?_
  exact ⟨⟨m.f0, x, r.f0, y, m.f4, m.f5, m.f6, m.f7⟩, rfl, rfl, rfl, Mem.sel (ps := [_, _, _]) (F := []) [] 3 MF rfl rfl⟩
theorem fitted_big (r : Rep) (m : Msg) (A5 A7 A8 A9 A10 A : Option Addr) (c5 c7 c8 c9 c10 c : Nat) (w : World) (h : RdRep w r A5 A7 A8 A9 A10) (hc : Fit r c5 c7 c8 c9 c10) (hs : r.f5.length ≤ 9223372036854775807 ∧ r.f7.length ≤ 9223372036854775807 ∧ r.f8.length ≤ 9223372036854775807 ∧ r.f9.length ≤ 9223372036854775807 ∧ r.f10.length ≤ 9223372036854775807) (h1 : may r = true) (h2 : ¬ r.f1 = 1) (hn : ¬ r.f1 = 0) (g1 : ¬ m.f1 < 0) (g2 : ¬ m.f1 < r.f1) :
    Calls Tryz.prog 16 #[.agg (Kx.rA r A5 A7 A8 A9 A10 c5 c7 c8 c9 c10), .agg (Kx.mA m A c), .bool true] w fun e w' => ∃ m' : Msg, m'.f0 = m.f0 ∧ m'.f7 = m.f7 ∧ e = .returned (.agg #[.int .i64 m'.f0, .int .i64 m'.f1, .int .i64 m'.f2, .int .i64 m'.f3, .int .i64 m'.f4, .int .i64 m'.f5, .int .i64 m'.f6, .slice A m'.f7.length c]) ∧ Mem w w' [] := by
  have E1 := Aside0.mk h1
  have e2 : (r.f1 == 1) = false := by simpa using h2
  have en : (r.f1 == 0) = false := by simpa using hn
  have e3 : decide (m.f1 < 0) = false := decide_eq_false g1
  have e4 : decide (r.f1 ≤ m.f1) = true := by simp; omega
  clear g1 g2
  clear h1 h2
  have H := Aside0.mk h
  have HC := Aside0.mk hc
  have HS := Aside0.mk hs
  have M1 := Aside0.mk ((((Mem.nil w).alloc (Kx.rA r A5 A7 A8 A9 A10 c5 c7 c8 c9 c10) 25).allocAt (Kx.mA m A c) 27 (w.heap.size + 1) (by simp)).allocAt #[.int .i64 0, .int .i64 0, .int .i64 0, .int .i64 0, .int .i64 0, .int .i64 0, .int .i64 0, .slice none 0 0] 27 (w.heap.size + 2) (by simp))
  clear h hc hs
  go_enter Tryz.func16, Tryz.ntmps16
  go_wp2_with fail
  refine (May11_any r A5 A7 A8 A9 A10 c5 c7 c8 c9 c10 _ (H.out.below M1.out.below) HC.out HS.out).mono ?_
  rintro e w1 ⟨he, hb⟩
  rw [E1.out] at he
  subst he
  have M2 := Aside0.mk (M1.out.grow hb)
  clear hb M1
  have cZ := blk_cell (M2.out.blk_at 0 rfl)
  have fZ := blk_frozen (M2.out.blk_at 0 rfl)
  have cM := blk_cell (M2.out.blk_at 1 rfl)
  have cR := blk_cell (M2.out.blk_at 2 rfl)
  have fM := blk_frozen (M2.out.blk_at 1 rfl)
  go_upto_region 7 with (fail)
  generalize wrap64 (wrap64 (r.f2 + wrap64 ((IntKind.u64.wrap m.f3).tmod 3)) - 1) = V
  generalize (if (1099511627775 : Int) < V then (1099511627775 : Int) else V) = U
  generalize (if (0 : Int) < U then U else (0 : Int)) = y
  generalize Int.tmod (wrap64 (r.f0 + 1)) r.f1 = x
  go_wp2
  have MF := (((M2.out.set 1 rfl 2 (.int .i64 r.f0)).set 1 rfl 1 (.int .i64 x)).set 1 rfl 3 (.int .i64 y)).setRow 0 rfl [.int .i64 m.f0, .int .i64 x, .int .i64 r.f0, .int .i64 y, .int .i64 m.f4, .int .i64 m.f5, .int .i64 m.f6, .slice A m.f7.length c] rfl
  have hgF := MF.blk_at 0 rfl
  refine bodyPost_ret (results_cell_row rfl _ _ (w.heap.size + 2) 27 #[.int .i64 m.f0, .int .i64 x, .int .i64 r.f0, .int .i64 y, .int .i64 m.f4, .int .i64 m.f5, .int .i64 m.f6, .slice A m.f7.length c] (0, 0) _ rfl hgF Tryz.underlying27 rfl (by kernel_rfl)) rfl ?_
  exact ⟨⟨m.f0, x, r.f0, y, m.f4, m.f5, m.f6, m.f7⟩, rfl, rfl, rfl, Mem.sel (ps := [_, _, _]) (F := []) [] 3 MF rfl rfl⟩
theorem fitted_self (r : Rep) (m : Msg) (A5 A7 A8 A9 A10 A : Option Addr) (c5 c7 c8 c9 c10 c : Nat) (w : World) (h : RdRep w r A5 A7 A8 A9 A10) (hc : Fit r c5 c7 c8 c9 c10) (hs : r.f5.length ≤ 9223372036854775807 ∧ r.f7.length ≤ 9223372036854775807 ∧ r.f8.length ≤ 9223372036854775807 ∧ r.f9.length ≤ 9223372036854775807 ∧ r.f10.length ≤ 9223372036854775807) (h1 : may r = true) (h2 : ¬ r.f1 = 1) (hn : ¬ r.f1 = 0) (g1 : ¬ m.f1 < 0) (g2 : m.f1 < r.f1) (g3 : m.f1 = r.f0) :
    Calls Tryz.prog 16 #[.agg (Kx.rA r A5 A7 A8 A9 A10 c5 c7 c8 c9 c10), .agg (Kx.mA m A c), .bool true] w fun e w' => ∃ m' : Msg, m'.f0 = m.f0 ∧ m'.f7 = m.f7 ∧ e = .returned (.agg #[.int .i64 m'.f0, .int .i64 m'.f1, .int .i64 m'.f2, .int .i64 m'.f3, .int .i64 m'.f4, .int .i64 m'.f5, .int .i64 m'.f6, .slice A m'.f7.length c]) ∧ Mem w w' [] := by
  have E1 := Aside0.mk h1
  have e2 : (r.f1 == 1) = false := by simpa using h2
  have en : (r.f1 == 0) = false := by simpa using hn
  have e3 : decide (m.f1 < 0) = false := decide_eq_false g1
  have e4 : decide (r.f1 ≤ m.f1) = false := by simp; omega
  have e5 : (m.f1 == r.f0) = true := by simpa using g3
  clear g1 g2 g3
  clear h1 h2
  have H := Aside0.mk h
  have HC := Aside0.mk hc
  have HS := Aside0.mk hs
  have M1 := Aside0.mk ((((Mem.nil w).alloc (Kx.rA r A5 A7 A8 A9 A10 c5 c7 c8 c9 c10) 25).allocAt (Kx.mA m A c) 27 (w.heap.size + 1) (by simp)).allocAt #[.int .i64 0, .int .i64 0, .int .i64 0, .int .i64 0, .int .i64 0, .int .i64 0, .int .i64 0, .slice none 0 0] 27 (w.heap.size + 2) (by simp))
  clear h hc hs
  go_enter Tryz.func16, Tryz.ntmps16
  go_wp2_with fail
  refine (May11_any r A5 A7 A8 A9 A10 c5 c7 c8 c9 c10 _ (H.out.below M1.out.below) HC.out HS.out).mono ?_
  rintro e w1 ⟨he, hb⟩
  rw [E1.out] at he
  subst he
  have M2 := Aside0.mk (M1.out.grow hb)
  clear hb M1
  have cZ := blk_cell (M2.out.blk_at 0 rfl)
  have fZ := blk_frozen (M2.out.blk_at 0 rfl)
  have cM := blk_cell (M2.out.blk_at 1 rfl)
  have cR := blk_cell (M2.out.blk_at 2 rfl)
  have fM := blk_frozen (M2.out.blk_at 1 rfl)
  go_upto_region 7 with (fail)
  generalize wrap64 (wrap64 (r.f2 + wrap64 ((IntKind.u64.wrap m.f3).tmod 3)) - 1) = V
  generalize (if (1099511627775 : Int) < V then (1099511627775 : Int) else V) = U
  generalize (if (0 : Int) < U then U else (0 : Int)) = y
  generalize Int.tmod (wrap64 (r.f0 + 1)) r.f1 = x
  go_wp2
  have MF := (((M2.out.set 1 rfl 2 (.int .i64 r.f0)).set 1 rfl 1 (.int .i64 x)).set 1 rfl 3 (.int .i64 y)).setRow 0 rfl [.int .i64 m.f0, .int .i64 x, .int .i64 r.f0, .int .i64 y, .int .i64 m.f4, .int .i64 m.f5, .int .i64 m.f6, .slice A m.f7.length c] rfl
  have hgF := MF.blk_at 0 rfl
  refine bodyPost_ret (results_cell_row rfl _ _ (w.heap.size + 2) 27 #[.int .i64 m.f0, .int .i64 x, .int .i64 r.f0, .int .i64 y, .int .i64 m.f4, .int .i64 m.f5, .int .i64 m.f6, .slice A m.f7.length c] (0, 0) _ rfl hgF Tryz.underlying27 rfl (by kernel_rfl)) rfl ?_
  exact ⟨⟨m.f0, x, r.f0, y, m.f4, m.f5, m.f6, m.f7⟩, rfl, rfl, rfl, Mem.sel (ps := [_, _, _]) (F := []) [] 3 MF rfl rfl⟩
/-- Some message of the same kind, with the same log. -/
theorem fitted_calls (r : Rep) (m : Msg) (A5 A7 A8 A9 A10 A : Option Addr) (c5 c7 c8 c9 c10 c : Nat) (w : World) (h : RdRep w r A5 A7 A8 A9 A10) (hc : Fit r c5 c7 c8 c9 c10) (hs : r.f5.length ≤ 9223372036854775807 ∧ r.f7.length ≤ 9223372036854775807 ∧ r.f8.length ≤ 9223372036854775807 ∧ r.f9.length ≤ 9223372036854775807 ∧ r.f10.length ≤ 9223372036854775807) :
    Calls Tryz.prog 16 #[.agg (Kx.rA r A5 A7 A8 A9 A10 c5 c7 c8 c9 c10), .agg (Kx.mA m A c), .bool true] w fun e w' => ∃ m' : Msg, m'.f0 = m.f0 ∧ m'.f7 = m.f7 ∧ e = .returned (.agg #[.int .i64 m'.f0, .int .i64 m'.f1, .int .i64 m'.f2, .int .i64 m'.f3, .int .i64 m'.f4, .int .i64 m'.f5, .int .i64 m'.f6, .slice A m'.f7.length c]) ∧ Mem w w' [] := by
  cases h1 : may r with
  | false => exact (fitted_may r m A5 A7 A8 A9 A10 A c5 c7 c8 c9 c10 c w h hc hs h1).mono fun e w' q => ⟨m, rfl, rfl, q.1, q.2⟩
  | true =>
    by_cases h2 : r.f1 = 1
    · exact (fitted_one r m A5 A7 A8 A9 A10 A c5 c7 c8 c9 c10 c w h hc hs h1 h2).mono fun e w' q => ⟨m, rfl, rfl, q.1, q.2⟩
    have hn : ¬ r.f1 = 0 := by
      intro h0
      have := ((may_iff r).1 h1).1
      rw [h0] at this
      exact absurd this (by decide)
    by_cases g1 : m.f1 < 0
    · exact fitted_neg r m A5 A7 A8 A9 A10 A c5 c7 c8 c9 c10 c w h hc hs h1 h2 hn g1
    by_cases g2 : m.f1 < r.f1
    · by_cases g3 : m.f1 = r.f0
      · exact fitted_self r m A5 A7 A8 A9 A10 A c5 c7 c8 c9 c10 c w h hc hs h1 h2 hn g1 g2 g3
      · exact fitted_same r m A5 A7 A8 A9 A10 A c5 c7 c8 c9 c10 c w h hc hs h1 h2 hn g1 g2 g3
    · exact fitted_big r m A5 A7 A8 A9 A10 A c5 c7 c8 c9 c10 c w h hc hs h1 h2 hn g1 g2
end Go.Proofs.YtggbjokhniigkaaGreat.Fi
namespace Go.Proofs.YtggbjokhniigkaaGreat.Rd
open Ty Go.RowKit YtggbjokhniigkaaGreatW.PrintWords YtggbjokhniigkaaGreatW.PrintLast YtggbjokhniigkaaGreatW.PrintMore Mx Kx Wa Wd
theorem Copy11_calls (r : Rep) (A5 A7 A8 A9 A10 : Option Addr) (c5 c7 c8 c9 c10 : Nat) (w : World) (h : RdRep w r A5 A7 A8 A9 A10) (hn : Small r) :
    Calls Tryz.prog 33 #[.agg (Kx.rA r A5 A7 A8 A9 A10 c5 c7 c8 c9 c10)] w fun e w' =>
      ∃ v5 v7 v8 v9 v10 : Value, e = .returned (.agg (rc r v5 v7 v8 v9 v10)) ∧ Mem w w' (rows r v5 v7 v8 v9 v10) := by
  have H := Aside0.mk h
  obtain ⟨n5, n7, n8, n9, n10⟩ := hn
  have N5 := Aside0.mk n5
  have N7 := Aside0.mk n7
  have N8 := Aside0.mk n8
  have N9 := Aside0.mk n9
  have N10 := Aside0.mk n10
  have M0 := Aside0.mk (((Mem.nil w).alloc (Kx.rA r A5 A7 A8 A9 A10 c5 c7 c8 c9 c10) 25).allocAt #[.int .i64 0, .int .i64 0, .int .i64 0, .int .i64 0, .int .i64 0, .slice none 0 0, .int .i64 0, .slice none 0 0, .slice none 0 0, .slice none 0 0, .slice none 0 0, .int .i64 0, .int .i64 0] 25 (w.heap.size + 1) (by simp))
  have G0 := Aside0.mk (show (w.heap.size + 2) = (w.heap.size + 2) from rfl)
  clear h n5 n7 n8 n9 n10
  go_enter Tryz.func33, Tryz.ntmps33
  go_upto_region 2 with (((with_reducible refine gate_builtin (b := .append) (xs := #[.tmp 3, .tmp 5]) rfl ?_); at_builtin; refine Mem.app kE ((M0.out.allocAt #[] 68 (w.heap.size + 2) (by simp)).lit 0 kE [] rfl (Reps.none _ _) (by decide)) 0 _ [] r.f5 rfl (.tmp 3) (.tmp 5) 22 68 _ _ rfl Tryz.underlying22 infoEntry rfl (by decide) (by omega) A5 _ c5 rfl rfl rfl (Kd.C_alloc (Kd.C_below H.out.h5 M0.out.below) _) (fun x cs h => h) (by have := N5.out; simp; omega) ?_; intro v1 w1 hM; have K1 := Aside0.mk (show Mem _ _ (row kE _ v1 r.f5 :: _) from hM); clear hM; obtain ⟨B5, d5, he, _, _⟩ := K1.out.row_at 0 rfl; subst he; have cB := blk_cell (K1.out.blk_at 2 rfl); have fB := blk_frozen (K1.out.blk_at 2 rfl); have hB := blk_lt (K1.out.blk_at 2 rfl)))
  have M1 := Aside0.mk (K1.out.set 2 rfl 5 (.slice B5 r.f5.length d5))
  go_upto_region 3 with (((with_reducible refine gate_builtin (b := .append) (xs := #[.tmp 8, .tmp 10]) rfl ?_); at_builtin; refine Mem.app (Kd.int .i64) ((M1.out.allocAt #[] 3 w1.heap.size (by simp)).lit 0 (Kd.int .i64) [] rfl (Reps.none _ _) (by decide)) 0 _ [] r.f7 rfl (.tmp 8) (.tmp 10) 23 3 _ _ rfl Tryz.underlying23 infoInt rfl (by decide) (by omega) A7 _ c7 rfl rfl rfl (Kd.C_alloc (Kd.C_below H.out.h7 M1.out.below) _) (fun x cs h => h) (by have := N7.out; simp; omega) ?_; intro v2 w2 hM; have K2 := Aside0.mk (show Mem _ _ (row (Kd.int .i64) _ v2 r.f7 :: _) from hM); clear hM; obtain ⟨B7, d7, he, _, _⟩ := K2.out.row_at 0 rfl; subst he; clear cB fB hB; have cB := blk_cell (K2.out.blk_at 3 rfl); have fB := blk_frozen (K2.out.blk_at 3 rfl); have hB := blk_lt (K2.out.blk_at 3 rfl)))
  have M2 := Aside0.mk (K2.out.set 3 rfl 7 (.slice B7 r.f7.length d7))
  go_upto_region 4 with (((with_reducible refine gate_builtin (b := .append) (xs := #[.tmp 13, .tmp 15]) rfl ?_); at_builtin; refine Mem.app (Kd.int .i64) ((M2.out.allocAt #[] 3 w2.heap.size (by simp)).lit 0 (Kd.int .i64) [] rfl (Reps.none _ _) (by decide)) 0 _ [] r.f8 rfl (.tmp 13) (.tmp 15) 23 3 _ _ rfl Tryz.underlying23 infoInt rfl (by decide) (by omega) A8 _ c8 rfl rfl rfl (Kd.C_alloc (Kd.C_below H.out.h8 M2.out.below) _) (fun x cs h => h) (by have := N8.out; simp; omega) ?_; intro v3 w3 hM; have K3 := Aside0.mk (show Mem _ _ (row (Kd.int .i64) _ v3 r.f8 :: _) from hM); clear hM; obtain ⟨B8, d8, he, _, _⟩ := K3.out.row_at 0 rfl; subst he; clear cB fB hB; have cB := blk_cell (K3.out.blk_at 4 rfl); have fB := blk_frozen (K3.out.blk_at 4 rfl); have hB := blk_lt (K3.out.blk_at 4 rfl)))
  have M3 := Aside0.mk (K3.out.set 4 rfl 8 (.slice B8 r.f8.length d8))
  go_upto_region 5 with (((with_reducible refine gate_builtin (b := .append) (xs := #[.tmp 18, .tmp 20]) rfl ?_); at_builtin; refine Mem.app (Kd.int .i64) ((M3.out.allocAt #[] 3 w3.heap.size (by simp)).lit 0 (Kd.int .i64) [] rfl (Reps.none _ _) (by decide)) 0 _ [] r.f9 rfl (.tmp 18) (.tmp 20) 23 3 _ _ rfl Tryz.underlying23 infoInt rfl (by decide) (by omega) A9 _ c9 rfl rfl rfl (Kd.C_alloc (Kd.C_below H.out.h9 M3.out.below) _) (fun x cs h => h) (by have := N9.out; simp; omega) ?_; intro v4 w4 hM; have K4 := Aside0.mk (show Mem _ _ (row (Kd.int .i64) _ v4 r.f9 :: _) from hM); clear hM; obtain ⟨B9, d9, he, _, _⟩ := K4.out.row_at 0 rfl; subst he; clear cB fB hB; have cB := blk_cell (K4.out.blk_at 5 rfl); have fB := blk_frozen (K4.out.blk_at 5 rfl); have hB := blk_lt (K4.out.blk_at 5 rfl)))
  have M4 := Aside0.mk (K4.out.set 5 rfl 9 (.slice B9 r.f9.length d9))
  go_upto_region 6 with (((with_reducible refine gate_builtin (b := .append) (xs := #[.tmp 23, .tmp 25]) rfl ?_); at_builtin; refine Mem.app kE ((M4.out.allocAt #[] 68 w4.heap.size (by simp)).lit 0 kE [] rfl (Reps.none _ _) (by decide)) 0 _ [] r.f10 rfl (.tmp 23) (.tmp 25) 22 68 _ _ rfl Tryz.underlying22 infoEntry rfl (by decide) (by omega) A10 _ c10 rfl rfl rfl (Kd.C_alloc (Kd.C_below H.out.h10 M4.out.below) _) (fun x cs h => h) (by have := N10.out; simp; omega) ?_; intro v5 w5 hM; have K5 := Aside0.mk (show Mem _ _ (row kE _ v5 r.f10 :: _) from hM); clear hM; obtain ⟨B10, d10, he, _, _⟩ := K5.out.row_at 0 rfl; subst he; clear cB fB hB; have cB := blk_cell (K5.out.blk_at 6 rfl); have fB := blk_frozen (K5.out.blk_at 6 rfl); have hB := blk_lt (K5.out.blk_at 6 rfl)))
  have M5 := Aside0.mk (K5.out.set 6 rfl 10 (.slice B10 r.f10.length d10))
  have cZ := blk_cell (K5.out.blk_at 5 rfl)
  have fZ := blk_frozen (K5.out.blk_at 5 rfl)
  have hZ := blk_lt (K5.out.blk_at 5 rfl)
  go_wp2
  have M6 := M5.out.setRow 5 rfl [.int .i64 r.f0, .int .i64 r.f1, .int .i64 r.f2, .int .i64 r.f3, .int .i64 r.f4, .slice B5 r.f5.length d5, .int .i64 r.f6, .slice B7 r.f7.length d7, .slice B8 r.f8.length d8, .slice B9 r.f9.length d9, .slice B10 r.f10.length d10, .int .i64 r.f11, .int .i64 r.f12] rfl
  have hg6 := M6.blk_at 5 rfl
  refine bodyPost_ret (results_cell_row rfl _ _ (w.heap.size + 1) 25 #[.int .i64 r.f0, .int .i64 r.f1, .int .i64 r.f2, .int .i64 r.f3, .int .i64 r.f4, .slice B5 r.f5.length d5, .int .i64 r.f6, .slice B7 r.f7.length d7, .slice B8 r.f8.length d8, .slice B9 r.f9.length d9, .slice B10 r.f10.length d10, .int .i64 r.f11, .int .i64 r.f12] (0, 0) _ rfl hg6 Tryz.underlying25 rfl (by kernel_rfl)) rfl ?_
  exact ⟨_, _, _, _, _, rfl, Mem.sel (ps := [_, _, _, _, _, _, _]) (F := []) [4, 3, 2, 1, 0] 7 M6 rfl rfl⟩
end Go.Proofs.YtggbjokhniigkaaGreat.Rd
namespace Go.Proofs.YtggbjokhniigkaaGreat.Tk
open Ty
def most (n : Int) : Int := n / 2 + 1
def mayMsgP (r : Rep) (m : Msg) : Prop :=
  1 ≤ m.f0 ∧ m.f0 ≤ 8 ∧ 0 ≤ m.f1 ∧ m.f1 < r.f1 ∧ m.f1 ≠ r.f0 ∧ m.f2 = r.f0 ∧ below m.f3 = true ∧ below m.f4 = true ∧ below m.f5 = true ∧ below m.f6 = true ∧ log m.f7 = true ∧ (m.f0 = 1 → m.f7.length = 1)
instance (r : Rep) (m : Msg) : Decidable (mayMsgP r m) := by unfold mayMsgP; exact inferInstance
/-- Where a number is, or would be, among rising ones. -/
def place (l : List Int) (k : Int) : Nat := (l.takeWhile (fun x => decide (x < k))).length
def insertId (l : List Int) (k : Int) : List Int := l.take (place l k) ++ k :: l.drop (place l k)
/-- What most have. -/
def quorum (l : List Int) (n : Int) : Int := (l.mergeSort (fun a b => decide (a ≤ b))).getD (n - most n).toNat 0
def better (r : Rep) (was : Int) (lg : List Entry) : Prop := r.f11 < was ∨ (was = r.f11 ∧ r.f10.length < lg.length)
instance (r : Rep) (was : Int) (lg : List Entry) : Decidable (better r was lg) := by unfold better; exact inferInstance
/-- A state is counted. -/
def counted (r : Rep) (frm was commit : Int) (lg : List Entry) : Rep :=
  { r with f9 := insertId r.f9 frm, f10 := if better r was lg then lg else r.f10, f11 := if better r was lg then was else r.f11, f12 := min (max r.f12 commit) ((if better r was lg then lg else r.f10).length : Int) }
def states (r : Rep) (frm was commit : Int) (lg : List Entry) : Rep × List Msg :=
  if frm ∈ r.f9 then (r, [])
  else
    let c := counted r frm was commit lg
    if (c.f9.length : Int) = most c.f1 then
      let d := normal c c.f2 c.f10 c.f12
      (d, toAll d ⟨6, 0, 0, 0, 0, d.f6, 0, d.f5⟩)
    else (c, [])
/-- A change to a view, if it is a later one. -/
def upTo (r : Rep) (view : Int) : Rep × List Msg := if r.f2 < view then (change r view, toAll (change r view) ⟨4, 0, 0, 0, 0, 0, 0, []⟩) else (r, [])
def tChange (r : Rep) (m : Msg) : Rep × List Msg :=
  if m.f3 < r.f2 then (r, [])
  else
    let s := (upTo r m.f3).1
    let l := (upTo r m.f3).2
    if s.f4 = 1 then
      if m.f1 ∈ s.f8 then (s, l)
      else
        let t := { s with f8 := insertId s.f8 m.f1 }
        if (t.f8.length : Int) = most t.f1 then
          if t.f2 % t.f1 = t.f0 then ((states t t.f0 t.f3 t.f6 t.f5).1, l ++ (states t t.f0 t.f3 t.f6 t.f5).2)
          else (t, l ++ [toOne t (t.f2 % t.f1) ⟨5, 0, 0, 0, 0, t.f6, t.f3, t.f5⟩])
        else (t, l)
    else (s, l)
def tState (r : Rep) (m : Msg) : Rep × List Msg :=
  if m.f3 < r.f2 ∨ m.f3 % r.f1 ≠ r.f0 then (r, [])
  else
    let s := (upTo r m.f3).1
    let l := (upTo r m.f3).2
    if s.f4 = 1 then ((states s m.f1 m.f6 m.f5 m.f7).1, l ++ (states s m.f1 m.f6 m.f5 m.f7).2)
    else (s, l)
def tView (r : Rep) (m : Msg) : Rep × List Msg :=
  if m.f3 < r.f2 ∨ m.f3 % r.f1 ≠ m.f1 ∨ (m.f3 = r.f2 ∧ r.f4 = 0) then (r, [])
  else
    let s := normal r m.f3 m.f7 m.f5
    (s, [toOne s m.f1 ⟨2, 0, 0, 0, (s.f5.length : Int), 0, 0, []⟩])
/-- An entry in its turn. -/
def entered (r : Rep) (m : Msg) : Rep :=
  if m.f0 = 1 ∧ m.f4 = (r.f5.length : Int) + 1 ∧ log (r.f5 ++ m.f7) = true then { r with f5 := r.f5 ++ m.f7 } else r
def tPrepare (r : Rep) (m : Msg) : Rep × List Msg :=
  if m.f3 < r.f2 ∨ m.f3 % r.f1 ≠ m.f1 then (r, [])
  else if r.f2 < m.f3 ∨ r.f4 ≠ 0 then
    let s := { clear r with f2 := m.f3, f4 := 2 }
    (s, [toOne s m.f1 ⟨7, 0, 0, 0, s.f6, 0, 0, []⟩])
  else
    let s := raise (entered r m) m.f5
    (s, if m.f0 = 1 ∧ m.f4 ≤ (s.f5.length : Int) then [toOne s m.f1 ⟨2, 0, 0, 0, (s.f5.length : Int), 0, 0, []⟩]
        else if m.f0 = 1 ∨ (s.f5.length : Int) < m.f5 then [toOne s m.f1 ⟨7, 0, 0, 0, (s.f5.length : Int), 0, 0, []⟩] else [])
def tPrepared (r : Rep) (m : Msg) : Rep × List Msg :=
  if m.f3 ≠ r.f2 ∨ r.f4 ≠ 0 ∨ r.f2 % r.f1 ≠ r.f0 then (r, [])
  else
    let s := { r with f7 := r.f7.set m.f1.toNat (min (max (r.f7.getD m.f1.toNat 0) m.f4) (r.f5.length : Int)) }
    if s.f6 < quorum s.f7 s.f1 then
      let t := { s with f6 := quorum s.f7 s.f1 }
      (t, toAll t ⟨3, 0, 0, 0, 0, t.f6, 0, []⟩)
    else (s, [])
def tAsk (r : Rep) (m : Msg) : Rep × List Msg :=
  if m.f3 = r.f2 ∧ r.f4 = 0 ∧ m.f4 ≤ (r.f5.length : Int) then (r, [toOne r m.f1 ⟨8, 0, 0, 0, m.f4, r.f6, 0, r.f5.drop m.f4.toNat⟩]) else (r, [])
def told (r : Rep) (m : Msg) : List Msg := [toOne r m.f1 ⟨2, 0, 0, 0, (r.f5.length : Int), 0, 0, []⟩]
def tLog (r : Rep) (m : Msg) : Rep × List Msg :=
  if m.f3 ≠ r.f2 ∨ (r.f5.length : Int) < m.f4 then (r, [])
  else if r.f4 = 2 ∧ m.f4 ≤ r.f6 ∧ r.f6 ≤ m.f4 + (m.f7.length : Int) ∧ log (r.f5.take m.f4.toNat ++ m.f7) = true then
    let s := normal r r.f2 (r.f5.take m.f4.toNat ++ m.f7) m.f5
    (s, told s m)
  else if r.f4 = 0 ∧ r.f2 % r.f1 ≠ r.f0 then
    if (r.f5.length : Int) < m.f4 + (m.f7.length : Int) then
      if log (r.f5 ++ m.f7.drop (r.f5.length - m.f4.toNat)) = true then
        let s := raise { r with f5 := r.f5 ++ m.f7.drop (r.f5.length - m.f4.toNat) } m.f5
        (s, told s m)
      else (r, [])
    else (raise r m.f5, told (raise r m.f5) m)
  else (r, [])
def act (r : Rep) (m : Msg) : Rep × List Msg :=
  if m.f0 = 2 then tPrepared r m else if m.f0 = 4 then tChange r m else if m.f0 = 5 then tState r m else if m.f0 = 6 then tView r m else if m.f0 = 7 then tAsk r m else if m.f0 = 8 then tLog r m else tPrepare r m
def take (r : Rep) (m : Msg) : Rep × List Msg × Int :=
  if may r = true ∧ mayMsgP r m then ((act r m).1, (act r m).2, 0) else (r, [], 1)
end Go.Proofs.YtggbjokhniigkaaGreat.Tk
