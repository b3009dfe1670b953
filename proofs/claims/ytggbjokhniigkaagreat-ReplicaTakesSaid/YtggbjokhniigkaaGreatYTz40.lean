/- Texts laid together: Uc8, U9, LvT, LawRTakes. No condition. -/
import Derived.Test.YtggbjokhniigkaaGreatRows
import Derived.ChangeMaps5
import Derived.Deep.Slices
import Derived.Test.YtggbjokhniigkaaGreatYTz25
import Derived.Test.YtggbjokhniigkaaGreatYTz35
import Derived.Test.YtggbjokhniigkaaGreatYTz36
import Derived.Test.YtggbjokhniigkaaGreatYTz37
import Derived.Test.YtggbjokhniigkaaGreatYTz38
import Derived.Test.YtggbjokhniigkaaGreatYTz39
set_option linter.unusedVariables false
set_option linter.unusedSimpArgs false
set_option maxRecDepth 100000
set_option maxHeartbeats 8000000
namespace Go.Proofs.YtggbjokhniigkaaGreat.Uc8
open Ty Go.RowKit YtggbjokhniigkaaGreatW.PrintWords YtggbjokhniigkaaGreatW.PrintLast YtggbjokhniigkaaGreatW.PrintMore Mx Kx Wa Wd Vc Wj Tk Tb Tn Tz Ua Un Ub8 Tg Th Ti La Lb
theorem few_more {r : Rep} {l : List Entry} {k : Int} {msgs : List Msg} (hs : r.f5.length ≤ 1200 ∧ r.f7.length ≤ 20 ∧ r.f8.length ≤ 20 ∧ r.f9.length ≤ 20 ∧ r.f10.length ≤ 1200) (hl : l.length ≤ 1200) (h : msgs.length ≤ 1000000000 ∧ ∀ i, (rd_Msg msgs i).f7.length ≤ 1000000000) : FewOf (raise { r with f5 := r.f5 ++ l } k) msgs := by
  have e : (r.f5 ++ l).length = r.f5.length + l.length := List.length_append
  refine ⟨⟨?_, ?_, ?_, ?_, ?_, ?_⟩, h⟩
  · show (r.f5 ++ l).length ≤ _
    omega
  · show (r.f5 ++ l).length ≤ _
    omega
  · show r.f7.length ≤ _
    omega
  · show r.f8.length ≤ _
    omega
  · show r.f9.length ≤ _
    omega
  · show r.f10.length ≤ _
    omega
theorem few_keep {r : Rep} {k : Int} {msgs : List Msg} (hs : r.f5.length ≤ 1200 ∧ r.f7.length ≤ 20 ∧ r.f8.length ≤ 20 ∧ r.f9.length ≤ 20 ∧ r.f10.length ≤ 1200) (h : msgs.length ≤ 1000000000 ∧ ∀ i, (rd_Msg msgs i).f7.length ≤ 1000000000) : FewOf (raise r k) msgs := by
  refine ⟨⟨?_, ?_, ?_, ?_, ?_, ?_⟩, h⟩
  · show r.f5.length ≤ _
    omega
  · show r.f5.length ≤ _
    omega
  · show r.f7.length ≤ _
    omega
  · show r.f8.length ≤ _
    omega
  · show r.f9.length ≤ _
    omega
  · show r.f10.length ≤ _
    omega
theorem good_8 (r : Rep) (m : Msg) (A5 A7 A8 A9 A10 A : Option Addr) (c5 c7 c8 c9 c10 c : Nat) (hk : m.f0 = 8) (hc : Fit r c5 c7 c8 c9 c10) (hs : r.f5.length ≤ 1200 ∧ r.f7.length ≤ 20 ∧ r.f8.length ≤ 20 ∧ r.f9.length ≤ 20 ∧ r.f10.length ≤ 1200) (hln : m.f7.length ≤ 1200) (hlc : m.f7.length ≤ c) : TakesAs r m A5 A7 A8 A9 A10 A c5 c7 c8 c9 c10 c := by
  refine both_8 r m A5 A7 A8 A9 A10 A c5 c7 c8 c9 c10 c hk hc hs hln hlc fun h1 h2 => ?_
  have n := nums (by omega) (by omega) h1 h2
  have n0 : 0 < r.f1 := by have := n.i0; have := n.i1; omega
  clear hk
  by_cases a1 : m.f3 = r.f2
  case neg => exact ⟨r, [], few_same hs, fun w0 w F g v5 v7 v8 v9 v10 hM hl => log_l1 w0 w F g r m v5 v7 v8 v9 v10 A c hM ⟨n.x0, n.x1, hln, n.w0, n.w1, n0, n.n5⟩ a1, fun w0 w F g v5 v7 v8 v9 v10 hM hl => lack_l1 w0 w F g r m v5 v7 v8 v9 v10 A c hM ⟨n.x0, n.x1, hln, n.w0, n.w1, n0, n.n5⟩ a1⟩
  by_cases a2 : (r.f5.length : Int) < m.f4
  · exact ⟨r, [], few_same hs, fun w0 w F g v5 v7 v8 v9 v10 hM hl => log_l2 w0 w F g r m v5 v7 v8 v9 v10 A c hM ⟨n.x0, n.x1, hln, n.w0, n.w1, n0, n.n5⟩ a1 a2, fun w0 w F g v5 v7 v8 v9 v10 hM hl => lack_l2 w0 w F g r m v5 v7 v8 v9 v10 A c hM ⟨n.x0, n.x1, hln, n.w0, n.w1, n0, n.n5⟩ a1 a2⟩
  obtain ⟨k, hk⟩ : ∃ k : Nat, m.f4 = (k : Int) := ⟨m.f4.toNat, (Int.toNat_of_nonneg n.x0).symm⟩
  have hkn : k ≤ r.f5.length := by rw [hk] at a2; omega
  by_cases a3 : r.f4 = 2
  · by_cases a5 : m.f4 ≤ r.f6
    case neg => exact ⟨r, [], few_same hs, fun w0 w F g v5 v7 v8 v9 v10 hM hl => log_a1 w0 w F g r m v5 v7 v8 v9 v10 A c hM ⟨n.x0, n.x1, hln, n.w0, n.w1, n0, n.n5⟩ a1 a2 a3 a5, fun w0 w F g v5 v7 v8 v9 v10 hM hl => lack_a1 w0 w F g r m v5 v7 v8 v9 v10 A c hM ⟨n.x0, n.x1, hln, n.w0, n.w1, n0, n.n5⟩ a1 a2 a3 a5⟩
    by_cases a6 : r.f6 ≤ m.f4 + (m.f7.length : Int)
    case neg => exact ⟨r, [], few_same hs, fun w0 w F g v5 v7 v8 v9 v10 hM hl => log_a2 w0 w F g r m v5 v7 v8 v9 v10 A c hM ⟨n.x0, n.x1, hln, n.w0, n.w1, n0, n.n5⟩ a1 a2 a3 a5 a6, fun w0 w F g v5 v7 v8 v9 v10 hM hl => lack_a2 w0 w F g r m v5 v7 v8 v9 v10 A c hM ⟨n.x0, n.x1, hln, n.w0, n.w1, n0, n.n5⟩ a1 a2 a3 a5 a6⟩
    rw [hk] at a5 a6
    have hlen : (r.f5.take k ++ m.f7).length ≤ 1000000 := by rw [List.length_append, List.length_take]; have := hs.1; omega
    cases hb : log (r.f5.take k ++ m.f7) with
    | false => exact ⟨r, [], few_same hs, fun w0 w F g v5 v7 v8 v9 v10 hM hl => log_a3 w0 w F g r m v5 v7 v8 v9 v10 A c hM k ⟨hl, hlc, hs.1, hk, hkn, hln, n.c1, n.w0, n.w1, n.i0, n.i1, n.n5⟩ a1 a3 a5 a6 hb, fun w0 w F g v5 v7 v8 v9 v10 hM hl => lack_a3 w0 w F g r m v5 v7 v8 v9 v10 A c hM k ⟨hl, hlc, hs.1, hk, hkn, hln, n.c1, n.w0, n.w1, n.i0, n.i1, n.n5⟩ a1 a3 a5 a6 hb⟩
    | true => exact ⟨normal r r.f2 (r.f5.take k ++ m.f7) m.f5, _, few_normal n.n5 hlen (msgs_one (Nat.zero_le _)), fun w0 w F g v5 v7 v8 v9 v10 hM hl => log_a4 w0 w F g r m v5 v7 v8 v9 v10 A c hM k ⟨hl, hlc, hs.1, hk, hkn, hln, n.c1, n.w0, n.w1, n.i0, n.i1, n.n5⟩ a1 a3 a5 a6 hb _ rfl, fun w0 w F g v5 v7 v8 v9 v10 hM hl => lack_a4 w0 w F g r m v5 v7 v8 v9 v10 A c hM k ⟨hl, hlc, hs.1, hk, hkn, hln, n.c1, n.w0, n.w1, n.i0, n.i1, n.n5⟩ a1 a3 a5 a6 hb _ rfl⟩
  by_cases a4 : r.f4 = 0
  case neg => exact ⟨r, [], few_same hs, fun w0 w F g v5 v7 v8 v9 v10 hM hl => log_c1 w0 w F g r m v5 v7 v8 v9 v10 A c hM ⟨n.x0, n.x1, hln, n.w0, n.w1, n0, n.n5⟩ a1 a2 a3 a4, fun w0 w F g v5 v7 v8 v9 v10 hM hl => lack_c1 w0 w F g r m v5 v7 v8 v9 v10 A c hM ⟨n.x0, n.x1, hln, n.w0, n.w1, n0, n.n5⟩ a1 a2 a3 a4⟩
  by_cases a7 : r.f2 % r.f1 = r.f0
  · exact ⟨r, [], few_same hs, fun w0 w F g v5 v7 v8 v9 v10 hM hl => log_p1 w0 w F g r m v5 v7 v8 v9 v10 A c hM ⟨n.x0, n.x1, hln, n.w0, n.w1, n0, n.n5⟩ a1 a2 a4 a7, fun w0 w F g v5 v7 v8 v9 v10 hM hl => lack_p1 w0 w F g r m v5 v7 v8 v9 v10 A c hM ⟨n.x0, n.x1, hln, n.w0, n.w1, n0, n.n5⟩ a1 a2 a4 a7⟩
  by_cases a8 : (r.f5.length : Int) < (k : Int) + (m.f7.length : Int)
  case neg => exact ⟨raise r m.f5, _, few_keep hs (msgs_one (Nat.zero_le _)), fun w0 w F g v5 v7 v8 v9 v10 hM hl => log_n3 w0 w F g r m v5 v7 v8 v9 v10 A c hM k ⟨hl, hlc, hs.1, hk, hkn, hln, n.c1, n.w0, n.w1, n.i0, n.i1, n.n5⟩ a1 a4 a7 a8 _ rfl, fun w0 w F g v5 v7 v8 v9 v10 hM hl => lack_n3 w0 w F g r m v5 v7 v8 v9 v10 A c hM k ⟨hl, hlc, hs.1, hk, hkn, hln, n.c1, n.w0, n.w1, n.i0, n.i1, n.n5⟩ a1 a4 a7 a8 _ rfl⟩
  obtain ⟨q, hq⟩ : ∃ q : Nat, r.f5.length = k + q := ⟨r.f5.length - k, by omega⟩
  have hqp : q < m.f7.length := by omega
  have hcq : ¬ c = q := by omega
  have hdl : (m.f7.drop q).length ≤ 1200 := by rw [List.length_drop]; omega
  cases hb : log (r.f5 ++ m.f7.drop q) with
  | false => exact ⟨r, [], few_same hs, fun w0 w F g v5 v7 v8 v9 v10 hM hl => log_n1n w0 w F g r m v5 v7 v8 v9 v10 A c hM k ⟨hl, hlc, hs.1, hk, hkn, hln, n.c1, n.w0, n.w1, n.i0, n.i1, n.n5⟩ a1 a4 a7 q hq hqp hcq hb, fun w0 w F g v5 v7 v8 v9 v10 hM hl => lack_n1n w0 w F g r m v5 v7 v8 v9 v10 A c hM k ⟨hl, hlc, hs.1, hk, hkn, hln, n.c1, n.w0, n.w1, n.i0, n.i1, n.n5⟩ a1 a4 a7 q hq hqp hcq hb⟩
  | true => exact ⟨raise { r with f5 := r.f5 ++ m.f7.drop q } m.f5, _, few_more hs hdl (msgs_one (Nat.zero_le _)), fun w0 w F g v5 v7 v8 v9 v10 hM hl => log_n2n w0 w F g r m v5 v7 v8 v9 v10 A c hM k ⟨hl, hlc, hs.1, hk, hkn, hln, n.c1, n.w0, n.w1, n.i0, n.i1, n.n5⟩ a1 a4 a7 q hq hqp hcq hb _ rfl, fun w0 w F g v5 v7 v8 v9 v10 hM hl => lack_n2n w0 w F g r m v5 v7 v8 v9 v10 A c hM k ⟨hl, hlc, hs.1, hk, hkn, hln, n.c1, n.w0, n.w1, n.i0, n.i1, n.n5⟩ a1 a4 a7 q hq hqp hcq hb _ rfl⟩
end Go.Proofs.YtggbjokhniigkaaGreat.Uc8
namespace Go.Proofs.YtggbjokhniigkaaGreat.U9
open Ty Go.RowKit YtggbjokhniigkaaGreatW.PrintWords YtggbjokhniigkaaGreatW.PrintLast YtggbjokhniigkaaGreatW.PrintMore Mx Kx Wa Wb Wc Wd Vc Sa Wj Tk Tb Tn Tt Tx Tr Tz Ua T9
theorem out_any (r : Rep) (m : Msg) (A5 A7 A8 A9 A10 A : Option Addr) (c5 c7 c8 c9 c10 c : Nat) (ko : m.f0 < 1 ∨ 9 ≤ m.f0) (hc : Fit r c5 c7 c8 c9 c10) (hs : r.f5.length ≤ 1200 ∧ r.f7.length ≤ 20 ∧ r.f8.length ≤ 20 ∧ r.f9.length ≤ 20 ∧ r.f10.length ≤ 1200) (hln : m.f7.length ≤ 1200) (hlc : m.f7.length ≤ c) : TakesAs r m A5 A7 A8 A9 A10 A c5 c7 c8 c9 c10 c := by
  have hn : Small r := ⟨Nat.le_trans hs.1 (by decide), Nat.le_trans hs.2.1 (by decide), Nat.le_trans hs.2.2.1 (by decide), Nat.le_trans hs.2.2.2.1 (by decide), Nat.le_trans hs.2.2.2.2 (by decide)⟩
  have hin : mayMsg r m = false := by
    unfold mayMsg
    rcases ko with h | h
    · rw [decide_eq_false (by omega)]
      rfl
    · rw [decide_eq_true (show 1 ≤ m.f0 by omega), decide_eq_false (show ¬ m.f0 ≤ 8 by omega)]
      rfl
  cases h1 : may r with
  | false => exact ⟨r, [], 1, (few_same hs).1, (few_same hs).2, fun w h hl => Take_e1 r m A5 A7 A8 A9 A10 A c5 c7 c8 c9 c10 c w h hn hl h1, fun w h hl => Take11_e1 r m A5 A7 A8 A9 A10 A c5 c7 c8 c9 c10 c w h hc hs hl hlc (Nat.le_trans hln (by decide)) h1⟩
  | true =>
    refine ⟨r, [], 1, (few_same hs).1, (few_same hs).2, fun w h hl => Take_e2 r m A5 A7 A8 A9 A10 A c5 c7 c8 c9 c10 c w h hn hl h1 (fun w0 w F g v5 v7 v8 v9 v10 hM hl => ?_), fun w h hl => Take11_e2 r m A5 A7 A8 A9 A10 A c5 c7 c8 c9 c10 c w h hc hs hl hlc (Nat.le_trans hln (by decide)) h1 hin⟩
    rcases ko with h | h
    · exact takes_lo w0 w F g r m v5 v7 v8 v9 v10 (.slice none 0 0) A c h hM hl (Nat.le_trans hln (by decide))
    · exact takes_hi w0 w F g r m v5 v7 v8 v9 v10 (.slice none 0 0) A c h hM hl (Nat.le_trans hln (by decide))
theorem good_any (r : Rep) (m : Msg) (A5 A7 A8 A9 A10 A : Option Addr) (c5 c7 c8 c9 c10 c : Nat) (hc : Fit r c5 c7 c8 c9 c10) (hs : r.f5.length ≤ 1200 ∧ r.f7.length ≤ 20 ∧ r.f8.length ≤ 20 ∧ r.f9.length ≤ 20 ∧ r.f10.length ≤ 1200) (hln : m.f7.length ≤ 1200) (hlc : m.f7.length ≤ c) : TakesAs r m A5 A7 A8 A9 A10 A c5 c7 c8 c9 c10 c := by
  by_cases ko : m.f0 < 1 ∨ 9 ≤ m.f0
  · exact out_any r m A5 A7 A8 A9 A10 A c5 c7 c8 c9 c10 c ko hc hs hln hlc
  have k : m.f0 = 1 ∨ m.f0 = 2 ∨ m.f0 = 3 ∨ m.f0 = 4 ∨ m.f0 = 5 ∨ m.f0 = 6 ∨ m.f0 = 7 ∨ m.f0 = 8 := by omega
  rcases k with hk | hk | hk | hk | hk | hk | hk | hk
  · exact Uc1.good_1 r m A5 A7 A8 A9 A10 A c5 c7 c8 c9 c10 c hk hc hs hln hlc
  · exact Uc2.good_2 r m A5 A7 A8 A9 A10 A c5 c7 c8 c9 c10 c hk hc hs hln hlc
  · exact Uc3.good_3 r m A5 A7 A8 A9 A10 A c5 c7 c8 c9 c10 c hk hc hs hln hlc
  · exact Uc4.good_4 r m A5 A7 A8 A9 A10 A c5 c7 c8 c9 c10 c hk hc hs hln hlc
  · exact Uc5.good_5 r m A5 A7 A8 A9 A10 A c5 c7 c8 c9 c10 c hk hc hs hln hlc
  · exact Uc6.good_6 r m A5 A7 A8 A9 A10 A c5 c7 c8 c9 c10 c hk hc hs hln hlc
  · exact Uc7.good_7 r m A5 A7 A8 A9 A10 A c5 c7 c8 c9 c10 c hk hc hs hln hlc
  · exact Uc8.good_8 r m A5 A7 A8 A9 A10 A c5 c7 c8 c9 c10 c hk hc hs hln hlc
end Go.Proofs.YtggbjokhniigkaaGreat.U9
namespace Go.Proofs.YtggbjokhniigkaaGreat.LvT
open Ty Go.RowKit YtggbjokhniigkaaGreatW.PrintWords YtggbjokhniigkaaGreatW.PrintLast YtggbjokhniigkaaGreatW.PrintMore Mx Kx Wa Wb Wd Vc Ve Fi Tz Of
theorem fitted_no (r : Rep) (m : Msg) (A5 A7 A8 A9 A10 A : Option Addr) (c5 c7 c8 c9 c10 c : Nat) (w : World) (h : RdRep w r A5 A7 A8 A9 A10) (hc : Fit r c5 c7 c8 c9 c10) (hs : r.f5.length ≤ 9223372036854775807 ∧ r.f7.length ≤ 9223372036854775807 ∧ r.f8.length ≤ 9223372036854775807 ∧ r.f9.length ≤ 9223372036854775807 ∧ r.f10.length ≤ 9223372036854775807) :
    Calls Tryz.prog 16 #[.agg (Kx.rA r A5 A7 A8 A9 A10 c5 c7 c8 c9 c10), .agg (Kx.mA m A c), .bool false] w fun e w' => e = .returned (.agg (Kx.mA m A c)) ∧ Mem w w' [] := by
  have H := Aside0.mk h
  have HC := Aside0.mk hc
  have HS := Aside0.mk hs
  have M1 := Aside0.mk ((((Mem.nil w).alloc (Kx.rA r A5 A7 A8 A9 A10 c5 c7 c8 c9 c10) 25).allocAt (Kx.mA m A c) 27 (w.heap.size + 1) (by simp)).allocAt (Kx.mA m A c) 27 (w.heap.size + 2) (by simp))
  clear h hc hs
  go_enter Tryz.func16, Tryz.ntmps16
  go_wp2_with fail
  all_goals
    have MF := M1.out
    have hgF := MF.blk_at 0 rfl
    refine bodyPost_ret (results_cell_row rfl _ _ (w.heap.size + 2) 27 (Kx.mA m A c) (0, 0) _ rfl hgF Tryz.underlying27 rfl (by kernel_rfl)) rfl ?_
    exact ⟨rfl, Mem.sel (ps := [_, _, _]) (F := []) [] 3 MF rfl rfl⟩
theorem fitted_any (r : Rep) (m : Msg) (A5 A7 A8 A9 A10 A : Option Addr) (c5 c7 c8 c9 c10 c : Nat) (w : World) (h : RdRep w r A5 A7 A8 A9 A10) (hc : Fit r c5 c7 c8 c9 c10) (hs : r.f5.length ≤ 9223372036854775807 ∧ r.f7.length ≤ 9223372036854775807 ∧ r.f8.length ≤ 9223372036854775807 ∧ r.f9.length ≤ 9223372036854775807 ∧ r.f10.length ≤ 9223372036854775807) (b : Bool) :
    Calls Tryz.prog 16 #[.agg (Kx.rA r A5 A7 A8 A9 A10 c5 c7 c8 c9 c10), .agg (Kx.mA m A c), .bool b] w fun e w' => ∃ m' : Msg, m'.f7 = m.f7 ∧ e = .returned (.agg #[.int .i64 m'.f0, .int .i64 m'.f1, .int .i64 m'.f2, .int .i64 m'.f3, .int .i64 m'.f4, .int .i64 m'.f5, .int .i64 m'.f6, .slice A m'.f7.length c]) ∧ Mem w w' [] := by
  cases b with
  | false => exact (fitted_no r m A5 A7 A8 A9 A10 A c5 c7 c8 c9 c10 c w h hc hs).mono fun e w' q => ⟨m, rfl, q.1, q.2⟩
  | true => exact (fitted_calls r m A5 A7 A8 A9 A10 A c5 c7 c8 c9 c10 c w h hc hs).mono fun e w' ⟨m', q⟩ => ⟨m', q.2⟩
theorem law_calls (r : Rep) (m : Msg) (A5 A7 A8 A9 A10 A : Option Addr) (c5 c7 c8 c9 c10 c : Nat) (w : World) (h : RdRep w r A5 A7 A8 A9 A10) (hc : Fit r c5 c7 c8 c9 c10) (hl : Kd.C kE w A m.f7.length m.f7) (hlc : m.f7.length ≤ c) (b : Bool)
    (hT : ∀ m' : Msg, r.f5.length ≤ 1200 ∧ r.f7.length ≤ 20 ∧ r.f8.length ≤ 20 ∧ r.f9.length ≤ 20 ∧ r.f10.length ≤ 1200 → m'.f7.length ≤ 1200 → m'.f7.length ≤ c → TakesAs r m' A5 A7 A8 A9 A10 A c5 c7 c8 c9 c10 c) :
    Calls Tryz.prog 3 #[.agg (Kx.rA r A5 A7 A8 A9 A10 c5 c7 c8 c9 c10), .agg (Kx.mA m A c), .bool b] w fun e w' => e = .returned (.bool true) ∧ Mem w w' [] := by
  have H := Aside0.mk h
  have HC := Aside0.mk hc
  have HL := Aside0.mk hl
  have HLC := Aside0.mk hlc
  have HT := Aside0.mk hT
  have HSB := Aside0.mk (show _ ∧ _ ∧ _ ∧ _ ∧ _ from ⟨C_bound h.h5, C_bound h.h7, C_bound h.h8, C_bound h.h9, C_bound h.h10⟩)
  have M1 := Aside0.mk (((Mem.nil w).allocAt (Kx.rA r A5 A7 A8 A9 A10 c5 c7 c8 c9 c10) 25 w.heap.size rfl).allocAt (Kx.mA m A c) 27 (w.heap.size + 1) (by simp))
  clear h hc hl hlc hT
  go_enter Tryz.func3, Tryz.ntmps3
  go_wp2_with fail
  go_upto_region 1 with (fail)
  obtain ⟨wc, hwc⟩ : ∃ wc : World, (w.alloc (Obj.cells (Kx.rA r A5 A7 A8 A9 A10 c5 c7 c8 c9 c10) 25)).alloc (Obj.cells (Kx.mA m A c) 27) = wc := ⟨_, rfl⟩
  rw [hwc] at M1 ⊢
  clear hwc
  have HR0 := Aside0.mk (blk_cell (M1.out.blk_at 1 rfl))
  have HM0 := Aside0.mk (blk_cell (M1.out.blk_at 0 rfl))
  have cR := HR0.out
  have cM := HM0.out
  have M1D := Aside0.mk M1.out.drew
  have FIT : Aside0 (∀ w', Below w.heap.size w w' → Calls Tryz.prog 16 #[.agg (Kx.rA r A5 A7 A8 A9 A10 c5 c7 c8 c9 c10), .agg (Kx.mA m A c), .bool b] w' fun e w'' => ∃ m' : Msg, m'.f7 = m.f7 ∧ e = .returned (.agg #[.int .i64 m'.f0, .int .i64 m'.f1, .int .i64 m'.f2, .int .i64 m'.f3, .int .i64 m'.f4, .int .i64 m'.f5, .int .i64 m'.f6, .slice A m'.f7.length c]) ∧ Mem w' w'' []) :=
    ⟨fun w' hb => fitted_any r m A5 A7 A8 A9 A10 A c5 c7 c8 c9 c10 c _ (H.out.below hb) HC.out HSB.out b⟩
  have HS0 := Aside0.mk (show (∀ j : Nat, wc.drew.cell? ⟨w.heap.size, j, none⟩ = wc.cell? ⟨w.heap.size, j, none⟩) ∧ (∀ j : Nat, wc.drew.cell? ⟨w.heap.size + 1, j, none⟩ = wc.cell? ⟨w.heap.size + 1, j, none⟩) from ⟨fun _ => rfl, fun _ => rfl⟩)
  have H9 := HS0
  go_region_held3 (fun w' => (∀ j : Nat, w'.cell? ⟨w.heap.size, j, none⟩ = wc.cell? ⟨w.heap.size, j, none⟩) ∧ (∀ j : Nat, w'.cell? ⟨w.heap.size + 1, j, none⟩ = wc.cell? ⟨w.heap.size + 1, j, none⟩)) (first | with_reducible exact HS0.out | with_reducible exact H9.out | with_reducible exact H8.out | fail) ((first | (go_at_call 16; refine (FIT.out _ M1D.out.below).mono ?_; rintro e w1 ⟨m', h7, rfl, hM⟩; have M3 := Aside0.mk (M1D.out.trans hM); have H7 := Aside0.mk h7; clear hM h7; have H9 := Aside0.mk (show (∀ j : Nat, w1.cell? ⟨w.heap.size, j, none⟩ = wc.cell? ⟨w.heap.size, j, none⟩) ∧ (∀ j : Nat, w1.cell? ⟨w.heap.size + 1, j, none⟩ = wc.cell? ⟨w.heap.size + 1, j, none⟩) from ⟨fun j => (blk_cell (M3.out.blk_at 1 rfl) j).trans (HR0.out j).symm, fun j => (blk_cell (M3.out.blk_at 0 rfl) j).trans (HM0.out j).symm⟩)) | (go_at_call 15; have HL' := Aside0.mk (show Kd.C kE w A m'.f7.length m'.f7 by rw [H7.out]; exact HL.out); have HLC' := Aside0.mk (show m'.f7.length ≤ c by rw [H7.out]; exact HLC.out); refine (takes_calls r m' A5 A7 A8 A9 A10 A c5 c7 c8 c9 c10 c _ (H.out.below M3.out.below) HC.out (Kd.C_below HL'.out M3.out.below) HLC'.out (fun hs hn => HT.out m' hs hn HLC'.out)).mono ?_; rintro e w2 ⟨rfl, hM⟩; have M4 := Aside0.mk (M3.out.trans hM); clear hM; have H8 := Aside0.mk (show (∀ j : Nat, w2.cell? ⟨w.heap.size, j, none⟩ = wc.cell? ⟨w.heap.size, j, none⟩) ∧ (∀ j : Nat, w2.cell? ⟨w.heap.size + 1, j, none⟩ = wc.cell? ⟨w.heap.size + 1, j, none⟩) from ⟨fun j => (blk_cell (M4.out.blk_at 1 rfl) j).trans (HR0.out j).symm, fun j => (blk_cell (M4.out.blk_at 0 rfl) j).trans (HM0.out j).symm⟩))))
  go_wp2
  go_ret
  exact ⟨rfl, Mem.sel (ps := [_, _]) (F := []) [] 2 M4.out rfl rfl⟩
end Go.Proofs.YtggbjokhniigkaaGreat.LvT
namespace Go.Proofs.YtggbjokhniigkaaGreat.LawRTakes
open Go.ChangeShapes Go.WideShapes Go.ChangeAt Go.RowKit YtggbjokhniigkaaGreatW.PrintWords Go.Proofs.YtggbjokhniigkaaGreat.Or LvT U9 Vc Wd Mx
theorem own : ownKnob Tryz.prog.godebug = none := by kernel_rfl
theorem laidOut : laidOutB Tryz.prog = true := by kernel_rfl
theorem lifted (os : Os) (started : os.Started) (H : Type) (enc : TypeId × Value → H) :
    ReturnsInHanded {} Tryz.checked os 3 .any (Rows.replicaTakesSpec.pre6 enc Tryz.prog Tryz.f3 Rows.replicaTakesRow.domain false) (Rows.replicaTakesSpec.post enc Tryz.prog Tryz.f3 false true false false) := by
  refine returnsInHanded_of_change (C := Tryz.checked) own started (by kernel_rfl) Tryz.func3
    (ChangeSpec.witness6 (enc := enc) (C := Tryz.checked) false ⟨#[], #[.agg #[.int .i64 0, .int .i64 0, .int .i64 0, .int .i64 0, .int .i64 0, .slice none 0 0, .int .i64 0, .slice none 0 0, .slice none 0 0, .slice none 0 0, .slice none 0 0, .int .i64 0, .int .i64 0], .agg #[.int .i64 0, .int .i64 0, .int .i64 0, .int .i64 0, .int .i64 0, .int .i64 0, .int .i64 0, .slice none 0 0], .bool false], []⟩ 8 (by kernel_rfl) (by kernel_rfl) (by kernel_rfl) (by kernel_rfl)) ?_
  intro W base args ds gs before hval0 hW hcnd _
  have hval : ∀ (j : Nat) t v, Tryz.f3.params[j]? = some t → args[j]? = some v → Value.okWide Tryz.prog W .any base t v := hval0
  have hW' := hW
  obtain ⟨p, q, hA0, hV, rfl, hfz, hnd⟩ := hW
  have hA : DataW.TrodAll enc Tryz.prog W 0 (fun _ => true) true Tryz.f3.params.toList args.toList ds p := hA0
  rw [Tryz.params3] at hA hval
  obtain ⟨v0, v1, v2, d0, d1, d2, p0, p1, p2, rfl, rfl, rfl, h0, h1, h2⟩ := trodAll_three hA
  obtain ⟨rfl, rfl⟩ := trodVars_none hV
  have k0 := h0
  have lt0 : ∀ x ∈ p0, x.block < W.heap.size := by obtain ⟨m, hm⟩ := k0; exact DataW.trod_lt m _ _ _ hm
  have k1 := h1
  have lt1 : ∀ x ∈ p1, x.block < W.heap.size := by obtain ⟨m, hm⟩ := k1; exact DataW.trod_lt m _ _ _ hm
  obtain ⟨r, A5, c5, A7, c7, A8, c8, A9, c9, A10, c10, rfl, l5, g5, l7, g7, l8, g8, l9, g9, l10, g10⟩ := open_rep (hval 0 25 v0 rfl rfl) h0
  obtain ⟨m, A, c, rfl, l1, g1⟩ := open_msg (hval 1 27 v1 rfl rfl) h1
  obtain ⟨x2, rfl, rfl, rfl⟩ := open_bool Tryz.underlying4 (hval 2 4 v2 rfl rfl) h2
  clear hA0 hval0
  refine (LvT.law_calls r m A5 A7 A8 A9 A10 A c5 c7 c8 c9 c10 c W ⟨g5, g7, g8, g9, g10⟩ ⟨l5, l7, l8, l9, l10⟩ g1 l1 x2 (fun m' hs hn hlc' => U9.good_any r m' A5 A7 A8 A9 A10 A c5 c7 c8 c9 c10 c ⟨l5, l7, l8, l9, l10⟩ hs hn hlc')).mono fun e W' ⟨he, hM⟩ => ?_
  subst he
  have bel := hM.below
  exact ⟨_, rfl, _, _, _, [], _, [], hW', trodAll_mk1 (shut_bool Tryz.underlying4 _), (trodAll_cons_mk (Below.trod laidOut (by kernel_rfl) (of_decide_eq_true (by kernel_rfl)) k0 bel lt0) (trodAll_cons_mk (Below.trod laidOut (by kernel_rfl) (of_decide_eq_true (by kernel_rfl)) k1 bel lt1) (trodAll_cons_mk (shut_bool Tryz.underlying4 _) trodAll_mk0))), rfl, bel.frame _, fun h => by cases h⟩
theorem over : Rows.replicaTakesRow.holds Tryz.pinned (OpenSpec.ofChange Rows.replicaTakesSpec) :=
  OpenClaim.holds_of_wide 3 Tryz.f3 rfl rfl rfl rfl rfl rfl rfl ⟨rfl, rfl, rfl, rfl, rfl⟩ rfl rfl rfl rfl rfl (by kernel_rfl) Tryz.func3 (by kernel_rfl)
    (of_decide_eq_true (by kernel_rfl)) (by unfold Func.isWrapper; first | (rw [if_pos (by decide +kernel)]; kernel_rfl) | (rw [if_neg (by decide +kernel)]; exact ⟨rfl, rfl⟩))
    (fun os started H enc _ => lifted os started H enc)
theorem proved : Rows.ReplicaTakesSaid := over
#print axioms proved
end Go.Proofs.YtggbjokhniigkaaGreat.LawRTakes
namespace Go.Proofs.YtggbjokhniigkaaGreat
theorem replicaTakes_holds : Rows.ReplicaTakesSaid := LawRTakes.proved
end Go.Proofs.YtggbjokhniigkaaGreat
