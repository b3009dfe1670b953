/- Texts laid together: Uc8, Lv8, LawLogs. No condition. -/
import Derived.Test.YtggbjokhniigkaaGreatGo8
import Derived.Test.YtggbjokhniigkaaGreatGn
import Derived.Test.YtggbjokhniigkaaGreatTgq
import Derived.Test.YtggbjokhniigkaaGreatThq
import Derived.Test.YtggbjokhniigkaaGreatTiq
import Derived.Test.YtggbjokhniigkaaGreatLaq
import Derived.Test.YtggbjokhniigkaaGreatLbq
import Derived.Test.YtggbjokhniigkaaGreatGk
import Derived.Test.YtggbjokhniigkaaGreatRows
import Derived.Test.YtggbjokhniigkaaGreatOrq
import Derived.Test.YtggbjokhniigkaaGreatGg
import Derived.Test.YtggbjokhniigkaaGreatGd
import Derived.ChangeMaps5
import Derived.Deep.Slices
/- Both Takes of a log. -/
namespace Go.Proofs.YtggbjokhniigkaaGreat.Uc8
open Go.Proofs.YtggbjokhniigkaaGreat.Ty Go.RowKit Go.Proofs.YtggbjokhniigkaaGreatW.PrintWords Go.Proofs.YtggbjokhniigkaaGreatW.PrintLast Go.Proofs.YtggbjokhniigkaaGreatW.PrintMore Go.Proofs.YtggbjokhniigkaaGreat.Mx Go.Proofs.YtggbjokhniigkaaGreat.Kx Go.Proofs.YtggbjokhniigkaaGreat.Wa Go.Proofs.YtggbjokhniigkaaGreat.Wd Go.Proofs.YtggbjokhniigkaaGreat.Vc Go.Proofs.YtggbjokhniigkaaGreat.Wj Go.Proofs.YtggbjokhniigkaaGreat.Tk Go.Proofs.YtggbjokhniigkaaGreat.Tb Go.Proofs.YtggbjokhniigkaaGreat.Tn Go.Proofs.YtggbjokhniigkaaGreat.Tz Go.Proofs.YtggbjokhniigkaaGreat.Ua Go.Proofs.YtggbjokhniigkaaGreat.Un Go.Proofs.YtggbjokhniigkaaGreat.Ub8 Go.Proofs.YtggbjokhniigkaaGreat.Tg Go.Proofs.YtggbjokhniigkaaGreat.Th Go.Proofs.YtggbjokhniigkaaGreat.Ti Go.Proofs.YtggbjokhniigkaaGreat.La Go.Proofs.YtggbjokhniigkaaGreat.Lb
theorem few_more {r : Rep} {l : List Entry} {k : Int} {msgs : List Msg} (hs : r.f5.length ≤ 1200 ∧ r.f7.length ≤ 20 ∧ r.f8.length ≤ 20 ∧ r.f9.length ≤ 20 ∧ r.f10.length ≤ 1200) (hl : l.length ≤ 1200) (h : msgs.length ≤ 1000000000 ∧ ∀ i, (rd_Msg msgs i).f7.length ≤ 1000000000) : FewOf (raise { r with f5 := r.f5 ++ l } k) msgs := by
  have e : (r.f5 ++ l).length = r.f5.length + l.length := List.length_append
  refine ⟨⟨?_, ?_, ?_, ?_, ?_, ?_⟩, h⟩
  · show (r.f5 ++ l).length ≤ _
    omega
  · show (r.f5 ++ l).length ≤ _
    omega
  · show r.f7.length ≤ _
    omega
  · show r.f8.length ≤ _
    omega
  · show r.f9.length ≤ _
    omega
  · show r.f10.length ≤ _
    omega
theorem few_keep {r : Rep} {k : Int} {msgs : List Msg} (hs : r.f5.length ≤ 1200 ∧ r.f7.length ≤ 20 ∧ r.f8.length ≤ 20 ∧ r.f9.length ≤ 20 ∧ r.f10.length ≤ 1200) (h : msgs.length ≤ 1000000000 ∧ ∀ i, (rd_Msg msgs i).f7.length ≤ 1000000000) : FewOf (raise r k) msgs := by
  refine ⟨⟨?_, ?_, ?_, ?_, ?_, ?_⟩, h⟩
  · show r.f5.length ≤ _
    omega
  · show r.f5.length ≤ _
    omega
  · show r.f7.length ≤ _
    omega
  · show r.f8.length ≤ _
    omega
  · show r.f9.length ≤ _
    omega
  · show r.f10.length ≤ _
    omega
theorem good_8 (r : Rep) (m : Msg) (A5 A7 A8 A9 A10 A : Option Addr) (c5 c7 c8 c9 c10 c : Nat) (hk : m.f0 = 8) (hc : Fit r c5 c7 c8 c9 c10) (hs : r.f5.length ≤ 1200 ∧ r.f7.length ≤ 20 ∧ r.f8.length ≤ 20 ∧ r.f9.length ≤ 20 ∧ r.f10.length ≤ 1200) (hln : m.f7.length ≤ 1200) (hlc : m.f7.length ≤ c) : TakesAs r m A5 A7 A8 A9 A10 A c5 c7 c8 c9 c10 c := by
  refine both_8 r m A5 A7 A8 A9 A10 A c5 c7 c8 c9 c10 c hk hc hs hln hlc fun h1 h2 => ?_
  have n := nums (by omega) (by omega) h1 h2
  have n0 : 0 < r.f1 := by have := n.i0; have := n.i1; omega
  clear hk
  by_cases a1 : m.f3 = r.f2
  case neg => exact ⟨r, [], few_same hs, fun w0 w F g v5 v7 v8 v9 v10 hM hl => log_l1 w0 w F g r m v5 v7 v8 v9 v10 A c hM ⟨n.x0, n.x1, hln, n.w0, n.w1, n0, n.n5⟩ a1, fun w0 w F g v5 v7 v8 v9 v10 hM hl => lack_l1 w0 w F g r m v5 v7 v8 v9 v10 A c hM ⟨n.x0, n.x1, hln, n.w0, n.w1, n0, n.n5⟩ a1⟩
  by_cases a2 : (r.f5.length : Int) < m.f4
  · exact ⟨r, [], few_same hs, fun w0 w F g v5 v7 v8 v9 v10 hM hl => log_l2 w0 w F g r m v5 v7 v8 v9 v10 A c hM ⟨n.x0, n.x1, hln, n.w0, n.w1, n0, n.n5⟩ a1 a2, fun w0 w F g v5 v7 v8 v9 v10 hM hl => lack_l2 w0 w F g r m v5 v7 v8 v9 v10 A c hM ⟨n.x0, n.x1, hln, n.w0, n.w1, n0, n.n5⟩ a1 a2⟩
  obtain ⟨k, hk⟩ : ∃ k : Nat, m.f4 = (k : Int) := ⟨m.f4.toNat, (Int.toNat_of_nonneg n.x0).symm⟩
  have hkn : k ≤ r.f5.length := by rw [hk] at a2; omega
  by_cases a3 : r.f4 = 2
  · by_cases a5 : m.f4 ≤ r.f6
    case neg => exact ⟨r, [], few_same hs, fun w0 w F g v5 v7 v8 v9 v10 hM hl => log_a1 w0 w F g r m v5 v7 v8 v9 v10 A c hM ⟨n.x0, n.x1, hln, n.w0, n.w1, n0, n.n5⟩ a1 a2 a3 a5, fun w0 w F g v5 v7 v8 v9 v10 hM hl => lack_a1 w0 w F g r m v5 v7 v8 v9 v10 A c hM ⟨n.x0, n.x1, hln, n.w0, n.w1, n0, n.n5⟩ a1 a2 a3 a5⟩
    by_cases a6 : r.f6 ≤ m.f4 + (m.f7.length : Int)
    case neg => exact ⟨r, [], few_same hs, fun w0 w F g v5 v7 v8 v9 v10 hM hl => log_a2 w0 w F g r m v5 v7 v8 v9 v10 A c hM ⟨n.x0, n.x1, hln, n.w0, n.w1, n0, n.n5⟩ a1 a2 a3 a5 a6, fun w0 w F g v5 v7 v8 v9 v10 hM hl => lack_a2 w0 w F g r m v5 v7 v8 v9 v10 A c hM ⟨n.x0, n.x1, hln, n.w0, n.w1, n0, n.n5⟩ a1 a2 a3 a5 a6⟩
    rw [hk] at a5 a6
    have hlen : (r.f5.take k ++ m.f7).length ≤ 1000000 := by rw [List.length_append, List.length_take]; have := hs.1; omega
    cases hb : log (r.f5.take k ++ m.f7) with
    | false => exact ⟨r, [], few_same hs, fun w0 w F g v5 v7 v8 v9 v10 hM hl => log_a3 w0 w F g r m v5 v7 v8 v9 v10 A c hM k ⟨hl, hlc, hs.1, hk, hkn, hln, n.c1, n.w0, n.w1, n.i0, n.i1, n.n5⟩ a1 a3 a5 a6 hb, fun w0 w F g v5 v7 v8 v9 v10 hM hl => lack_a3 w0 w F g r m v5 v7 v8 v9 v10 A c hM k ⟨hl, hlc, hs.1, hk, hkn, hln, n.c1, n.w0, n.w1, n.i0, n.i1, n.n5⟩ a1 a3 a5 a6 hb⟩
    | true => exact ⟨normal r r.f2 (r.f5.take k ++ m.f7) m.f5, _, few_normal n.n5 hlen (msgs_one (Nat.zero_le _)), fun w0 w F g v5 v7 v8 v9 v10 hM hl => log_a4 w0 w F g r m v5 v7 v8 v9 v10 A c hM k ⟨hl, hlc, hs.1, hk, hkn, hln, n.c1, n.w0, n.w1, n.i0, n.i1, n.n5⟩ a1 a3 a5 a6 hb _ rfl, fun w0 w F g v5 v7 v8 v9 v10 hM hl => lack_a4 w0 w F g r m v5 v7 v8 v9 v10 A c hM k ⟨hl, hlc, hs.1, hk, hkn, hln, n.c1, n.w0, n.w1, n.i0, n.i1, n.n5⟩ a1 a3 a5 a6 hb _ rfl⟩
  by_cases a4 : r.f4 = 0
  case neg => exact ⟨r, [], few_same hs, fun w0 w F g v5 v7 v8 v9 v10 hM hl => log_c1 w0 w F g r m v5 v7 v8 v9 v10 A c hM ⟨n.x0, n.x1, hln, n.w0, n.w1, n0, n.n5⟩ a1 a2 a3 a4, fun w0 w F g v5 v7 v8 v9 v10 hM hl => lack_c1 w0 w F g r m v5 v7 v8 v9 v10 A c hM ⟨n.x0, n.x1, hln, n.w0, n.w1, n0, n.n5⟩ a1 a2 a3 a4⟩
  by_cases a7 : r.f2 % r.f1 = r.f0
  · exact ⟨r, [], few_same hs, fun w0 w F g v5 v7 v8 v9 v10 hM hl => log_p1 w0 w F g r m v5 v7 v8 v9 v10 A c hM ⟨n.x0, n.x1, hln, n.w0, n.w1, n0, n.n5⟩ a1 a2 a4 a7, fun w0 w F g v5 v7 v8 v9 v10 hM hl => lack_p1 w0 w F g r m v5 v7 v8 v9 v10 A c hM ⟨n.x0, n.x1, hln, n.w0, n.w1, n0, n.n5⟩ a1 a2 a4 a7⟩
  by_cases a8 : (r.f5.length : Int) < (k : Int) + (m.f7.length : Int)
  case neg => exact ⟨raise r m.f5, _, few_keep hs (msgs_one (Nat.zero_le _)), fun w0 w F g v5 v7 v8 v9 v10 hM hl => log_n3 w0 w F g r m v5 v7 v8 v9 v10 A c hM k ⟨hl, hlc, hs.1, hk, hkn, hln, n.c1, n.w0, n.w1, n.i0, n.i1, n.n5⟩ a1 a4 a7 a8 _ rfl, fun w0 w F g v5 v7 v8 v9 v10 hM hl => lack_n3 w0 w F g r m v5 v7 v8 v9 v10 A c hM k ⟨hl, hlc, hs.1, hk, hkn, hln, n.c1, n.w0, n.w1, n.i0, n.i1, n.n5⟩ a1 a4 a7 a8 _ rfl⟩
  obtain ⟨q, hq⟩ : ∃ q : Nat, r.f5.length = k + q := ⟨r.f5.length - k, by omega⟩
  have hqp : q < m.f7.length := by omega
  have hcq : ¬ c = q := by omega
  have hdl : (m.f7.drop q).length ≤ 1200 := by rw [List.length_drop]; omega
  cases hb : log (r.f5 ++ m.f7.drop q) with
  | false => exact ⟨r, [], few_same hs, fun w0 w F g v5 v7 v8 v9 v10 hM hl => log_n1n w0 w F g r m v5 v7 v8 v9 v10 A c hM k ⟨hl, hlc, hs.1, hk, hkn, hln, n.c1, n.w0, n.w1, n.i0, n.i1, n.n5⟩ a1 a4 a7 q hq hqp hcq hb, fun w0 w F g v5 v7 v8 v9 v10 hM hl => lack_n1n w0 w F g r m v5 v7 v8 v9 v10 A c hM k ⟨hl, hlc, hs.1, hk, hkn, hln, n.c1, n.w0, n.w1, n.i0, n.i1, n.n5⟩ a1 a4 a7 q hq hqp hcq hb⟩
  | true => exact ⟨raise { r with f5 := r.f5 ++ m.f7.drop q } m.f5, _, few_more hs hdl (msgs_one (Nat.zero_le _)), fun w0 w F g v5 v7 v8 v9 v10 hM hl => log_n2n w0 w F g r m v5 v7 v8 v9 v10 A c hM k ⟨hl, hlc, hs.1, hk, hkn, hln, n.c1, n.w0, n.w1, n.i0, n.i1, n.n5⟩ a1 a4 a7 q hq hqp hcq hb _ rfl, fun w0 w F g v5 v7 v8 v9 v10 hM hl => lack_n2n w0 w F g r m v5 v7 v8 v9 v10 A c hM k ⟨hl, hlc, hs.1, hk, hkn, hln, n.c1, n.w0, n.w1, n.i0, n.i1, n.n5⟩ a1 a4 a7 q hq hqp hcq hb _ rfl⟩
end Go.Proofs.YtggbjokhniigkaaGreat.Uc8
/- Walks: the law ReplicaLogs. -/
namespace Go.Proofs.YtggbjokhniigkaaGreat.Lv8
open Go.Proofs.YtggbjokhniigkaaGreat.Ty Go.RowKit Go.Proofs.YtggbjokhniigkaaGreatW.PrintWords Go.Proofs.YtggbjokhniigkaaGreatW.PrintLast Go.Proofs.YtggbjokhniigkaaGreatW.PrintMore Go.Proofs.YtggbjokhniigkaaGreat.Mx Go.Proofs.YtggbjokhniigkaaGreat.Kx Go.Proofs.YtggbjokhniigkaaGreat.Wd Go.Proofs.YtggbjokhniigkaaGreat.Vc Go.Proofs.YtggbjokhniigkaaGreat.Of Go.Proofs.YtggbjokhniigkaaGreat.Uc8
set_option linter.unusedVariables false
set_option maxRecDepth 100000 in
set_option maxHeartbeats 4000000 in
theorem law_calls (r : Rep) (m : Msg) (A5 A7 A8 A9 A10 A : Option Addr) (c5 c7 c8 c9 c10 c : Nat) (w : World) (h : RdRep w r A5 A7 A8 A9 A10) (hc : Fit r c5 c7 c8 c9 c10) (hl : Kd.C kE w A m.f7.length m.f7) (hlc : m.f7.length ≤ c) :
    Calls Tryz.prog 11 #[.agg #[.int .i64 r.f0, .int .i64 r.f1, .int .i64 r.f2, .int .i64 r.f3, .int .i64 r.f4, .slice A5 r.f5.length c5, .int .i64 r.f6, .slice A7 r.f7.length c7, .slice A8 r.f8.length c8, .slice A9 r.f9.length c9, .slice A10 r.f10.length c10, .int .i64 r.f11, .int .i64 r.f12], .agg #[.int .i64 m.f0, .int .i64 m.f1, .int .i64 m.f2, .int .i64 m.f3, .int .i64 m.f4, .int .i64 m.f5, .int .i64 m.f6, .slice A m.f7.length c]] w fun e w' => e = .returned (.bool true) ∧ Mem w w' [] := by
  have H := Aside0.mk h
  have HC := Aside0.mk hc
  have HL := Aside0.mk hl
  have HLC := Aside0.mk hlc
  have M1 := Aside0.mk (((Mem.nil w).allocAt #[.int .i64 r.f0, .int .i64 r.f1, .int .i64 r.f2, .int .i64 r.f3, .int .i64 r.f4, .slice A5 r.f5.length c5, .int .i64 r.f6, .slice A7 r.f7.length c7, .slice A8 r.f8.length c8, .slice A9 r.f9.length c9, .slice A10 r.f10.length c10, .int .i64 r.f11, .int .i64 r.f12] 25 w.heap.size rfl).allocAt #[.int .i64 m.f0, .int .i64 m.f1, .int .i64 m.f2, .int .i64 m.f3, .int .i64 m.f4, .int .i64 m.f5, .int .i64 m.f6, .slice A m.f7.length c] 27 (w.heap.size + 1) (by simp))
  clear h hc hl hlc
  go_enter Tryz.func11, Tryz.ntmps11
  go_wp2_with fail
  refine (of_calls r m A5 A7 A8 A9 A10 A c5 c7 c8 c9 c10 c _ (H.out.below M1.out.below) HC.out (Kd.C_below HL.out M1.out.below) HLC.out 8 (by decide) (fun m' hk hs hn hlc' => good_8 r m' A5 A7 A8 A9 A10 A c5 c7 c8 c9 c10 c hk HC.out hs hn hlc')).mono ?_
  rintro e w1 ⟨rfl, hM⟩
  have M2 := Aside0.mk (M1.out.trans hM)
  clear hM
  go_wp2
  go_ret
  exact ⟨rfl, Mem.sel (ps := [_, _]) (F := []) [] 2 M2.out rfl rfl⟩
end Go.Proofs.YtggbjokhniigkaaGreat.Lv8
/- Whatever the replica and the message are, ReplicaLogs answers true, and what was handed in reads as it did. No condition. -/
namespace Go.Proofs.YtggbjokhniigkaaGreat.LawLogs
open Go.ChangeShapes Go.WideShapes Go.ChangeAt Go.RowKit Go.Proofs.YtggbjokhniigkaaGreatW.PrintWords Go.Proofs.YtggbjokhniigkaaGreat.Or Go.Proofs.YtggbjokhniigkaaGreat.Lv8 Go.Proofs.YtggbjokhniigkaaGreat.Vc Go.Proofs.YtggbjokhniigkaaGreat.Wd Go.Proofs.YtggbjokhniigkaaGreat.Mx
set_option linter.unusedVariables false
theorem own : ownKnob Tryz.prog.godebug = none := by kernel_rfl
theorem laidOut : laidOutB Tryz.prog = true := by kernel_rfl
set_option maxRecDepth 100000 in
theorem lifted (os : Os) (started : os.Started) (H : Type) (enc : TypeId × Value → H) :
    ReturnsInHanded {} Tryz.checked os 11 .any (Rows.replicaLogsSpec.pre6 enc Tryz.prog Tryz.f11 Rows.replicaLogsRow.domain false) (Rows.replicaLogsSpec.post enc Tryz.prog Tryz.f11 false true false false) := by
  refine returnsInHanded_of_change (C := Tryz.checked) own started (by kernel_rfl) Tryz.func11
    (ChangeSpec.witness6 (enc := enc) (C := Tryz.checked) false ⟨#[], #[.agg #[.int .i64 0, .int .i64 0, .int .i64 0, .int .i64 0, .int .i64 0, .slice none 0 0, .int .i64 0, .slice none 0 0, .slice none 0 0, .slice none 0 0, .slice none 0 0, .int .i64 0, .int .i64 0], .agg #[.int .i64 0, .int .i64 0, .int .i64 0, .int .i64 0, .int .i64 0, .int .i64 0, .int .i64 0, .slice none 0 0]], []⟩ 8 (by kernel_rfl) (by kernel_rfl) (by kernel_rfl) (by kernel_rfl)) ?_
  intro W base args ds gs before hval0 hW hcnd _
  have hval : ∀ (j : Nat) t v, Tryz.f11.params[j]? = some t → args[j]? = some v → Value.okWide Tryz.prog W .any base t v := hval0
  have hW' := hW
  obtain ⟨p, q, hA0, hV, rfl, hfz, hnd⟩ := hW
  have hA : DataW.TrodAll enc Tryz.prog W 0 (fun _ => true) true Tryz.f11.params.toList args.toList ds p := hA0
  rw [Tryz.params11] at hA hval
  obtain ⟨v0, v1, d0, d1, p0, p1, rfl, rfl, rfl, h0, h1⟩ := trodAll_two hA
  obtain ⟨rfl, rfl⟩ := trodVars_none hV
  have k0 := h0
  have lt0 : ∀ x ∈ p0, x.block < W.heap.size := by obtain ⟨m, hm⟩ := k0; exact DataW.trod_lt m _ _ _ hm
  have k1 := h1
  have lt1 : ∀ x ∈ p1, x.block < W.heap.size := by obtain ⟨m, hm⟩ := k1; exact DataW.trod_lt m _ _ _ hm
  obtain ⟨r, A5, c5, A7, c7, A8, c8, A9, c9, A10, c10, rfl, l5, g5, l7, g7, l8, g8, l9, g9, l10, g10⟩ := open_rep (hval 0 25 v0 rfl rfl) h0
  obtain ⟨m, A, c, rfl, l1, g1⟩ := open_msg (hval 1 27 v1 rfl rfl) h1
  clear hA0 hval0
  refine (Lv8.law_calls r m A5 A7 A8 A9 A10 A c5 c7 c8 c9 c10 c W ⟨g5, g7, g8, g9, g10⟩ ⟨l5, l7, l8, l9, l10⟩ g1 l1).mono fun e W' ⟨he, hM⟩ => ?_
  subst he
  have bel := hM.below
  exact ⟨_, rfl, _, _, _, [], _, [], hW', trodAll_mk1 (shut_bool Tryz.underlying4 _), (trodAll_cons_mk (Below.trod laidOut (by kernel_rfl) (of_decide_eq_true (by kernel_rfl)) k0 bel lt0) (trodAll_cons_mk (Below.trod laidOut (by kernel_rfl) (of_decide_eq_true (by kernel_rfl)) k1 bel lt1) trodAll_mk0)), rfl, bel.frame _, fun h => by cases h⟩
theorem over : Rows.replicaLogsRow.holds Tryz.pinned (OpenSpec.ofChange Rows.replicaLogsSpec) :=
  OpenClaim.holds_of_wide 11 Tryz.f11 rfl rfl rfl rfl rfl rfl rfl ⟨rfl, rfl, rfl, rfl, rfl⟩ rfl rfl rfl rfl rfl (by kernel_rfl) Tryz.func11 (by kernel_rfl)
    (of_decide_eq_true (by kernel_rfl)) (by unfold Func.isWrapper; first | (rw [if_pos (by decide +kernel)]; kernel_rfl) | (rw [if_neg (by decide +kernel)]; exact ⟨rfl, rfl⟩))
    (fun os started H enc _ => lifted os started H enc)
theorem proved : Rows.ReplicaLogsSaid := over
#print axioms proved
end Go.Proofs.YtggbjokhniigkaaGreat.LawLogs
namespace Go.Proofs.YtggbjokhniigkaaGreat
theorem replicaLogs_holds : Rows.ReplicaLogsSaid := LawLogs.proved
end Go.Proofs.YtggbjokhniigkaaGreat
