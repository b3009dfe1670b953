/- Texts laid together: Ua, Un. No condition. -/
import Derived.Test.YtggbjokhniigkaaGreatGp8
import Derived.Test.YtggbjokhniigkaaGreatSaq
import Derived.Test.YtggbjokhniigkaaGreatGm
import Derived.Test.YtggbjokhniigkaaGreatGk
/- Both Takes of a message, refused or not. -/
namespace Go.Proofs.YtggbjokhniigkaaGreat.Ua
open Go.Proofs.YtggbjokhniigkaaGreat.Ty Go.RowKit Go.Proofs.YtggbjokhniigkaaGreatW.PrintWords Go.Proofs.YtggbjokhniigkaaGreatW.PrintLast Go.Proofs.YtggbjokhniigkaaGreatW.PrintMore Go.Proofs.YtggbjokhniigkaaGreat.Mx Go.Proofs.YtggbjokhniigkaaGreat.Kx Go.Proofs.YtggbjokhniigkaaGreat.Wa Go.Proofs.YtggbjokhniigkaaGreat.Wb Go.Proofs.YtggbjokhniigkaaGreat.Wc Go.Proofs.YtggbjokhniigkaaGreat.Wd Go.Proofs.YtggbjokhniigkaaGreat.Vc Go.Proofs.YtggbjokhniigkaaGreat.Sa Go.Proofs.YtggbjokhniigkaaGreat.Wj Go.Proofs.YtggbjokhniigkaaGreat.Tk Go.Proofs.YtggbjokhniigkaaGreat.Tb Go.Proofs.YtggbjokhniigkaaGreat.Tn Go.Proofs.YtggbjokhniigkaaGreat.Tt Go.Proofs.YtggbjokhniigkaaGreat.Tx Go.Proofs.YtggbjokhniigkaaGreat.Tr Go.Proofs.YtggbjokhniigkaaGreat.Tz
set_option linter.unusedVariables false
def FewOf (s : Rep) (msgs : List Msg) : Prop := (s.f5.length ≤ 1000000 ∧ Small s) ∧ (msgs.length ≤ 1000000000 ∧ ∀ i, (rd_Msg msgs i).f7.length ≤ 1000000000)
theorem rd_f7 {l : List Msg} {n : Nat} (h : ∀ x ∈ l, x.f7.length ≤ n) (i : Int) : (rd_Msg l i).f7.length ≤ n := by
  unfold rd_Msg
  rcases Nat.lt_or_ge i.toNat l.length with g | g
  · rw [List.getD, List.getElem?_eq_getElem g]
    exact h _ (List.getElem_mem g)
  · rw [List.getD, List.getElem?_eq_none g]
    exact Nat.zero_le _
theorem few_same {r : Rep} (hs : r.f5.length ≤ 1200 ∧ r.f7.length ≤ 20 ∧ r.f8.length ≤ 20 ∧ r.f9.length ≤ 20 ∧ r.f10.length ≤ 1200) : FewOf r [] :=
  ⟨⟨Nat.le_trans hs.1 (by decide), ⟨Nat.le_trans hs.1 (by decide), Nat.le_trans hs.2.1 (by decide), Nat.le_trans hs.2.2.1 (by decide), Nat.le_trans hs.2.2.2.1 (by decide), Nat.le_trans hs.2.2.2.2 (by decide)⟩⟩, Nat.zero_le _, rd_f7 (by simp)⟩
theorem mayP_iff (r : Rep) (m : Msg) : mayMsgP r m ↔ mayMsg r m = true := by
  unfold mayMsgP mayMsg mayM
  simp only [Bool.and_eq_true, decide_eq_true_eq, Bool.or_eq_true, Bool.not_eq_true', beq_eq_false_iff_ne, beq_iff_eq, ne_eq]
  constructor
  · rintro ⟨a1, a2, a3, a4, a5, a6, a7, a8, a9, a10, a11, a12⟩
    refine ⟨a1, a2, a3, a4, a5, a6, a7, a8, a9, a10, a11, ?_⟩
    by_cases h : m.f0 = 1
    · exact .inr (by have := a12 h; omega)
    · exact .inl h
  · rintro ⟨a1, a2, a3, a4, a5, a6, a7, a8, a9, a10, a11, a12⟩
    exact ⟨a1, a2, a3, a4, a5, a6, a7, a8, a9, a10, a11, fun h => a12.elim (fun h' => absurd h h') (fun h' => by omega)⟩
theorem mayMsg_in (r : Rep) (m : Msg) (h1 : 1 ≤ m.f0) (h8 : m.f0 ≤ 8) : mayMsg r m = mayM r m := by simp [mayMsg, h1, h8]
theorem may_P {r : Rep} {m : Msg} (h1 : 1 ≤ m.f0) (h8 : m.f0 ≤ 8) (h : mayM r m = true) : mayMsgP r m := (mayP_iff r m).2 ((mayMsg_in r m h1 h8).trans h)
/-- Refused, or what both make of it. -/
theorem takesAs_of (r : Rep) (m : Msg) (A5 A7 A8 A9 A10 A : Option Addr) (c5 c7 c8 c9 c10 c : Nat) (k1 : 1 ≤ m.f0) (k8 : m.f0 ≤ 8) (hc : Fit r c5 c7 c8 c9 c10) (hs : r.f5.length ≤ 1200 ∧ r.f7.length ≤ 20 ∧ r.f8.length ≤ 20 ∧ r.f9.length ≤ 20 ∧ r.f10.length ≤ 1200) (hln : m.f7.length ≤ 1200) (hlc : m.f7.length ≤ c)
    (hgood : may r = true → mayM r m = true → ∃ (s : Rep) (msgs : List Msg), FewOf s msgs ∧ (∀ w, RdRep w r A5 A7 A8 A9 A10 → Kd.C kE w A m.f7.length m.f7 → Calls Tryz.prog 34 #[.agg (rc r (.slice A5 r.f5.length c5) (.slice A7 r.f7.length c7) (.slice A8 r.f8.length c8) (.slice A9 r.f9.length c9) (.slice A10 r.f10.length c10)), .agg #[.int .i64 m.f0, .int .i64 m.f1, .int .i64 m.f2, .int .i64 m.f3, .int .i64 m.f4, .int .i64 m.f5, .int .i64 m.f6, .slice A m.f7.length c]] w fun e w' => ∃ v5 v7 v8 v9 v10 vout : Value, e = .returned (.tuple #[.agg (rc s v5 v7 v8 v9 v10), vout, .int .i64 0]) ∧ Mem w w' (rows s v5 v7 v8 v9 v10 ++ [row kM 27 vout msgs])) ∧ (∀ w, RdRep w r A5 A7 A8 A9 A10 → Kd.C kE w A m.f7.length m.f7 → Calls Tryz.prog 35 #[.agg #[.int .i64 r.f0, .int .i64 r.f1, .int .i64 r.f2, .int .i64 r.f3, .int .i64 r.f4, .slice A5 r.f5.length c5, .int .i64 r.f6, .slice A7 r.f7.length c7, .slice A8 r.f8.length c8, .slice A9 r.f9.length c9, .slice A10 r.f10.length c10, .int .i64 r.f11, .int .i64 r.f12], .agg #[.int .i64 m.f0, .int .i64 m.f1, .int .i64 m.f2, .int .i64 m.f3, .int .i64 m.f4, .int .i64 m.f5, .int .i64 m.f6, .slice A m.f7.length c]] w fun e w' => OutS w w' e s msgs 0)) : TakesAs r m A5 A7 A8 A9 A10 A c5 c7 c8 c9 c10 c := by
  have hn : Small r := ⟨Nat.le_trans hs.1 (by decide), Nat.le_trans hs.2.1 (by decide), Nat.le_trans hs.2.2.1 (by decide), Nat.le_trans hs.2.2.2.1 (by decide), Nat.le_trans hs.2.2.2.2 (by decide)⟩
  have hin : mayMsg r m = mayM r m := mayMsg_in r m k1 k8
  cases h1 : may r with
  | false => exact ⟨r, [], 1, (few_same hs).1, (few_same hs).2, fun w h hl => Take_e1 r m A5 A7 A8 A9 A10 A c5 c7 c8 c9 c10 c w h hn hl h1, fun w h hl => Take11_e1 r m A5 A7 A8 A9 A10 A c5 c7 c8 c9 c10 c w h hc hs hl hlc (Nat.le_trans hln (by decide)) h1⟩
  | true =>
    cases h2 : mayM r m with
    | false => exact ⟨r, [], 1, (few_same hs).1, (few_same hs).2, fun w h hl => Take_e2 r m A5 A7 A8 A9 A10 A c5 c7 c8 c9 c10 c w h hn hl h1 (fun w0 w F g v5 v7 v8 v9 v10 hM hl => takes_no w0 w F g r m v5 v7 v8 v9 v10 (.slice none 0 0) A c k1 k8 h2 hM hl (Nat.le_trans hln (by decide))), fun w h hl => Take11_e2 r m A5 A7 A8 A9 A10 A c5 c7 c8 c9 c10 c w h hc hs hl hlc (Nat.le_trans hln (by decide)) h1 (hin.trans h2)⟩
    | true =>
      obtain ⟨s, msgs, hf, t1, t2⟩ := hgood h1 h2
      exact ⟨s, msgs, 0, hf.1, hf.2, t1, t2⟩
end Go.Proofs.YtggbjokhniigkaaGreat.Ua
/- Numbers out of what may be. No condition. -/
namespace Go.Proofs.YtggbjokhniigkaaGreat.Un
open Go.Proofs.YtggbjokhniigkaaGreat.Ty Go.RowKit Go.Proofs.YtggbjokhniigkaaGreatW.PrintWords Go.Proofs.YtggbjokhniigkaaGreatW.PrintLast Go.Proofs.YtggbjokhniigkaaGreatW.PrintMore Go.Proofs.YtggbjokhniigkaaGreat.Mx Go.Proofs.YtggbjokhniigkaaGreat.Kx Go.Proofs.YtggbjokhniigkaaGreat.Wa Go.Proofs.YtggbjokhniigkaaGreat.Wd Go.Proofs.YtggbjokhniigkaaGreat.Vc Go.Proofs.YtggbjokhniigkaaGreat.Wj Go.Proofs.YtggbjokhniigkaaGreat.Tk Go.Proofs.YtggbjokhniigkaaGreat.Tb Go.Proofs.YtggbjokhniigkaaGreat.Tn Go.Proofs.YtggbjokhniigkaaGreat.Tz Go.Proofs.YtggbjokhniigkaaGreat.Ua
structure Nums (r : Rep) (m : Msg) : Prop where
  i0 : 0 ≤ r.f0
  i1 : r.f0 < r.f1
  n5 : r.f1 ≤ 5
  w0 : 0 ≤ r.f2
  w1 : r.f2 ≤ 4611686018427387904
  v0 : 0 ≤ m.f3
  v1 : m.f3 ≤ 4611686018427387904
  x0 : 0 ≤ m.f4
  x1 : m.f4 ≤ 4611686018427387904
  y0 : 0 ≤ m.f5
  y1 : m.f5 ≤ 4611686018427387904
  f0 : 0 ≤ m.f1
  f1 : m.f1 < r.f1
  c0 : 0 ≤ r.f6
  c1 : r.f6 ≤ (r.f5.length : Int)
theorem below_num {n : Int} (h : below n = true) : 0 ≤ n ∧ n ≤ 4611686018427387904 := by
  unfold below maxTime at h
  simp at h
  omega
theorem nums {r : Rep} {m : Msg} (k1 : 1 ≤ m.f0) (k8 : m.f0 ≤ 8) (h1 : may r = true) (h2 : mayM r m = true) : Nums r m := by
  have P := (may_iff r).1 h1
  have Q := may_P k1 k8 h2
  have n5 : r.f1 ≤ 5 := by
    have := P.1
    unfold size at this
    simp at this
    omega
  have w := below_num P.2.2.2.1
  have v := below_num Q.2.2.2.2.2.2.1
  have x := below_num Q.2.2.2.2.2.2.2.1
  have y := below_num Q.2.2.2.2.2.2.2.2.1
  exact ⟨P.2.1, P.2.2.1, n5, w.1, w.2, v.1, v.2, x.1, x.2, y.1, y.2, Q.2.2.1, Q.2.2.2.1, P.2.2.2.2.2.2.2.2.2.2.1, P.2.2.2.2.2.2.2.2.2.2.2.1⟩
theorem few_normal {r : Rep} {view commit : Int} {l : List Entry} {msgs : List Msg} (hn : r.f1 ≤ 5) (hl : l.length ≤ 1000000) (h : msgs.length ≤ 1000000000 ∧ ∀ i, (rd_Msg msgs i).f7.length ≤ 1000000000) : FewOf (normal r view l commit) msgs := by
  refine ⟨⟨hl, Nat.le_trans hl (by decide), ?_, Nat.zero_le _, Nat.zero_le _, Nat.zero_le _⟩, h⟩
  show ((List.replicate r.f1.toNat (0 : Int)).set _ _).length ≤ _
  rw [List.length_set, List.length_replicate]
  omega
theorem msgs_one {m : Msg} (h : m.f7.length ≤ 1000000000) : [m].length ≤ 1000000000 ∧ ∀ i, (rd_Msg [m] i).f7.length ≤ 1000000000 :=
  ⟨by simp, rd_f7 (fun x hx => by rw [List.mem_singleton.1 hx]; exact h)⟩
end Go.Proofs.YtggbjokhniigkaaGreat.Un
