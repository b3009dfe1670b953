/- Both Takes of an ask, in plain words. -/
import Derived.Test.YtggbjokhniigkaaGreatGm
import Derived.Test.YtggbjokhniigkaaGreatTxq
import Derived.Test.YtggbjokhniigkaaGreatGp7
import Derived.Test.YtggbjokhniigkaaGreatGi
import Derived.Test.YtggbjokhniigkaaGreatTraq
import Derived.Test.YtggbjokhniigkaaGreatGo7
namespace Go.Proofs.YtggbjokhniigkaaGreat.Tj
open Go.Proofs.YtggbjokhniigkaaGreat.Tra Go.Proofs.YtggbjokhniigkaaGreat.Tt7 Go.Proofs.YtggbjokhniigkaaGreat.Ty Go.RowKit Go.Proofs.YtggbjokhniigkaaGreatW.PrintWords Go.Proofs.YtggbjokhniigkaaGreatW.PrintLast Go.Proofs.YtggbjokhniigkaaGreatW.PrintMore Go.Proofs.YtggbjokhniigkaaGreat.Mx Go.Proofs.YtggbjokhniigkaaGreat.Kx Go.Proofs.YtggbjokhniigkaaGreat.Wa Go.Proofs.YtggbjokhniigkaaGreat.Wb Go.Proofs.YtggbjokhniigkaaGreat.Wc Go.Proofs.YtggbjokhniigkaaGreat.Wd Go.Proofs.YtggbjokhniigkaaGreat.Vc Go.Proofs.YtggbjokhniigkaaGreat.Wj Go.Proofs.YtggbjokhniigkaaGreat.Tk Go.Proofs.YtggbjokhniigkaaGreat.Tb Go.Proofs.YtggbjokhniigkaaGreat.Tn Go.Proofs.YtggbjokhniigkaaGreat.Tt Go.Proofs.YtggbjokhniigkaaGreat.Tx Go.Proofs.YtggbjokhniigkaaGreat.Tm Go.Proofs.YtggbjokhniigkaaGreat.Tr
set_option linter.unusedVariables false
theorem mayP_iff (r : Rep) (m : Msg) : mayMsgP r m ↔ mayMsg r m = true := by
  unfold mayMsgP mayMsg mayM
  simp only [Bool.and_eq_true, decide_eq_true_eq, Bool.or_eq_true, Bool.not_eq_true', beq_eq_false_iff_ne, beq_iff_eq, ne_eq]
  constructor
  · rintro ⟨a1, a2, a3, a4, a5, a6, a7, a8, a9, a10, a11, a12⟩
    refine ⟨a1, a2, a3, a4, a5, a6, a7, a8, a9, a10, a11, ?_⟩
    by_cases h : m.f0 = 1
    · exact .inr (by have := a12 h; omega)
    · exact .inl h
  · rintro ⟨a1, a2, a3, a4, a5, a6, a7, a8, a9, a10, a11, a12⟩
    exact ⟨a1, a2, a3, a4, a5, a6, a7, a8, a9, a10, a11, fun h => a12.elim (fun h' => absurd h h') (fun h' => by omega)⟩
theorem mayMsg_in (r : Rep) (m : Msg) (h1 : 1 ≤ m.f0) (h8 : m.f0 ≤ 8) : mayMsg r m = mayM r m := by simp [mayMsg, h1, h8]
theorem mayM_f4 {r : Rep} {m : Msg} (h : mayM r m = true) : 0 ≤ m.f4 := by
  unfold mayM at h
  simp only [Bool.and_eq_true] at h
  have := h.2.2.2.2.2.1
  unfold below at this
  simp at this
  exact this.1
theorem ask_calls (w0 w : World) (F : List Res) (g : Nat) (r : Rep) (m : Msg) (v5 v7 v8 v9 v10 : Value) (A : Option Addr) (c : Nat) (hM : Mem w0 w (blk g 95 (Wa.wc r.f0 r.f1 r.f2 r.f3 r.f4 v5 r.f6 v7 v8 v9 v10 r.f11 r.f12 (.slice none 0 0)) :: row kM 27 (.slice none 0 0) [] :: row kE 68 v5 r.f5 :: row (Kd.int .i64) 3 v7 r.f7 :: row (Kd.int .i64) 3 v8 r.f8 :: row (Kd.int .i64) 3 v9 r.f9 :: row kE 68 v10 r.f10 :: F)) (hm : mayM r m = true) (hn : r.f5.length ≤ 1000000) :
    Calls Tryz.prog 108 #[.pointer (some ⟨g, 0, none⟩), .agg #[.int .i64 m.f0, .int .i64 m.f1, .int .i64 m.f2, .int .i64 m.f3, .int .i64 m.f4, .int .i64 m.f5, .int .i64 m.f6, .slice A m.f7.length c]] w fun e w' => e = .returned (.tuple #[]) ∧ ∃ v5' v7' v8' v9' v10' vout' : Value, Mem w0 w' (blk g 95 (Wa.wc (tAsk r m).1.f0 (tAsk r m).1.f1 (tAsk r m).1.f2 (tAsk r m).1.f3 (tAsk r m).1.f4 v5' (tAsk r m).1.f6 v7' v8' v9' v10' (tAsk r m).1.f11 (tAsk r m).1.f12 vout') :: row kM 27 vout' (tAsk r m).2 :: row kE 68 v5' (tAsk r m).1.f5 :: row (Kd.int .i64) 3 v7' (tAsk r m).1.f7 :: row (Kd.int .i64) 3 v8' (tAsk r m).1.f8 :: row (Kd.int .i64) 3 v9' (tAsk r m).1.f9 :: row kE 68 v10' (tAsk r m).1.f10 :: F) := by
  by_cases h1 : m.f3 = r.f2
  case neg =>
    have e : tAsk r m = (r, []) := by unfold tAsk; rw [if_neg (fun h => h1 h.1)]
    rw [e]
    exact ask_n1 w0 w F g r m v5 v7 v8 v9 v10 A c hM h1
  by_cases h2 : r.f4 = 0
  case neg =>
    have e : tAsk r m = (r, []) := by unfold tAsk; rw [if_neg (fun h => h2 h.2.1)]
    rw [e]
    exact ask_n2 w0 w F g r m v5 v7 v8 v9 v10 A c hM h1 h2
  by_cases h3 : m.f4 ≤ (r.f5.length : Int)
  case neg =>
    have e : tAsk r m = (r, []) := by unfold tAsk; rw [if_neg (fun h => h3 h.2.2)]
    rw [e]
    exact ask_n3 w0 w F g r m v5 v7 v8 v9 v10 A c hM h1 h2 h3
  have e : tAsk r m = (r, [toOne r m.f1 ⟨8, 0, 0, 0, m.f4, r.f6, 0, r.f5.drop m.f4.toNat⟩]) := by unfold tAsk; rw [if_pos ⟨h1, h2, h3⟩]
  rw [e]
  obtain ⟨B5, d5, rfl, _, _⟩ := hM.row_at 2 rfl
  by_cases hdk : d5 = m.f4.toNat
  · exact ask_yes0 w0 w F g r m B5 d5 v7 v8 v9 v10 A c hM hdk h1 h2 h3 (mayM_f4 hm) hn
  · exact ask_yes1 w0 w F g r m B5 d5 v7 v8 v9 v10 A c hM hdk h1 h2 h3 (mayM_f4 hm) hn
theorem take_bad {r : Rep} {m : Msg} (h : may r = false ∨ mayMsg r m = false) : take r m = (r, [], 1) := by
  unfold take
  rw [if_neg]
  rintro ⟨h1, h2⟩
  rw [mayP_iff] at h2
  rcases h with h | h
  · rw [h] at h1; cases h1
  · rw [h] at h2; cases h2
theorem take_ask {r : Rep} {m : Msg} (hk : m.f0 = 7) (h1 : may r = true) (h2 : mayMsg r m = true) : take r m = ((tAsk r m).1, (tAsk r m).2, 0) := by
  unfold take act
  rw [if_pos ⟨h1, (mayP_iff r m).2 h2⟩]
  simp [hk]
/-- replica.Take of an ask. -/
theorem TakeAsk_calls (r : Rep) (m : Msg) (A5 A7 A8 A9 A10 A : Option Addr) (c5 c7 c8 c9 c10 c : Nat) (w : World) (h : RdRep w r A5 A7 A8 A9 A10) (hs : r.f5.length ≤ 1200 ∧ r.f7.length ≤ 20 ∧ r.f8.length ≤ 20 ∧ r.f9.length ≤ 20 ∧ r.f10.length ≤ 1200) (hl : Kd.C kE w A m.f7.length m.f7) (hln : m.f7.length ≤ 1000000) (hk : m.f0 = 7) :
    Calls Tryz.prog 34 #[.agg (rc r (.slice A5 r.f5.length c5) (.slice A7 r.f7.length c7) (.slice A8 r.f8.length c8) (.slice A9 r.f9.length c9) (.slice A10 r.f10.length c10)), .agg #[.int .i64 m.f0, .int .i64 m.f1, .int .i64 m.f2, .int .i64 m.f3, .int .i64 m.f4, .int .i64 m.f5, .int .i64 m.f6, .slice A m.f7.length c]] w fun e w' => ∃ v5 v7 v8 v9 v10 vout : Value, e = .returned (.tuple #[.agg (rc (take r m).1 v5 v7 v8 v9 v10), vout, .int .i64 (take r m).2.2]) ∧ Mem w w' (rows (take r m).1 v5 v7 v8 v9 v10 ++ [row kM 27 vout (take r m).2.1]) := by
  have hn : Small r := ⟨Nat.le_trans hs.1 (by decide), Nat.le_trans hs.2.1 (by decide), Nat.le_trans hs.2.2.1 (by decide), Nat.le_trans hs.2.2.2.1 (by decide), Nat.le_trans hs.2.2.2.2 (by decide)⟩
  have hin : mayMsg r m = mayM r m := mayMsg_in r m (by omega) (by omega)
  cases h1 : may r with
  | false =>
    rw [take_bad (.inl h1)]
    exact Take_e1 r m A5 A7 A8 A9 A10 A c5 c7 c8 c9 c10 c w h hn hl h1
  | true =>
    cases h2 : mayM r m with
    | false =>
      rw [take_bad (.inr (hin.trans h2))]
      exact Take_e2 r m A5 A7 A8 A9 A10 A c5 c7 c8 c9 c10 c w h hn hl h1 (fun w0 w F g v5 v7 v8 v9 v10 hM hl => takes_no w0 w F g r m v5 v7 v8 v9 v10 (.slice none 0 0) A c (by omega) (by omega) h2 hM hl (by omega))
    | true =>
      rw [take_ask hk h1 (hin.trans h2)]
      exact Take_ok r m A5 A7 A8 A9 A10 A c5 c7 c8 c9 c10 c w h hn hl h1 (tAsk r m).1 (tAsk r m).2 (fun w0 w F g v5 v7 v8 v9 v10 hM hl => takes_7 w0 w F g r (tAsk r m).1 m v5 v7 v8 v9 v10 (.slice none 0 0) (tAsk r m).2 A c hk h2 hM hl (by omega) (fun F w hM => ask_calls w0 w F g r m v5 v7 v8 v9 v10 A c hM h2 (by omega)))
/-- The reference's Take of an ask. -/
theorem TakeAsk11_calls (r : Rep) (m : Msg) (A5 A7 A8 A9 A10 A : Option Addr) (c5 c7 c8 c9 c10 c : Nat) (w : World) (h : RdRep w r A5 A7 A8 A9 A10) (hc : Fit r c5 c7 c8 c9 c10) (hs : r.f5.length ≤ 1200 ∧ r.f7.length ≤ 20 ∧ r.f8.length ≤ 20 ∧ r.f9.length ≤ 20 ∧ r.f10.length ≤ 1200) (hl : Kd.C kE w A m.f7.length m.f7) (hlc : m.f7.length ≤ c) (hln : m.f7.length ≤ 1000000) (hk : m.f0 = 7) :
    Calls Tryz.prog 35 #[.agg #[.int .i64 r.f0, .int .i64 r.f1, .int .i64 r.f2, .int .i64 r.f3, .int .i64 r.f4, .slice A5 r.f5.length c5, .int .i64 r.f6, .slice A7 r.f7.length c7, .slice A8 r.f8.length c8, .slice A9 r.f9.length c9, .slice A10 r.f10.length c10, .int .i64 r.f11, .int .i64 r.f12], .agg #[.int .i64 m.f0, .int .i64 m.f1, .int .i64 m.f2, .int .i64 m.f3, .int .i64 m.f4, .int .i64 m.f5, .int .i64 m.f6, .slice A m.f7.length c]] w fun e w' => OutS w w' e (take r m).1 (take r m).2.1 (take r m).2.2 := by
  have hin : mayMsg r m = mayM r m := mayMsg_in r m (by omega) (by omega)
  cases h1 : may r with
  | false =>
    rw [take_bad (.inl h1)]
    exact Take11_e1 r m A5 A7 A8 A9 A10 A c5 c7 c8 c9 c10 c w h hc hs hl hlc hln h1
  | true =>
    cases h2 : mayMsg r m with
    | false =>
      rw [take_bad (.inr h2)]
      exact Take11_e2 r m A5 A7 A8 A9 A10 A c5 c7 c8 c9 c10 c w h hc hs hl hlc hln h1 h2
    | true =>
      rw [take_ask hk h1 h2]
      by_cases h3 : m.f3 = r.f2
      case neg =>
        have e : tAsk r m = (r, []) := by unfold tAsk; rw [if_neg (fun h => h3 h.1)]
        rw [e]
        exact ask11_n1 r m A5 A7 A8 A9 A10 A c5 c7 c8 c9 c10 c w h hc hs hl hlc hln hk h1 h2 h3
      by_cases h4 : r.f4 = 0
      case neg =>
        have e : tAsk r m = (r, []) := by unfold tAsk; rw [if_neg (fun h => h4 h.2.1)]
        rw [e]
        exact ask11_n2 r m A5 A7 A8 A9 A10 A c5 c7 c8 c9 c10 c w h hc hs hl hlc hln hk h1 h2 h3 h4
      by_cases h5 : m.f4 ≤ (r.f5.length : Int)
      case neg =>
        have e : tAsk r m = (r, []) := by unfold tAsk; rw [if_neg (fun h => h5 h.2.2)]
        rw [e]
        exact ask11_n3 r m A5 A7 A8 A9 A10 A c5 c7 c8 c9 c10 c w h hc hs hl hlc hln hk h1 h2 h3 h4 h5
      have e : tAsk r m = (r, [toOne r m.f1 ⟨8, 0, 0, 0, m.f4, r.f6, 0, r.f5.drop m.f4.toNat⟩]) := by unfold tAsk; rw [if_pos ⟨h3, h4, h5⟩]
      rw [e]
      exact ask11_yes r m A5 A7 A8 A9 A10 A c5 c7 c8 c9 c10 c w h hc hs hl hlc hln hk h1 h2 h3 h4 h5 (mayM_f4 (hin ▸ h2))
end Go.Proofs.YtggbjokhniigkaaGreat.Tj
