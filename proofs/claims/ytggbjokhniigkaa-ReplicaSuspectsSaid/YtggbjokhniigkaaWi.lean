/- Propose, whole. -/
import Derived.Test.YtggbjokhniigkaaWh
namespace Go.Proofs.Ytggbjokhniigkaa.Wi
open Go.Proofs.Ytggbjokhniigkaa.Ty Go.RowKit Go.Proofs.YtggbjokhniigkaaW.PrintWords Go.Proofs.YtggbjokhniigkaaW.PrintLast Go.Proofs.YtggbjokhniigkaaW.PrintMore Go.Proofs.Ytggbjokhniigkaa.Mx Go.Proofs.Ytggbjokhniigkaa.Kx Go.Proofs.Ytggbjokhniigkaa.Wa Go.Proofs.Ytggbjokhniigkaa.Wb Go.Proofs.Ytggbjokhniigkaa.Wc Go.Proofs.Ytggbjokhniigkaa.Wd Go.Proofs.Ytggbjokhniigkaa.We Go.Proofs.Ytggbjokhniigkaa.Wf Go.Proofs.Ytggbjokhniigkaa.Wh
set_option linter.unusedVariables false
theorem Propose_calls (r : Rep) (A5 A7 A8 A9 A10 : Option Addr) (c5 c7 c8 c9 c10 : Nat) (w : World) (h : RdRep w r A5 A7 A8 A9 A10) (hn : Small r) (time : Int) (data : ByteArray) (hs : data.size ≤ 1000000) (s : Rep) (msgs : List Msg) (kk code : Int) (hp : propose r time data = (s, msgs, kk, code)) :
    Calls Try.prog 34 #[.agg (rc r (.slice A5 r.f5.length c5) (.slice A7 r.f7.length c7) (.slice A8 r.f8.length c8) (.slice A9 r.f9.length c9) (.slice A10 r.f10.length c10)), .int .i64 time, .string data] w fun e w' => ∃ v5 v7 v8 v9 v10 vout : Value, e = .returned (.tuple #[.agg (rc s v5 v7 v8 v9 v10), vout, .int .i64 kk, .int .i64 code]) ∧ Mem w w' (rows s v5 v7 v8 v9 v10 ++ [row kM 29 vout msgs]) := by
  cases hx : (may r && below time && decide (data.size ≤ 20000)) with
  | false =>
    have hp1 := hp
    unfold propose at hp1
    rw [if_neg (by rw [hx]; simp)] at hp1
    cases hp1
    exact Propose_e1 r A5 A7 A8 A9 A10 c5 c7 c8 c9 c10 w h hn time data hs hx
  | true =>
    have hx1 := hx
    simp only [Bool.and_eq_true, decide_eq_true_eq] at hx1
    obtain ⟨⟨h1, h2⟩, h3⟩ := hx1
    by_cases hq : r.f4 = 0 ∧ r.f2 % r.f1 = r.f0
    · exact Propose_in r A5 A7 A8 A9 A10 c5 c7 c8 c9 c10 w h hn time data h3 h1 h2 hq.1 hq.2 s msgs kk code hp
    · have hp1 := hp
      unfold propose at hp1
      rw [if_pos hx, if_neg hq] at hp1
      cases hp1
      exact Propose_e17 r A5 A7 A8 A9 A10 c5 c7 c8 c9 c10 w h hn time data h3 h1 h2 hq
end Go.Proofs.Ytggbjokhniigkaa.Wi
