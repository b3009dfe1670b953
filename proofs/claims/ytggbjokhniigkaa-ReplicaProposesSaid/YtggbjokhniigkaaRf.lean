/- The reference's Propose, whole; how great what it makes is. -/
import Derived.Test.YtggbjokhniigkaaRe
namespace Go.Proofs.Ytggbjokhniigkaa.Rf
open Go.Proofs.Ytggbjokhniigkaa.Ty Go.RowKit Go.Proofs.YtggbjokhniigkaaW.PrintWords Go.Proofs.YtggbjokhniigkaaW.PrintLast Go.Proofs.YtggbjokhniigkaaW.PrintMore Go.Proofs.Ytggbjokhniigkaa.Mx Go.Proofs.Ytggbjokhniigkaa.Kx Go.Proofs.Ytggbjokhniigkaa.Wa Go.Proofs.Ytggbjokhniigkaa.Wb Go.Proofs.Ytggbjokhniigkaa.Wc Go.Proofs.Ytggbjokhniigkaa.Wd Go.Proofs.Ytggbjokhniigkaa.We Go.Proofs.Ytggbjokhniigkaa.Wj Go.Proofs.Ytggbjokhniigkaa.Va Go.Proofs.Ytggbjokhniigkaa.Vb Go.Proofs.Ytggbjokhniigkaa.Vc Go.Proofs.Ytggbjokhniigkaa.Ra Go.Proofs.Ytggbjokhniigkaa.Rb Go.Proofs.Ytggbjokhniigkaa.Rc Go.Proofs.Ytggbjokhniigkaa.Rd Go.Proofs.Ytggbjokhniigkaa.Re Go.Proofs.Ytggbjokhniigkaa.PReplicaProposes
set_option linter.unusedVariables false
theorem P11_calls (r : Rep) (A5 A7 A8 A9 A10 : Option Addr) (c5 c7 c8 c9 c10 : Nat) (w : World) (h : RdRep w r A5 A7 A8 A9 A10) (hc : Fit r c5 c7 c8 c9 c10) (hn : r.f5.length ≤ 1200 ∧ r.f7.length ≤ 20 ∧ r.f8.length ≤ 20 ∧ r.f9.length ≤ 20 ∧ r.f10.length ≤ 1200) (time : Int) (data : ByteArray) (hs : data.size ≤ 1000000) (s : Rep) (msgs : List Msg) (kk code : Int) (hp : propose r time data = (s, msgs, kk, code)) :
    Calls Try.prog 35 #[.agg #[.int .i64 r.f0, .int .i64 r.f1, .int .i64 r.f2, .int .i64 r.f3, .int .i64 r.f4, .slice A5 r.f5.length c5, .int .i64 r.f6, .slice A7 r.f7.length c7, .slice A8 r.f8.length c8, .slice A9 r.f9.length c9, .slice A10 r.f10.length c10, .int .i64 r.f11, .int .i64 r.f12], .int .i64 time, .string data] w fun e w' => Out w w' e s msgs kk code := by
  cases hx : (may r && below time && decide (data.size ≤ 20000)) with
  | false =>
    have hp1 := hp
    unfold propose at hp1
    rw [if_neg (by rw [hx]; simp)] at hp1
    cases hp1
    exact P11_e1 r A5 A7 A8 A9 A10 c5 c7 c8 c9 c10 w h hc hn time data hs hx
  | true =>
    have hx1 := hx
    simp only [Bool.and_eq_true, decide_eq_true_eq] at hx1
    obtain ⟨⟨h1, h2⟩, h3⟩ := hx1
    exact P11_in r A5 A7 A8 A9 A10 c5 c7 c8 c9 c10 w h hc hn time data h3 h1 h2 s msgs kk code hp
theorem allFrom_len (id n view : Int) (m : Msg) : ∀ (k : Nat) (i : Int), (allFrom id n view m k i).length ≤ k
  | 0, _ => by simp [allFrom]
  | k + 1, i => by
    have := allFrom_len id n view m k (i + 1)
    simp only [allFrom]
    split
    · split
      · omega
      · simp only [List.length_cons]; omega
    · simp
theorem allFrom_f7 (id n view : Int) (m : Msg) : ∀ (k : Nat) (i : Int), ∀ x ∈ allFrom id n view m k i, x.f7 = m.f7
  | 0, _ => by simp [allFrom]
  | k + 1, i => by
    have ih := allFrom_f7 id n view m k (i + 1)
    simp only [allFrom]
    split
    · split
      · exact ih
      · intro x hx
        rcases List.mem_cons.1 hx with rfl | hx
        · rfl
        · exact ih x hx
    · simp
theorem rd_f7 {l : List Msg} {n : Nat} (h : ∀ x ∈ l, x.f7.length ≤ n) (i : Int) : (rd_Msg l i).f7.length ≤ n := by
  unfold rd_Msg
  rcases Nat.lt_or_ge i.toNat l.length with g | g
  · rw [List.getD, List.getElem?_eq_getElem g]
    exact h _ (List.getElem_mem g)
  · rw [List.getD, List.getElem?_eq_none g]
    exact Nat.zero_le _
/-- What Propose makes is no greater than that. -/
theorem propose_small (r : Rep) (time : Int) (data : ByteArray) (s : Rep) (msgs : List Msg) (kk code : Int) (hp : propose r time data = (s, msgs, kk, code)) (h5 : r.f5.length ≤ 1200) (h7 : r.f7.length ≤ 20) (h8 : r.f8.length ≤ 20) (h9 : r.f9.length ≤ 20) (h10 : r.f10.length ≤ 1200) :
    (s.f5.length < 1000000 ∧ s.f7.length < 1000000 ∧ s.f8.length < 1000000 ∧ s.f9.length < 1000000 ∧ s.f10.length < 1000000) ∧ msgs.length ≤ 1000000000 ∧ ∀ i, (rd_Msg msgs i).f7.length ≤ 1000000000 := by
  have hz : ∀ i, (rd_Msg [] i).f7.length ≤ 1000000000 := rd_f7 (by simp)
  unfold propose at hp
  split at hp
  · rename_i hx
    simp only [Bool.and_eq_true] at hx
    have hm := (may_iff r).1 hx.1.1
    have hn : r.f1 ≤ 5 := by
      have := hm.1
      unfold size at this
      simp at this
      omega
    split at hp
    · split at hp
      · cases hp
        exact ⟨by omega, by simp, hz⟩
      · cases hp
        refine ⟨⟨?_, ?_, ?_, ?_, ?_⟩, ?_, ?_⟩
        · show (r.f5 ++ [_]).length < _
          simp
          omega
        · show (r.f7.set _ _).length < _
          simp
          omega
        · show r.f8.length < _
          omega
        · show r.f9.length < _
          omega
        · show r.f10.length < _
          omega
        · have := allFrom_len (proposed r ⟨nextTime r.f5 time, data⟩).f0 (proposed r ⟨nextTime r.f5 time, data⟩).f1 (proposed r ⟨nextTime r.f5 time, data⟩).f2 ⟨1, 0, 0, 0, (r.f5.length : Int) + 1, (proposed r ⟨nextTime r.f5 time, data⟩).f6, 0, [⟨nextTime r.f5 time, data⟩]⟩ (proposed r ⟨nextTime r.f5 time, data⟩).f1.toNat 0
          refine Nat.le_trans this ?_
          show r.f1.toNat ≤ _
          omega
        · refine rd_f7 (fun x hx => ?_)
          rw [allFrom_f7 _ _ _ _ _ _ x hx]
          simp
    · cases hp
      exact ⟨by omega, by simp, hz⟩
  · cases hp
    exact ⟨by omega, by simp, hz⟩
end Go.Proofs.Ytggbjokhniigkaa.Rf
