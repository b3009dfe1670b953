/- A pair more: the program's Put and the reference's, side by side. No condition. -/
import Derived.Test.YtookpmdgoednfaaPp
import Derived.Test.YtookpmdgoednfaaPz
namespace Go.Proofs.Ytookpmdgoednfaa.Pq
open Go.RowKit Go.Proofs.YtookpmdgoednfaaW.PrintWords Go.Proofs.YtookpmdgoednfaaW.PrintLast Go.Proofs.YtookpmdgoednfaaW.PrintMore Go.Proofs.Ytookpmdgoednfaa.Mx Go.Proofs.Ytookpmdgoednfaa.PPagePuts Go.Proofs.Ytookpmdgoednfaa.Pa Go.Proofs.Ytookpmdgoednfaa.Pp Go.Proofs.Ytookpmdgoednfaa.Pz
set_option linter.unusedVariables false
theorem part_small {q : List SP} (h : q.length ≤ 8) : Px.part q = [q] := by unfold Px.part; rw [if_neg (by omega)]
theorem part_great {q : List SP} (h : 8 < q.length) : Px.part q = [q.take 4, q.drop 4] := by unfold Px.part; rw [if_pos (by omega)]
/-- What page.Put gives reads as a, and a is alike to what the reference's Put computes. -/
structure Both (ps : List (List SP)) (key val : ByteArray) (a b : List (List SP)) : Prop where
  als : Als a b
  len : a.length ≤ 100000
  one : ∀ p ∈ a, p.length ≤ 100000
  put : ∀ (A : Option Addr) (c : Nat) (w : World), Kd.C (Kd.slice 41 kP) w A ps.length ps → ps.length ≤ c →
    Calls Try.prog 25 #[.slice A ps.length c, .string key, .string val] w fun e w' => ∃ (v : Value) (hs : List Hd), e = .returned v ∧ PgM w w' v hs a []
  ref : Ev (fun r => falseworkref7_Put.f r ps key val) b
theorem both (ps : List (List SP)) (key val : ByteArray) (hn : ps.length ≤ 400) : ∃ a b, Both ps key val a b := by
  have hR := Py.page_right ps (by omega)
  obtain ⟨k0, hk0⟩ := hR.rounds
  cases hr : Py.right ps with
  | false =>
    rw [hr] at hk0
    exact ⟨[], [], Als_refl _, by simp, by simp, fun A c w hl hc => Put_not A c ps key val w hl hc k0 hk0, refput_not ps key val (by omega) hr⟩
  | true =>
    rw [hr] at hk0
    by_cases hne : ps.length = 0
    · obtain rfl := List.eq_nil_of_length_eq_zero hne
      exact ⟨[[⟨key, val⟩]], [[⟨key, val⟩]], Als_refl _, by simp, by simp, fun A c w hl hc => Put_none A c key val w hl k0 hk0, refput_none key val⟩
    · have rt := Px.rt_of hr
      obtain ⟨k, hk, h1, h2⟩ := Px.page_cut rt key.toList
      have hnk : k - 1 < ps.length := by omega
      have hp : ps[k - 1]? = some ps[k - 1] := List.getElem?_eq_getElem hnk
      have hpD : ps.getD (k - 1) [] = ps[k - 1] := by simp [List.getD, hnk]
      generalize hpe : ps[k - 1] = p at hp hpD
      have hpm : p ∈ ps := by rw [← hpe]; exact List.getElem_mem hnk
      have hpl := rt.len p hpm
      obtain ⟨i, hi, g1, g2⟩ := Px.pair_cut (rt.page p hpm) key.toList
      have hone : ∀ q ∈ ps, q.length ≤ 100000 := fun q hq => by have := (rt.len q hq).2; omega
      have htake : ∀ q ∈ ps.take (k - 1), q.length ≤ 100000 := fun q hq => hone q (List.mem_of_mem_take hq)
      have hdrop : ∀ q ∈ ps.drop (k - 1 + 1), q.length ≤ 100000 := fun q hq => hone q (List.mem_of_mem_drop hq)
      cases hb : (decide (i < p.length) && ((rd_T41 p i).f0.toList == key.toList)) with
      | true =>
        have href := refput ps key val (by omega) hr (by omega) k hk h1 h2 p hp i hi g1 g2 true hb
        rw [Bool.and_eq_true] at hb
        have hth : i < p.length := of_decide_eq_true hb.1
        rw [if_pos rfl, part_small (by simp only [List.length_append, List.length_take, List.length_singleton, List.length_drop]; omega)] at href
        have e1 : ps.take (k - 1) ++ [p.take i ++ [⟨key, val⟩] ++ p.drop (i + 1)] ++ ps.drop (k - 1 + 1) = ps.take (k - 1) ++ (p.take i ++ ⟨key, val⟩ :: p.drop (i + 1)) :: ps.drop (k - 1 + 1) := by simp
        rw [e1] at href
        have e2 : ps.set (k - 1) (p.set i ⟨(rd_T41 p i).f0, val⟩) = ps.take (k - 1) ++ (p.take i ++ ⟨(rd_T41 p i).f0, val⟩ :: p.drop (i + 1)) :: ps.drop (k - 1 + 1) := by
          rw [list_set _ hnk, list_set _ hth]
        refine ⟨_, _, ?_, ?_, ?_, fun A c w hl hc => Put_there A c ps key val w hl hc k0 hk0 (by omega) (by omega) rt.len k hk h1 h2 p hpD i hi g1 g2 hth hb.2, href⟩
        · rw [e2]
          exact Als_mid (Al_mid ⟨by simpa using hb.2, rfl⟩)
        · rw [List.length_set]; omega
        · intro q hq
          rcases List.mem_or_eq_of_mem_set hq with hq | rfl
          · exact hone q hq
          · rw [List.length_set]; omega
      | false =>
        have href := refput ps key val (by omega) hr (by omega) k hk h1 h2 p hp i hi g1 g2 false hb
        rw [if_neg (by simp)] at href
        generalize hq0 : p.take i ++ [⟨key, val⟩] ++ p.drop i = q at href
        have hql : q.length = p.length + 1 := by
          rw [← hq0]; simp only [List.length_append, List.length_take, List.length_singleton, List.length_drop]; omega
        by_cases h8 : p.length < 8
        · rw [part_small (by omega)] at href
          have e1 : ps.take (k - 1) ++ [q] ++ ps.drop (k - 1 + 1) = ps.set (k - 1) q := by rw [list_set _ hnk]; simp
          rw [e1] at href
          refine ⟨_, _, Als_refl _, ?_, ?_, fun A c w hl hc => Put_fits A c ps key val w hl hc k0 hk0 (by omega) (by omega) rt.len k hk h1 h2 p hpD i hi g1 g2 hb h8 q hq0, href⟩
          · rw [List.length_set]; omega
          · intro x hx
            rcases List.mem_or_eq_of_mem_set hx with hx | rfl
            · exact hone x hx
            · omega
        · rw [part_great (by omega)] at href
          have e1 : ps.take (k - 1) ++ [q.take 4, q.drop 4] ++ ps.drop (k - 1 + 1) = ps.take (k - 1) ++ q.take 4 :: q.drop 4 :: ps.drop (k - 1 + 1) := by simp
          rw [e1] at href
          refine ⟨_, _, Als_refl _, ?_, ?_, fun A c w hl hc => Put_parts A c ps key val w hl hc k0 hk0 (by omega) (by omega) rt.len k hk h1 h2 p hpD i hi g1 g2 hb (by omega) q hq0, href⟩
          · simp only [List.length_append, List.length_take, List.length_cons, List.length_drop]; omega
          · intro x hx
            simp only [List.mem_append, List.mem_cons] at hx
            rcases hx with hx | rfl | rfl | hx
            · exact htake x hx
            · simp only [List.length_take]; omega
            · simp only [List.length_drop]; omega
            · exact hdrop x hx
end Go.Proofs.Ytookpmdgoednfaa.Pq
