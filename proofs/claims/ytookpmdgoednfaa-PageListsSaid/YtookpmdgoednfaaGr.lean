/- What is not gone through: the law's 'great' ends, and where it says no, pages are few and short. No condition. -/
import Derived.Test.YtookpmdgoednfaaPy
namespace Go.Proofs.Ytookpmdgoednfaa.Gr
open Go.RowKit Go.Proofs.YtookpmdgoednfaaW.PrintWords Go.Proofs.YtookpmdgoednfaaW.PrintLast Go.Proofs.YtookpmdgoednfaaW.PrintMore Go.Proofs.Ytookpmdgoednfaa.PPagePuts Go.Proofs.Ytookpmdgoednfaa.Py
set_option linter.unusedVariables false
theorem wr {x : Int} (h0 : 0 ≤ x) (h1 : x ≤ 100000) : wrap64 x = x := by unfold wrap64; omega
theorem great_l1 (ps : List (List SP)) (i : Nat) (hi : i < ps.length) (hp : ps[i].length ≤ 9223372036854775807) (hn : ps.length ≤ 9223372036854775807) (n : Int) (b : Bool) (H : Ev (fun k => falseworklaw7_great.l0 k ps n ((i + 1 : Nat) : Int)) b) :
    ∀ (d j : Nat), ps[i].length - j = d → j ≤ ps[i].length → ∃ b', Ev (fun k => falseworklaw7_great.l1 k ps n i j) b' ∧ (b' = false → b = false) := by
  intro d
  have out : ∀ j : Nat, Ev (fun k => falseworklaw7_great.j3 k ps n i j false) b := fun j =>
    Ev.step (f := fun k => falseworklaw7_great.l0 k ps n ((i + 1 : Nat) : Int)) (fun k => by
      simp only [falseworklaw7_great.j3]
      rw [if_neg (by simp), wrap_one hi hn]) H
  induction d with
  | zero =>
    intro j hd hj
    refine ⟨b, Ev.step (f := fun k => falseworklaw7_great.j3 k ps n i j false) (fun k => ?_) (out j), id⟩
    simp only [falseworklaw7_great.l1]
    rw [if_pos (by omega), if_pos (by omega), rdL hi, if_neg (by omega)]
  | succ d ih =>
    intro j hd hj
    have hlt : j < ps[i].length := by omega
    have e1 : ∀ k, falseworklaw7_great.l1 (k + 1) ps n i j = falseworklaw7_great.j3 k ps n i j (decide (n ≤ 400)) := fun k => by
      simp only [falseworklaw7_great.l1]
      rw [if_pos (by omega), if_pos (by omega), rdL hi, if_pos (by omega)]
    by_cases h4 : n ≤ 400
    · rw [decide_eq_true h4] at e1
      have e2 : ∀ k, falseworklaw7_great.j3 (k + 1) ps n i j true = if ((ps[i][j].f0).size : Int) > 1000 then some true else (if ((ps[i][j].f1).size : Int) > 1000 then some true else falseworklaw7_great.l1 k ps n i ((j + 1 : Nat) : Int)) := fun k => by
        simp only [falseworklaw7_great.j3]
        rw [if_pos trivial, if_pos (by omega), if_pos (by omega), if_pos (by omega), rdL hi, if_pos (by omega), rdT hlt, wrap_one hlt hp]
      by_cases c1 : ((ps[i][j].f0).size : Int) > 1000
      · exact ⟨true, Ev.step e1 (Ev.step (f := fun _ => some true) (fun k => by rw [e2, if_pos c1]) (Ev.now true)), fun h => by cases h⟩
      · by_cases c2 : ((ps[i][j].f1).size : Int) > 1000
        · exact ⟨true, Ev.step e1 (Ev.step (f := fun _ => some true) (fun k => by rw [e2, if_neg c1, if_pos c2]) (Ev.now true)), fun h => by cases h⟩
        · obtain ⟨b', h1, h2⟩ := ih (j + 1) (by omega) (by omega)
          exact ⟨b', Ev.step e1 (Ev.step (f := fun k => falseworklaw7_great.l1 k ps n i ((j + 1 : Nat) : Int)) (fun k => by rw [e2, if_neg c1, if_neg c2]) h1), h2⟩
    · rw [decide_eq_false h4] at e1
      exact ⟨b, Ev.step e1 (out j), id⟩
theorem great_l0 (ps : List (List SP)) (hn : ps.length ≤ 9223372036854775807) (hp : ∀ p ∈ ps, p.length ≤ 9223372036854775807) : ∀ (d i : Nat) (n : Int), ps.length - i = d → i ≤ ps.length → 0 ≤ n → n ≤ 801 →
    ∃ b, Ev (fun k => falseworklaw7_great.l0 k ps n i) b ∧ (b = false → ((ps.length - i : Nat) : Int) + n ≤ 400 ∧ ∀ p ∈ ps.drop i, p.length ≤ 400) := by
  intro d
  have out : ∀ (n : Int) (i : Nat), Ev (fun k => falseworklaw7_great.j1 k ps n i false) (decide (n > 400)) := fun n i => Ev.step (f := fun _ => some (decide (n > 400))) (fun k => by
    simp only [falseworklaw7_great.j1]
    rw [if_neg (by simp)]) (Ev.now _)
  induction d with
  | zero =>
    intro i n hd hi h0 h1
    refine ⟨decide (n > 400), Ev.step (f := fun k => falseworklaw7_great.j1 k ps n i false) (fun k => ?_) (out n i), fun h => ⟨?_, ?_⟩⟩
    · simp only [falseworklaw7_great.l0]
      rw [if_neg (by omega)]
    · have := of_decide_eq_false h
      omega
    · rw [List.drop_eq_nil_of_le (by omega)]
      intro p h
      cases h
  | succ d ih =>
    intro i n hd hi h0 h1
    have hlt : i < ps.length := by omega
    have e1 : ∀ k, falseworklaw7_great.l0 (k + 1) ps n i = falseworklaw7_great.j1 k ps n i (decide (n ≤ 400)) := fun k => by
      simp only [falseworklaw7_great.l0]
      rw [if_pos (by omega)]
    by_cases h4 : n ≤ 400
    · rw [decide_eq_true h4] at e1
      obtain ⟨m, hm⟩ : ∃ m, m = n + 1 + mn (ps[i].length : Int) 400 := ⟨_, rfl⟩
      have hm1 : n + 1 ≤ m ∧ m ≤ 801 ∧ (400 < ps[i].length → 400 < m) := by
        rw [hm]
        unfold mn
        omega
      obtain ⟨b, h2, h3⟩ := ih (i + 1) m (by omega) (by omega) (by omega) (by omega)
      obtain ⟨b', h5, h6⟩ := great_l1 ps i hlt (hp _ (List.getElem_mem hlt)) hn m b h2 ps[i].length 0 (by omega) (by omega)
      refine ⟨b', Ev.step e1 (Ev.step (f := fun k => falseworklaw7_great.l1 k ps m i 0) (fun k => ?_) h5), fun h => ?_⟩
      · simp only [falseworklaw7_great.j1]
        rw [if_pos trivial, if_pos (by omega), if_pos (by omega), rdL hlt, wr (x := n + 1) (by omega) (by omega), ← hm, wr (by omega) (by omega)]
      · obtain ⟨g1, g2⟩ := h3 (h6 h)
        refine ⟨by omega, fun p hpm => ?_⟩
        rw [List.drop_eq_getElem_cons hlt] at hpm
        rcases List.mem_cons.1 hpm with rfl | hpm
        · rcases Nat.lt_or_ge 400 ps[i].length with g | g
          · have := hm1.2.2 g
            omega
          · exact g
        · exact g2 p hpm
    · rw [decide_eq_false h4] at e1
      exact ⟨true, Ev.step e1 (by have := out n i; rwa [decide_eq_true (by omega)] at this), fun h => by cases h⟩
theorem great_ev (ps : List (List SP)) (hn : ps.length ≤ 9223372036854775807) (hp : ∀ p ∈ ps, p.length ≤ 9223372036854775807) : ∃ k b, falseworklaw7_great.f k ps = some b ∧ (b = false → ps.length ≤ 400 ∧ ∀ p ∈ ps, p.length ≤ 400) := by
  obtain ⟨b, h1, h2⟩ := great_l0 ps hn hp ps.length 0 0 (by omega) (by omega) (by omega) (by omega)
  obtain ⟨k, hk⟩ := h1.rounds
  refine ⟨k, b, hk, fun h => ?_⟩
  obtain ⟨g1, g2⟩ := h2 h
  rw [List.drop_zero] at g2
  exact ⟨by omega, g2⟩
end Go.Proofs.Ytookpmdgoednfaa.Gr
