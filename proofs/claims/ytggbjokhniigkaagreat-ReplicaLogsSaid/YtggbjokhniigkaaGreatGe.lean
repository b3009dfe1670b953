/- Texts laid together: Va, Vb. No condition. -/
import Derived.Test.YtggbjokhniigkaaGreatWjq
/- What the reference's May, and Great, answer, in the replica's own words. -/
namespace Go.Proofs.YtggbjokhniigkaaGreat.Va
open Go.Proofs.YtggbjokhniigkaaGreat.Ty Go.RowKit Go.Proofs.YtggbjokhniigkaaGreatW.PrintWords Go.Proofs.YtggbjokhniigkaaGreatW.PrintLast Go.Proofs.YtggbjokhniigkaaGreatW.PrintMore Go.Proofs.YtggbjokhniigkaaGreat.Mx Go.Proofs.YtggbjokhniigkaaGreat.Kx Go.Proofs.YtggbjokhniigkaaGreat.Wa Go.Proofs.YtggbjokhniigkaaGreat.Wb Go.Proofs.YtggbjokhniigkaaGreat.Wc Go.Proofs.YtggbjokhniigkaaGreat.Wj Go.Proofs.YtggbjokhniigkaaGreat.PReplicaTakes
set_option linter.unusedVariables false
set_option linter.unusedSimpArgs false
theorem rd_map {l : List Entry} {j : Nat} (h : j < l.length) : rd_T68 (l.map toS) (j : Int) = toS (rd_Entry l (j : Int)) := by
  unfold rd_T68 rd_Entry
  simp [List.getD, h]
/-! ### Great -/
theorem entries_l (l : List SE) : ∀ (n j : Nat) (x : Int), n = l.length - j → j ≤ l.length → (j : Int) ≤ x → x ≤ 200001 → ∃ b, falseworklaw11_entries.l0 (n + 1) l x j = some b ∧ (b = false → l.length ≤ 1200)
  | 0, j, x, h, hj, hx, hx2 => by
    unfold falseworklaw11_entries.l0
    rw [if_neg (by omega)]
    by_cases g : x > 100000
    · rw [if_pos g]
      exact ⟨true, rfl, fun h => by cases h⟩
    · rw [if_neg g]
      exact ⟨_, rfl, fun h => by have := of_decide_eq_false h; omega⟩
  | n + 1, j, x, h, hj, hx, hx2 => by
    unfold falseworklaw11_entries.l0
    rw [if_pos (show (j : Int) < (l.length : Int) by omega)]
    by_cases g : x ≤ 100000
    · obtain ⟨y, hy⟩ : ∃ y, mn (((rd_T68 l (j : Int)).f1).size : Int) 100000 = y := ⟨_, rfl⟩
      have hy1 : 0 ≤ y ∧ y ≤ 100000 := by
        rw [← hy]
        unfold mn
        split <;> omega
      rw [if_pos g, if_pos (by omega), hy, wrap64_id (x := x + 1) (by omega) (by omega), wrap64_id (x := x + 1 + y) (by omega) (by omega), wrap1 j (by omega)]
      exact entries_l l n (j + 1) (x + 1 + y) (by omega) (by omega) (by push_cast; omega) (by omega)
    · rw [if_neg g, if_pos (by omega)]
      exact ⟨true, rfl, fun h => by cases h⟩
theorem entries_f (l : List SE) : ∃ b, (∀ k, l.length < k → falseworklaw11_entries.f k l = some b) ∧ (b = false → l.length ≤ 1200) := by
  obtain ⟨b, h1, h2⟩ := entries_l l l.length 0 0 (by omega) (by omega) (by omega) (by omega)
  refine ⟨b, fun k hk => ?_, h2⟩
  have hm : ∀ d, falseworklaw11_entries.f (l.length + 1 + d) l = some b := by
    intro d
    induction d with
    | zero => exact h1
    | succ d ih => exact falseworklaw11_entries.mono l (l.length + 1 + d) b ih
  obtain ⟨d, rfl⟩ : ∃ d, k = l.length + 1 + d := ⟨k - (l.length + 1), by omega⟩
  exact hm d
/-! ### Entries -/
/-! ### rising -/
end Go.Proofs.YtggbjokhniigkaaGreat.Va
/- What the reference's May answers is what may be. -/
namespace Go.Proofs.YtggbjokhniigkaaGreat.Vb
open Go.Proofs.YtggbjokhniigkaaGreat.Ty Go.RowKit Go.Proofs.YtggbjokhniigkaaGreatW.PrintWords Go.Proofs.YtggbjokhniigkaaGreatW.PrintLast Go.Proofs.YtggbjokhniigkaaGreatW.PrintMore Go.Proofs.YtggbjokhniigkaaGreat.Mx Go.Proofs.YtggbjokhniigkaaGreat.Kx Go.Proofs.YtggbjokhniigkaaGreat.Wa Go.Proofs.YtggbjokhniigkaaGreat.Wb Go.Proofs.YtggbjokhniigkaaGreat.Wc Go.Proofs.YtggbjokhniigkaaGreat.Wj Go.Proofs.YtggbjokhniigkaaGreat.Va Go.Proofs.YtggbjokhniigkaaGreat.PReplicaTakes
set_option linter.unusedVariables false
set_option linter.unusedSimpArgs false
def tail (r : Rep) : Bool := ids r.f8 r.f1 && ids r.f9 r.f1 && log r.f10 && decide (-1 ≤ r.f11) && decide (r.f11 < maxTime) && decide (0 ≤ r.f12) && decide (r.f12 ≤ (r.f10.length : Int))
def inLog (r : Rep) (n : Int) : Bool := decide (0 ≤ n) && decide (n ≤ (r.f5.length : Int))
theorem may_split (r : Rep) (h1 : size r.f1 = true) (h2 : 0 ≤ r.f0) (h3 : r.f0 < r.f1) (h4 : below r.f2 = true) (h5 : below r.f3 = true) (h6 : r.f3 ≤ r.f2) (h7 : 0 ≤ r.f4) (h8 : r.f4 ≤ 2) (h9 : r.f4 = 0 → r.f3 = r.f2) (h10 : log r.f5 = true) (h11 : 0 ≤ r.f6) (h12 : r.f6 ≤ (r.f5.length : Int)) (h13 : (r.f7.length : Int) = r.f1) : may r = (r.f7.all (inLog r) && tail r) := by
  have e9 : (!(decide (r.f4 = 0) && decide (r.f3 ≠ r.f2))) = true := by
    by_cases g : r.f4 = 0
    · simp [g, h9 g]
    · simp [g]
  unfold may
  rw [h1, decide_eq_true h2, decide_eq_true h3, h4, h5, decide_eq_true h6, decide_eq_true h7, decide_eq_true h8, e9, h10, decide_eq_true h11, decide_eq_true h12, decide_eq_true h13]
  unfold tail
  simp only [Bool.true_and, Bool.and_assoc]
  rfl
theorem not_may (r : Rep) (h : ¬ mayP r) : some false = some (may r) := by rw [may_false r h]
theorem odd_f (n : Int) : falseworkref11_odd.f n = some (size n) := by
  unfold falseworkref11_odd.f size
  by_cases h1 : n = 1
  · rw [if_pos h1, decide_eq_true h1]
    rfl
  rw [if_neg h1, decide_eq_false h1]
  by_cases h3 : n = 3
  · rw [if_pos h3, decide_eq_true h3]
    rfl
  rw [if_neg h3, decide_eq_false h3]
  by_cases h5 : n = 5
  · subst h5
    rfl
  · rw [decide_eq_false h5]
    simpa using h5
theorem time_f (n : Int) : falseworkref11_time.f n = some (below n) := by
  unfold falseworkref11_time.f below maxTime
  by_cases h : n ≥ 0
  · rw [if_pos h, decide_eq_true (show 0 ≤ n from h), Bool.true_and]
  · rw [if_neg h, decide_eq_false (show ¬ 0 ≤ n from h), Bool.false_and]
end Go.Proofs.YtggbjokhniigkaaGreat.Vb
