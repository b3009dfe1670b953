/- Texts laid together: Va, Vb. No condition. -/
import Derived.Test.YtggbjokhniigkaaGreatWjq
/- What the reference's May, and Great, answer, in the replica's own words. -/
namespace Go.Proofs.YtggbjokhniigkaaGreat.Va
open Go.Proofs.YtggbjokhniigkaaGreat.Ty Go.RowKit Go.Proofs.YtggbjokhniigkaaGreatW.PrintWords Go.Proofs.YtggbjokhniigkaaGreatW.PrintLast Go.Proofs.YtggbjokhniigkaaGreatW.PrintMore Go.Proofs.YtggbjokhniigkaaGreat.Mx Go.Proofs.YtggbjokhniigkaaGreat.Kx Go.Proofs.YtggbjokhniigkaaGreat.Wa Go.Proofs.YtggbjokhniigkaaGreat.Wb Go.Proofs.YtggbjokhniigkaaGreat.Wc Go.Proofs.YtggbjokhniigkaaGreat.Wj Go.Proofs.YtggbjokhniigkaaGreat.PReplicaTakes
set_option linter.unusedVariables false
set_option linter.unusedSimpArgs false
theorem rd_map {l : List Entry} {j : Nat} (h : j < l.length) : rd_T68 (l.map toS) (j : Int) = toS (rd_Entry l (j : Int)) := by
  unfold rd_T68 rd_Entry
  simp [List.getD, h]
/-! ### Great -/
theorem entries_l (l : List SE) : ∀ (n j : Nat) (x : Int), n = l.length - j → j ≤ l.length → (j : Int) ≤ x → x ≤ 200001 → ∃ b, falseworklaw11_entries.l0 (n + 1) l x j = some b ∧ (b = false → l.length ≤ 1200)
  | 0, j, x, h, hj, hx, hx2 => by
    unfold falseworklaw11_entries.l0
    rw [if_neg (by omega)]
    by_cases g : x > 100000
    · rw [if_pos g]
      exact ⟨true, rfl, fun h => by cases h⟩
    · rw [if_neg g]
      exact ⟨_, rfl, fun h => by have := of_decide_eq_false h; omega⟩
  | n + 1, j, x, h, hj, hx, hx2 => by
    unfold falseworklaw11_entries.l0
    rw [if_pos (show (j : Int) < (l.length : Int) by omega)]
    by_cases g : x ≤ 100000
    · obtain ⟨y, hy⟩ : ∃ y, mn (((rd_T68 l (j : Int)).f1).size : Int) 100000 = y := ⟨_, rfl⟩
      have hy1 : 0 ≤ y ∧ y ≤ 100000 := by
        rw [← hy]
        unfold mn
        split <;> omega
      rw [if_pos g, if_pos (by omega), hy, wrap64_id (x := x + 1) (by omega) (by omega), wrap64_id (x := x + 1 + y) (by omega) (by omega), wrap1 j (by omega)]
      exact entries_l l n (j + 1) (x + 1 + y) (by omega) (by omega) (by push_cast; omega) (by omega)
    · rw [if_neg g, if_pos (by omega)]
      exact ⟨true, rfl, fun h => by cases h⟩
theorem entries_f (l : List SE) : ∃ b, (∀ k, l.length < k → falseworklaw11_entries.f k l = some b) ∧ (b = false → l.length ≤ 1200) := by
  obtain ⟨b, h1, h2⟩ := entries_l l l.length 0 0 (by omega) (by omega) (by omega) (by omega)
  refine ⟨b, fun k hk => ?_, h2⟩
  have hm : ∀ d, falseworklaw11_entries.f (l.length + 1 + d) l = some b := by
    intro d
    induction d with
    | zero => exact h1
    | succ d ih => exact falseworklaw11_entries.mono l (l.length + 1 + d) b ih
  obtain ⟨d, rfl⟩ : ∃ d, k = l.length + 1 + d := ⟨k - (l.length + 1), by omega⟩
  exact hm d
/-! ### Entries -/
theorem Entries_l (l : List Entry) : ∀ (n j : Nat) (last : Int), n = l.length - j → j ≤ l.length → l.length ≤ 1000000 → falseworkref11_Entries.l0 (n + 1) (l.map toS) last j = some (rises last (l.drop j))
  | 0, j, last, h, hj, hl => by
    unfold falseworkref11_Entries.l0
    rw [if_neg (by rw [List.length_map]; omega), List.drop_eq_nil_of_le (by omega)]
    rfl
  | n + 1, j, last, h, hj, hl => by
    unfold falseworkref11_Entries.l0
    have hj2 : j < l.length := by omega
    rw [if_pos (by rw [List.length_map]; omega), if_pos (by omega), rd_map hj2, rises_drop hj2]
    show (if (rd_Entry l (j : Int)).f0 ≤ last then some false else if (rd_Entry l (j : Int)).f0 ≥ 1099511627776 then some false else if ((rd_Entry l (j : Int)).f1.size : Int) > 20000 then some false else falseworkref11_Entries.l0 (n + 1) (l.map toS) (rd_Entry l (j : Int)).f0 (wrap64 ((j : Int) + 1))) = _
    by_cases c1 : (rd_Entry l (j : Int)).f0 ≤ last
    · rw [if_pos c1]
      have : decide (last < (rd_Entry l (j : Int)).f0) = false := decide_eq_false (by omega)
      rw [this]
      rfl
    rw [if_neg c1]
    by_cases c2 : (rd_Entry l (j : Int)).f0 ≥ 1099511627776
    · rw [if_pos c2]
      have : decide ((rd_Entry l (j : Int)).f0 < maxTime) = false := decide_eq_false (by unfold maxTime; omega)
      rw [this]
      simp
    rw [if_neg c2]
    by_cases c3 : ((rd_Entry l (j : Int)).f1.size : Int) > 20000
    · rw [if_pos c3]
      have : decide ((rd_Entry l (j : Int)).f1.size ≤ 20000) = false := decide_eq_false (by omega)
      rw [this]
      simp
    rw [if_neg c3, wrap1 j (by omega), Entries_l l n (j + 1) _ (by omega) (by omega) hl]
    have q1 : decide (last < (rd_Entry l (j : Int)).f0) = true := decide_eq_true (by omega)
    have q2 : decide ((rd_Entry l (j : Int)).f0 < maxTime) = true := decide_eq_true (by unfold maxTime; omega)
    have q3 : decide ((rd_Entry l (j : Int)).f1.size ≤ 20000) = true := decide_eq_true (by omega)
    rw [q1, q2, q3]
    rfl
theorem Entries_f (l : List Entry) (k : Nat) (hk : l.length < k) (hl : l.length ≤ 1000000) : falseworkref11_Entries.f k (l.map toS) = some (log l) := by
  have hm : ∀ d, falseworkref11_Entries.f (l.length + 1 + d) (l.map toS) = some (log l) := by
    intro d
    induction d with
    | zero =>
      have q := Entries_l l l.length 0 0 (by omega) (by omega) hl
      unfold falseworkref11_Entries.f log
      by_cases c : ((l.map toS).length : Int) > 1000
      · rw [if_pos c]
        rw [List.length_map] at c
        have : decide (l.length ≤ 1000) = false := decide_eq_false (by omega)
        rw [this]
        simp
      · rw [if_neg c]
        rw [List.length_map] at c
        have : decide (l.length ≤ 1000) = true := decide_eq_true (by omega)
        rw [this, Bool.and_true]
        exact q
    | succ d ih => exact falseworkref11_Entries.mono (l.map toS) (l.length + 1 + d) (log l) ih
  obtain ⟨d, rfl⟩ : ∃ d, k = l.length + 1 + d := ⟨k - (l.length + 1), by omega⟩
  exact hm d
/-! ### rising -/
theorem rising_l (l : List Int) (m : Int) : ∀ (n j : Nat) (last : Int), n = l.length - j → j ≤ l.length → l.length ≤ 1000000 → (j = 0 → last = -1) → (0 < j → last = rd l ((j : Int) - 1) ∧ 0 ≤ last) → falseworkref11_rising.l0 (n + 1) l m j = some (idsFrom m last (l.drop j))
  | 0, j, last, h, hj, hl, h0, h1 => by
    unfold falseworkref11_rising.l0
    rw [if_neg (by omega), List.drop_eq_nil_of_le (by omega)]
    rfl
  | n + 1, j, last, h, hj, hl, h0, h1 => by
    unfold falseworkref11_rising.l0
    have hj2 : j < l.length := by omega
    have hl0 : -1 ≤ last := by
      rcases Nat.eq_zero_or_pos j with g | g
      · have := h0 g
        omega
      · have := h1 g
        omega
    rw [if_pos (by omega), if_pos (by omega), idsFrom_drop hj2]
    by_cases c1 : rd l (j : Int) < 0
    · rw [if_pos c1]
      have : decide (last < rd l (j : Int)) = false := decide_eq_false (by omega)
      rw [this]
      rfl
    rw [if_neg c1]
    by_cases c2 : rd l (j : Int) ≥ m
    · rw [if_pos c2]
      have : decide (rd l (j : Int) < m) = false := decide_eq_false (by omega)
      rw [this]
      simp
    rw [if_neg c2]
    have q2 : decide (rd l (j : Int) < m) = true := decide_eq_true (by omega)
    have ih := rising_l l m n (j + 1) (rd l (j : Int)) (by omega) (by omega) hl (fun g => by omega) (fun _ => ⟨by rw [show ((j + 1 : Nat) : Int) - 1 = (j : Int) by push_cast; omega], by omega⟩)
    rcases Nat.eq_zero_or_pos j with g | g
    · have q1 : decide (last < rd l (j : Int)) = true := decide_eq_true (by have := h0 g; omega)
      rw [if_neg (by omega), wrap1 j (by omega), ih, q1, q2]
      rfl
    · have e : wrap64 ((j : Int) - 1) = (j : Int) - 1 := wrap64_id (by omega) (by omega)
      rw [if_pos (by omega), e, if_pos (by omega), if_pos (by omega), ← (h1 g).1]
      by_cases c3 : rd l (j : Int) ≤ last
      · rw [if_pos c3]
        have : decide (last < rd l (j : Int)) = false := decide_eq_false (by omega)
        rw [this]
        rfl
      · have q1 : decide (last < rd l (j : Int)) = true := decide_eq_true (by omega)
        rw [if_neg c3, wrap1 j (by omega), ih, q1, q2]
        rfl
theorem rising_f (l : List Int) (m : Int) (k : Nat) (hk : l.length < k) (hl : l.length ≤ 1000000) : falseworkref11_rising.f k l m = some (ids l m) := by
  have hm : ∀ d, falseworkref11_rising.f (l.length + 1 + d) l m = some (ids l m) := by
    intro d
    induction d with
    | zero => exact rising_l l m l.length 0 (-1) (by omega) (by omega) hl (fun _ => rfl) (fun g => by omega)
    | succ d ih => exact falseworkref11_rising.mono l m (l.length + 1 + d) (ids l m) ih
  obtain ⟨d, rfl⟩ : ∃ d, k = l.length + 1 + d := ⟨k - (l.length + 1), by omega⟩
  exact hm d
end Go.Proofs.YtggbjokhniigkaaGreat.Va
/- What the reference's May answers is what may be. -/
namespace Go.Proofs.YtggbjokhniigkaaGreat.Vb
open Go.Proofs.YtggbjokhniigkaaGreat.Ty Go.RowKit Go.Proofs.YtggbjokhniigkaaGreatW.PrintWords Go.Proofs.YtggbjokhniigkaaGreatW.PrintLast Go.Proofs.YtggbjokhniigkaaGreatW.PrintMore Go.Proofs.YtggbjokhniigkaaGreat.Mx Go.Proofs.YtggbjokhniigkaaGreat.Kx Go.Proofs.YtggbjokhniigkaaGreat.Wa Go.Proofs.YtggbjokhniigkaaGreat.Wb Go.Proofs.YtggbjokhniigkaaGreat.Wc Go.Proofs.YtggbjokhniigkaaGreat.Wj Go.Proofs.YtggbjokhniigkaaGreat.Va Go.Proofs.YtggbjokhniigkaaGreat.PReplicaTakes
set_option linter.unusedVariables false
set_option linter.unusedSimpArgs false
def tail (r : Rep) : Bool := ids r.f8 r.f1 && ids r.f9 r.f1 && log r.f10 && decide (-1 ≤ r.f11) && decide (r.f11 < maxTime) && decide (0 ≤ r.f12) && decide (r.f12 ≤ (r.f10.length : Int))
def inLog (r : Rep) (n : Int) : Bool := decide (0 ≤ n) && decide (n ≤ (r.f5.length : Int))
theorem May_l (r : Rep) (K : Nat) (h8 : r.f8.length < K) (h9 : r.f9.length < K) (h10 : r.f10.length < K) (hK : K ≤ 1000000) (h7 : r.f7.length ≤ 1000000) : ∀ (n j : Nat), n = r.f7.length - j → j ≤ r.f7.length →
    falseworkref11_May.l0 (K + n + 1) j r.f0 r.f1 r.f2 r.f3 r.f4 (r.f5.map toS) r.f6 r.f7 r.f8 r.f9 (r.f10.map toS) r.f11 r.f12 = some ((r.f7.drop j).all (inLog r) && tail r)
  | 0, j, h, hj => by
    unfold falseworkref11_May.l0
    rw [if_neg (by omega), List.drop_eq_nil_of_le (by omega), rising_f r.f8 r.f1 K (by omega) (by omega), rising_f r.f9 r.f1 K (by omega) (by omega), Entries_f r.f10 K (by omega) (by omega), List.length_map]
    simp only [Option.bind_some, List.all_nil, Bool.true_and]
    unfold tail
    by_cases c1 : ids r.f8 r.f1 = true
    · rw [if_pos c1, c1]
      by_cases c2 : ids r.f9 r.f1 = true
      · rw [if_pos c2, c2]
        by_cases c3 : log r.f10 = true
        · rw [if_pos c3, c3]
          by_cases c4 : r.f11 ≥ -1
          · rw [if_pos c4, decide_eq_true (show -1 ≤ r.f11 from c4)]
            by_cases c5 : r.f11 < 1099511627776
            · rw [if_pos c5, decide_eq_true (show r.f11 < maxTime from c5)]
              by_cases c6 : r.f12 ≥ 0
              · rw [if_pos c6, decide_eq_true (show 0 ≤ r.f12 from c6)]
                rfl
              · rw [if_neg c6, decide_eq_false (show ¬ 0 ≤ r.f12 from c6)]
                rfl
            · rw [if_neg c5, decide_eq_false (show ¬ r.f11 < maxTime from c5)]
              rfl
          · rw [if_neg c4, decide_eq_false (show ¬ -1 ≤ r.f11 from c4)]
            rfl
        · rw [if_neg c3, (by simpa using c3 : log r.f10 = false)]
          rfl
      · rw [if_neg c2, (by simpa using c2 : ids r.f9 r.f1 = false)]
        rfl
    · rw [if_neg c1, (by simpa using c1 : ids r.f8 r.f1 = false)]
      rfl
  | n + 1, j, h, hj => by
    have hj2 : j < r.f7.length := by omega
    have e : rd r.f7 (j : Int) = r.f7[j] := by
      unfold rd
      simp [List.getD, hj2]
    rw [show K + (n + 1) + 1 = (K + n + 1) + 1 by omega]
    unfold falseworkref11_May.l0
    rw [if_pos (by omega), if_pos (by omega), List.length_map, List.drop_eq_getElem_cons hj2, List.all_cons, e]
    by_cases c1 : r.f7[j] < 0
    · rw [if_pos c1]
      unfold inLog
      rw [decide_eq_false (show ¬ 0 ≤ r.f7[j] by omega)]
      rfl
    rw [if_neg c1]
    by_cases c2 : r.f7[j] > (r.f5.length : Int)
    · rw [if_pos c2]
      have q : inLog r r.f7[j] = false := by
        unfold inLog
        rw [decide_eq_false (show ¬ r.f7[j] ≤ (r.f5.length : Int) by omega), Bool.and_false]
      rw [q]
      rfl
    have q : inLog r r.f7[j] = true := by
      unfold inLog
      rw [decide_eq_true (show 0 ≤ r.f7[j] by omega), decide_eq_true (show r.f7[j] ≤ (r.f5.length : Int) by omega)]
      rfl
    rw [if_neg c2, wrap1 j (by omega), q, Bool.true_and]
    exact May_l r K h8 h9 h10 hK h7 n (j + 1) (by omega) (by omega)
theorem may_split (r : Rep) (h1 : size r.f1 = true) (h2 : 0 ≤ r.f0) (h3 : r.f0 < r.f1) (h4 : below r.f2 = true) (h5 : below r.f3 = true) (h6 : r.f3 ≤ r.f2) (h7 : 0 ≤ r.f4) (h8 : r.f4 ≤ 2) (h9 : r.f4 = 0 → r.f3 = r.f2) (h10 : log r.f5 = true) (h11 : 0 ≤ r.f6) (h12 : r.f6 ≤ (r.f5.length : Int)) (h13 : (r.f7.length : Int) = r.f1) : may r = (r.f7.all (inLog r) && tail r) := by
  have e9 : (!(decide (r.f4 = 0) && decide (r.f3 ≠ r.f2))) = true := by
    by_cases g : r.f4 = 0
    · simp [g, h9 g]
    · simp [g]
  unfold may
  rw [h1, decide_eq_true h2, decide_eq_true h3, h4, h5, decide_eq_true h6, decide_eq_true h7, decide_eq_true h8, e9, h10, decide_eq_true h11, decide_eq_true h12, decide_eq_true h13]
  unfold tail
  simp only [Bool.true_and, Bool.and_assoc]
  rfl
theorem not_may (r : Rep) (h : ¬ mayP r) : some false = some (may r) := by rw [may_false r h]
theorem odd_f (n : Int) : falseworkref11_odd.f n = some (size n) := by
  unfold falseworkref11_odd.f size
  by_cases h1 : n = 1
  · rw [if_pos h1, decide_eq_true h1]
    rfl
  rw [if_neg h1, decide_eq_false h1]
  by_cases h3 : n = 3
  · rw [if_pos h3, decide_eq_true h3]
    rfl
  rw [if_neg h3, decide_eq_false h3]
  by_cases h5 : n = 5
  · subst h5
    rfl
  · rw [decide_eq_false h5]
    simpa using h5
theorem time_f (n : Int) : falseworkref11_time.f n = some (below n) := by
  unfold falseworkref11_time.f below maxTime
  by_cases h : n ≥ 0
  · rw [if_pos h, decide_eq_true (show 0 ≤ n from h), Bool.true_and]
  · rw [if_neg h, decide_eq_false (show ¬ 0 ≤ n from h), Bool.false_and]
theorem May_f (r : Rep) (g5 : r.f5.length ≤ 1200) (g7 : r.f7.length ≤ 20) (g8 : r.f8.length ≤ 20) (g9 : r.f9.length ≤ 20) (g10 : r.f10.length ≤ 1200) :
    falseworkref11_May.f (2000 + r.f7.length + 1 + 1 + 1) r.f0 r.f1 r.f2 r.f3 r.f4 (r.f5.map toS) r.f6 r.f7 r.f8 r.f9 (r.f10.map toS) r.f11 r.f12 = some (may r) := by
  have hb : ∀ k, falseworkref11_May.j0 (k + 1) true r.f0 r.f1 r.f2 r.f3 r.f4 (r.f5.map toS) r.f6 r.f7 r.f8 r.f9 (r.f10.map toS) r.f11 r.f12 = some false := by
    intro k
    rw [falseworkref11_May.j0, if_pos rfl]
  have hb1 : ∀ k, falseworkref11_May.j1 (k + 1) true r.f0 r.f1 r.f2 r.f3 r.f4 (r.f5.map toS) r.f6 r.f7 r.f8 r.f9 (r.f10.map toS) r.f11 r.f12 = some false := by
    intro k
    rw [falseworkref11_May.j1, if_pos rfl]
  have hl : falseworkref11_May.l0 (2000 + r.f7.length + 1) 0 r.f0 r.f1 r.f2 r.f3 r.f4 (r.f5.map toS) r.f6 r.f7 r.f8 r.f9 (r.f10.map toS) r.f11 r.f12 = some (r.f7.all (inLog r) && tail r) := by
    have := May_l r 2000 (by omega) (by omega) (by omega) (by omega) (by omega) r.f7.length 0 (by omega) (by omega)
    rw [List.drop_zero] at this
    exact this
  unfold falseworkref11_May.f
  rw [odd_f, time_f, time_f]
  simp only [Option.bind_some, hb]
  by_cases c1 : ¬ (size r.f1 = true)
  · rw [if_neg c1]
    exact not_may r (fun h => c1 h.1)
  replace c1 := Classical.not_not.1 c1
  rw [if_pos c1]
  by_cases c2 : r.f0 < 0
  · rw [if_pos c2]
    exact not_may r (fun h => by have := h.2.1; omega)
  rw [if_neg c2]
  by_cases c3 : r.f0 ≥ r.f1
  · rw [if_pos c3]
    exact not_may r (fun h => by have := h.2.2.1; omega)
  rw [if_neg c3]
  by_cases c4 : ¬ (below r.f2 = true)
  · rw [if_neg c4]
    exact not_may r (fun h => c4 h.2.2.2.1)
  replace c4 := Classical.not_not.1 c4
  rw [if_pos c4]
  by_cases c5 : ¬ (below r.f3 = true)
  · rw [if_neg c5]
    exact not_may r (fun h => c5 h.2.2.2.2.1)
  replace c5 := Classical.not_not.1 c5
  rw [if_pos c5]
  by_cases c6 : r.f3 > r.f2
  · rw [if_pos c6]
    exact not_may r (fun h => by have := h.2.2.2.2.2.1; omega)
  rw [if_neg c6]
  by_cases c7 : r.f4 < 0
  · rw [if_pos c7]
    exact not_may r (fun h => by have := h.2.2.2.2.2.2.1; omega)
  rw [if_neg c7]
  by_cases c8 : r.f4 > 2
  · rw [if_pos c8]
    exact not_may r (fun h => by have := h.2.2.2.2.2.2.2.1; omega)
  rw [if_neg c8]
  have key : (r.f4 = 0 → r.f3 = r.f2) → falseworkref11_May.j0 (2000 + r.f7.length + 1 + 1 + 1) false r.f0 r.f1 r.f2 r.f3 r.f4 (r.f5.map toS) r.f6 r.f7 r.f8 r.f9 (r.f10.map toS) r.f11 r.f12 = some (may r) := by
    intro c9
    rw [falseworkref11_May.j0, if_neg (by simp), Entries_f r.f5 _ (by omega) (by omega), List.length_map]
    simp only [Option.bind_some, hb1]
    by_cases c10 : ¬ (log r.f5 = true)
    · rw [if_neg c10]
      exact not_may r (fun h => c10 h.2.2.2.2.2.2.2.2.2.1)
    replace c10 := Classical.not_not.1 c10
    rw [if_pos c10]
    by_cases c11 : r.f6 < 0
    · rw [if_pos c11]
      exact not_may r (fun h => by have := h.2.2.2.2.2.2.2.2.2.2.1; omega)
    rw [if_neg c11]
    by_cases c12 : r.f6 > (r.f5.length : Int)
    · rw [if_pos c12]
      exact not_may r (fun h => by have := h.2.2.2.2.2.2.2.2.2.2.2.1; omega)
    rw [if_neg c12]
    by_cases c13 : (r.f7.length : Int) = r.f1
    · rw [show ((r.f7.length : Int) != r.f1) = false by simpa using c13]
      rw [falseworkref11_May.j1, if_neg (by simp), hl, may_split r c1 (by omega) (by omega) c4 c5 (by omega) (by omega) (by omega) c9 c10 (by omega) (by omega) c13]
    · rw [show ((r.f7.length : Int) != r.f1) = true by simpa using c13, hb1]
      exact not_may r (fun h => c13 h.2.2.2.2.2.2.2.2.2.2.2.2.1)
  by_cases c9 : r.f4 = 0
  · rw [if_pos c9]
    by_cases c : r.f3 = r.f2
    · rw [show (r.f3 != r.f2) = false by simpa using c]
      exact key (fun _ => c)
    · rw [show (r.f3 != r.f2) = true by simpa using c, hb]
      exact not_may r (fun h => c (h.2.2.2.2.2.2.2.2.1 c9))
  · rw [if_neg c9]
    exact key (fun g => absurd g c9)
end Go.Proofs.YtggbjokhniigkaaGreat.Vb
