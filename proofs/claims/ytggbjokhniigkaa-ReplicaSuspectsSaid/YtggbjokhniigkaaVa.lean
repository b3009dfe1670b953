/- What the reference's May, and Great, answer, in the replica's own words. -/
import Derived.Test.YtggbjokhniigkaaWj
namespace Go.Proofs.Ytggbjokhniigkaa.Va
open Go.Proofs.Ytggbjokhniigkaa.Ty Go.RowKit Go.Proofs.YtggbjokhniigkaaW.PrintWords Go.Proofs.YtggbjokhniigkaaW.PrintLast Go.Proofs.YtggbjokhniigkaaW.PrintMore Go.Proofs.Ytggbjokhniigkaa.Mx Go.Proofs.Ytggbjokhniigkaa.Kx Go.Proofs.Ytggbjokhniigkaa.Wa Go.Proofs.Ytggbjokhniigkaa.Wb Go.Proofs.Ytggbjokhniigkaa.Wc Go.Proofs.Ytggbjokhniigkaa.Wj Go.Proofs.Ytggbjokhniigkaa.PReplicaProposes
set_option linter.unusedVariables false
set_option linter.unusedSimpArgs false
theorem rd_map {l : List Entry} {j : Nat} (h : j < l.length) : rd_T102 (l.map toS) (j : Int) = toS (rd_Entry l (j : Int)) := by
  unfold rd_T102 rd_Entry
  simp [List.getD, h]
/-! ### Great -/
theorem entries_l (l : List SE) : ∀ (n j : Nat) (x : Int), n = l.length - j → j ≤ l.length → (j : Int) ≤ x → x ≤ 200001 → ∃ b, falseworklaw11_entries.l0 (n + 1) l x j = some b ∧ (b = false → l.length ≤ 1200)
  | 0, j, x, h, hj, hx, hx2 => by
    unfold falseworklaw11_entries.l0
    rw [if_neg (by omega)]
    by_cases g : x > 100000
    · rw [if_pos g]
      exact ⟨true, rfl, fun h => by cases h⟩
    · rw [if_neg g]
      exact ⟨_, rfl, fun h => by have := of_decide_eq_false h; omega⟩
  | n + 1, j, x, h, hj, hx, hx2 => by
    unfold falseworklaw11_entries.l0
    rw [if_pos (show (j : Int) < (l.length : Int) by omega)]
    by_cases g : x ≤ 100000
    · obtain ⟨y, hy⟩ : ∃ y, mn (((rd_T102 l (j : Int)).f1).size : Int) 100000 = y := ⟨_, rfl⟩
      have hy1 : 0 ≤ y ∧ y ≤ 100000 := by
        rw [← hy]
        unfold mn
        split <;> omega
      rw [if_pos g, if_pos (by omega), hy, wrap64_id (x := x + 1) (by omega) (by omega), wrap64_id (x := x + 1 + y) (by omega) (by omega), wrap1 j (by omega)]
      exact entries_l l n (j + 1) (x + 1 + y) (by omega) (by omega) (by push_cast; omega) (by omega)
    · rw [if_neg g, if_pos (by omega)]
      exact ⟨true, rfl, fun h => by cases h⟩
theorem entries_f (l : List SE) : ∃ b, (∀ k, l.length < k → falseworklaw11_entries.f k l = some b) ∧ (b = false → l.length ≤ 1200) := by
  obtain ⟨b, h1, h2⟩ := entries_l l l.length 0 0 (by omega) (by omega) (by omega) (by omega)
  refine ⟨b, fun k hk => ?_, h2⟩
  have hm : ∀ d, falseworklaw11_entries.f (l.length + 1 + d) l = some b := by
    intro d
    induction d with
    | zero => exact h1
    | succ d ih => exact falseworklaw11_entries.mono l (l.length + 1 + d) b ih
  obtain ⟨d, rfl⟩ : ∃ d, k = l.length + 1 + d := ⟨k - (l.length + 1), by omega⟩
  exact hm d
theorem Great_f (r : Rep) : ∃ k b, falseworklaw11_Great.f k r.f0 r.f1 r.f2 r.f3 r.f4 (r.f5.map toS) r.f6 r.f7 r.f8 r.f9 (r.f10.map toS) r.f11 r.f12 = some b ∧ (b = false → r.f5.length ≤ 1200 ∧ r.f7.length ≤ 20 ∧ r.f8.length ≤ 20 ∧ r.f9.length ≤ 20 ∧ r.f10.length ≤ 1200) := by
  obtain ⟨b1, h1, g1⟩ := entries_f (r.f5.map toS)
  obtain ⟨b2, h2, g2⟩ := entries_f (r.f10.map toS)
  refine ⟨(r.f5.map toS).length + (r.f10.map toS).length + 1, ?_⟩
  unfold falseworklaw11_Great.f
  rw [h1 _ (by omega), h2 _ (by omega)]
  rw [List.length_map] at g1 g2
  simp only [Option.bind_some]
  cases b1 with
  | true => exact ⟨true, by simp, fun h => by cases h⟩
  | false =>
  cases b2 with
  | true => exact ⟨true, by simp, fun h => by cases h⟩
  | false =>
    rw [if_neg (by simp), if_neg (by simp)]
    by_cases h7 : (r.f7.length : Int) > 20
    · rw [if_pos h7]
      exact ⟨true, rfl, fun h => by cases h⟩
    rw [if_neg h7]
    by_cases h8 : (r.f8.length : Int) > 20
    · rw [if_pos h8]
      exact ⟨true, rfl, fun h => by cases h⟩
    rw [if_neg h8]
    exact ⟨_, rfl, fun h => ⟨g1 rfl, by omega, by omega, by have := of_decide_eq_false h; omega, g2 rfl⟩⟩
/-! ### Entries -/
theorem Entries_l (l : List Entry) : ∀ (n j : Nat) (last : Int), n = l.length - j → j ≤ l.length → l.length ≤ 1000000 → falseworkref11_Entries.l0 (n + 1) (l.map toS) last j = some (rises last (l.drop j))
  | 0, j, last, h, hj, hl => by
    unfold falseworkref11_Entries.l0
    rw [if_neg (by rw [List.length_map]; omega), List.drop_eq_nil_of_le (by omega)]
    rfl
  | n + 1, j, last, h, hj, hl => by
    unfold falseworkref11_Entries.l0
    have hj2 : j < l.length := by omega
    rw [if_pos (by rw [List.length_map]; omega), if_pos (by omega), rd_map hj2, rises_drop hj2]
    show (if (rd_Entry l (j : Int)).f0 ≤ last then some false else if (rd_Entry l (j : Int)).f0 ≥ 1099511627776 then some false else if ((rd_Entry l (j : Int)).f1.size : Int) > 20000 then some false else falseworkref11_Entries.l0 (n + 1) (l.map toS) (rd_Entry l (j : Int)).f0 (wrap64 ((j : Int) + 1))) = _
    by_cases c1 : (rd_Entry l (j : Int)).f0 ≤ last
    · rw [if_pos c1]
      have : decide (last < (rd_Entry l (j : Int)).f0) = false := decide_eq_false (by omega)
      rw [this]
      rfl
    rw [if_neg c1]
    by_cases c2 : (rd_Entry l (j : Int)).f0 ≥ 1099511627776
    · rw [if_pos c2]
      have : decide ((rd_Entry l (j : Int)).f0 < maxTime) = false := decide_eq_false (by unfold maxTime; omega)
      rw [this]
      simp
    rw [if_neg c2]
    by_cases c3 : ((rd_Entry l (j : Int)).f1.size : Int) > 20000
    · rw [if_pos c3]
      have : decide ((rd_Entry l (j : Int)).f1.size ≤ 20000) = false := decide_eq_false (by omega)
      rw [this]
      simp
    rw [if_neg c3, wrap1 j (by omega), Entries_l l n (j + 1) _ (by omega) (by omega) hl]
    have q1 : decide (last < (rd_Entry l (j : Int)).f0) = true := decide_eq_true (by omega)
    have q2 : decide ((rd_Entry l (j : Int)).f0 < maxTime) = true := decide_eq_true (by unfold maxTime; omega)
    have q3 : decide ((rd_Entry l (j : Int)).f1.size ≤ 20000) = true := decide_eq_true (by omega)
    rw [q1, q2, q3]
    rfl
theorem Entries_f (l : List Entry) (k : Nat) (hk : l.length < k) (hl : l.length ≤ 1000000) : falseworkref11_Entries.f k (l.map toS) = some (log l) := by
  have hm : ∀ d, falseworkref11_Entries.f (l.length + 1 + d) (l.map toS) = some (log l) := by
    intro d
    induction d with
    | zero =>
      have q := Entries_l l l.length 0 0 (by omega) (by omega) hl
      unfold falseworkref11_Entries.f log
      by_cases c : ((l.map toS).length : Int) > 1000
      · rw [if_pos c]
        rw [List.length_map] at c
        have : decide (l.length ≤ 1000) = false := decide_eq_false (by omega)
        rw [this]
        simp
      · rw [if_neg c]
        rw [List.length_map] at c
        have : decide (l.length ≤ 1000) = true := decide_eq_true (by omega)
        rw [this, Bool.and_true]
        exact q
    | succ d ih => exact falseworkref11_Entries.mono (l.map toS) (l.length + 1 + d) (log l) ih
  obtain ⟨d, rfl⟩ : ∃ d, k = l.length + 1 + d := ⟨k - (l.length + 1), by omega⟩
  exact hm d
/-! ### rising -/
theorem rising_l (l : List Int) (m : Int) : ∀ (n j : Nat) (last : Int), n = l.length - j → j ≤ l.length → l.length ≤ 1000000 → (j = 0 → last = -1) → (0 < j → last = rd l ((j : Int) - 1) ∧ 0 ≤ last) → falseworkref11_rising.l0 (n + 1) l m j = some (idsFrom m last (l.drop j))
  | 0, j, last, h, hj, hl, h0, h1 => by
    unfold falseworkref11_rising.l0
    rw [if_neg (by omega), List.drop_eq_nil_of_le (by omega)]
    rfl
  | n + 1, j, last, h, hj, hl, h0, h1 => by
    unfold falseworkref11_rising.l0
    have hj2 : j < l.length := by omega
    have hl0 : -1 ≤ last := by
      rcases Nat.eq_zero_or_pos j with g | g
      · have := h0 g
        omega
      · have := h1 g
        omega
    rw [if_pos (by omega), if_pos (by omega), idsFrom_drop hj2]
    by_cases c1 : rd l (j : Int) < 0
    · rw [if_pos c1]
      have : decide (last < rd l (j : Int)) = false := decide_eq_false (by omega)
      rw [this]
      rfl
    rw [if_neg c1]
    by_cases c2 : rd l (j : Int) ≥ m
    · rw [if_pos c2]
      have : decide (rd l (j : Int) < m) = false := decide_eq_false (by omega)
      rw [this]
      simp
    rw [if_neg c2]
    have q2 : decide (rd l (j : Int) < m) = true := decide_eq_true (by omega)
    have ih := rising_l l m n (j + 1) (rd l (j : Int)) (by omega) (by omega) hl (fun g => by omega) (fun _ => ⟨by rw [show ((j + 1 : Nat) : Int) - 1 = (j : Int) by push_cast; omega], by omega⟩)
    rcases Nat.eq_zero_or_pos j with g | g
    · have q1 : decide (last < rd l (j : Int)) = true := decide_eq_true (by have := h0 g; omega)
      rw [if_neg (by omega), wrap1 j (by omega), ih, q1, q2]
      rfl
    · have e : wrap64 ((j : Int) - 1) = (j : Int) - 1 := wrap64_id (by omega) (by omega)
      rw [if_pos (by omega), e, if_pos (by omega), if_pos (by omega), ← (h1 g).1]
      by_cases c3 : rd l (j : Int) ≤ last
      · rw [if_pos c3]
        have : decide (last < rd l (j : Int)) = false := decide_eq_false (by omega)
        rw [this]
        rfl
      · have q1 : decide (last < rd l (j : Int)) = true := decide_eq_true (by omega)
        rw [if_neg c3, wrap1 j (by omega), ih, q1, q2]
        rfl
theorem rising_f (l : List Int) (m : Int) (k : Nat) (hk : l.length < k) (hl : l.length ≤ 1000000) : falseworkref11_rising.f k l m = some (ids l m) := by
  have hm : ∀ d, falseworkref11_rising.f (l.length + 1 + d) l m = some (ids l m) := by
    intro d
    induction d with
    | zero => exact rising_l l m l.length 0 (-1) (by omega) (by omega) hl (fun _ => rfl) (fun g => by omega)
    | succ d ih => exact falseworkref11_rising.mono l m (l.length + 1 + d) (ids l m) ih
  obtain ⟨d, rfl⟩ : ∃ d, k = l.length + 1 + d := ⟨k - (l.length + 1), by omega⟩
  exact hm d
end Go.Proofs.Ytggbjokhniigkaa.Va
