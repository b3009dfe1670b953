/- Texts laid together: Ve, Fi. No condition. -/
import Derived.Test.YtggbjokhniigkaaGreatY2z9
namespace Go.Proofs.YtggbjokhniigkaaGreat.Ve
open Go.Proofs.YtggbjokhniigkaaGreat.Ty Go.RowKit Go.Proofs.YtggbjokhniigkaaGreatW.PrintWords Go.Proofs.YtggbjokhniigkaaGreatW.PrintLast Go.Proofs.YtggbjokhniigkaaGreatW.PrintMore Go.Proofs.YtggbjokhniigkaaGreat.Mx Go.Proofs.YtggbjokhniigkaaGreat.Kx Go.Proofs.YtggbjokhniigkaaGreat.Wa Go.Proofs.YtggbjokhniigkaaGreat.Wb Go.Proofs.YtggbjokhniigkaaGreat.Wc Go.Proofs.YtggbjokhniigkaaGreat.Wj Go.Proofs.YtggbjokhniigkaaGreat.Va Go.Proofs.YtggbjokhniigkaaGreat.Vb Go.Proofs.YtggbjokhniigkaaGreat.Vc Go.Proofs.YtggbjokhniigkaaGreat.Wd Go.Proofs.YtggbjokhniigkaaGreat.PReplicaTakes
set_option linter.unusedVariables false
set_option linter.unusedSimpArgs false
theorem wrap64_idG {x : Int} (h : -9223372036854775808 ≤ x) (h2 : x ≤ 9223372036854775807) : wrap64 x = x := by
  unfold wrap64
  go_num
theorem wrapG (j : Nat) (h : j ≤ 9223372036854775806) : wrap64 ((j : Int) + 1) = ((j + 1 : Nat) : Int) := by
  rw [wrap64_idG (by omega) (by omega)]
  push_cast
  rfl
theorem Entries_lG (l : List Entry) : ∀ (n j : Nat) (last : Int), n = l.length - j → j ≤ l.length → l.length ≤ 9223372036854775807 → falseworkref11_Entries.l0 (n + 1) (l.map toS) last j = some (rises last (l.drop j))
  | 0, j, last, h, hj, hl => by
    unfold falseworkref11_Entries.l0
    rw [if_neg (by rw [List.length_map]; omega), List.drop_eq_nil_of_le (by omega)]
    rfl
  | n + 1, j, last, h, hj, hl => by
    unfold falseworkref11_Entries.l0
    have hj2 : j < l.length := by omega
    rw [if_pos (by rw [List.length_map]; omega), if_pos (by omega), rd_map hj2, rises_drop hj2]
    show (if (rd_Entry l (j : Int)).f0 ≤ last then some false else if (rd_Entry l (j : Int)).f0 ≥ 1099511627776 then some false else if ((rd_Entry l (j : Int)).f1.size : Int) > 20000 then some false else falseworkref11_Entries.l0 (n + 1) (l.map toS) (rd_Entry l (j : Int)).f0 (wrap64 ((j : Int) + 1))) = _
    by_cases c1 : (rd_Entry l (j : Int)).f0 ≤ last
    · rw [if_pos c1]
      have : decide (last < (rd_Entry l (j : Int)).f0) = false := decide_eq_false (by omega)
      rw [this]
      rfl
    rw [if_neg c1]
    by_cases c2 : (rd_Entry l (j : Int)).f0 ≥ 1099511627776
    · rw [if_pos c2]
      have : decide ((rd_Entry l (j : Int)).f0 < maxTime) = false := decide_eq_false (by unfold maxTime; omega)
      rw [this]
      simp
    rw [if_neg c2]
    by_cases c3 : ((rd_Entry l (j : Int)).f1.size : Int) > 20000
    · rw [if_pos c3]
      have : decide ((rd_Entry l (j : Int)).f1.size ≤ 20000) = false := decide_eq_false (by omega)
      rw [this]
      simp
    rw [if_neg c3, wrapG j (by omega), Entries_lG l n (j + 1) _ (by omega) (by omega) hl]
    have q1 : decide (last < (rd_Entry l (j : Int)).f0) = true := decide_eq_true (by omega)
    have q2 : decide ((rd_Entry l (j : Int)).f0 < maxTime) = true := decide_eq_true (by unfold maxTime; omega)
    have q3 : decide ((rd_Entry l (j : Int)).f1.size ≤ 20000) = true := decide_eq_true (by omega)
    rw [q1, q2, q3]
    rfl

theorem Entries_fG (l : List Entry) (k : Nat) (hk : l.length < k) (hl : l.length ≤ 9223372036854775807) : falseworkref11_Entries.f k (l.map toS) = some (log l) := by
  have hm : ∀ d, falseworkref11_Entries.f (l.length + 1 + d) (l.map toS) = some (log l) := by
    intro d
    induction d with
    | zero =>
      have q := Entries_lG l l.length 0 0 (by omega) (by omega) hl
      unfold falseworkref11_Entries.f log
      by_cases c : ((l.map toS).length : Int) > 1000
      · rw [if_pos c]
        rw [List.length_map] at c
        have : decide (l.length ≤ 1000) = false := decide_eq_false (by omega)
        rw [this]
        simp
      · rw [if_neg c]
        rw [List.length_map] at c
        have : decide (l.length ≤ 1000) = true := decide_eq_true (by omega)
        rw [this, Bool.and_true]
        exact q
    | succ d ih => exact falseworkref11_Entries.mono (l.map toS) (l.length + 1 + d) (log l) ih
  obtain ⟨d, rfl⟩ : ∃ d, k = l.length + 1 + d := ⟨k - (l.length + 1), by omega⟩
  exact hm d

theorem rising_lG (l : List Int) (m : Int) : ∀ (n j : Nat) (last : Int), n = l.length - j → j ≤ l.length → l.length ≤ 9223372036854775807 → (j = 0 → last = -1) → (0 < j → last = rd l ((j : Int) - 1) ∧ 0 ≤ last) → falseworkref11_rising.l0 (n + 1) l m j = some (idsFrom m last (l.drop j))
  | 0, j, last, h, hj, hl, h0, h1 => by
    unfold falseworkref11_rising.l0
    rw [if_neg (by omega), List.drop_eq_nil_of_le (by omega)]
    rfl
  | n + 1, j, last, h, hj, hl, h0, h1 => by
    unfold falseworkref11_rising.l0
    have hj2 : j < l.length := by omega
    have hl0 : -1 ≤ last := by
      rcases Nat.eq_zero_or_pos j with g | g
      · have := h0 g
        omega
      · have := h1 g
        omega
    rw [if_pos (by omega), if_pos (by omega), idsFrom_drop hj2]
    by_cases c1 : rd l (j : Int) < 0
    · rw [if_pos c1]
      have : decide (last < rd l (j : Int)) = false := decide_eq_false (by omega)
      rw [this]
      rfl
    rw [if_neg c1]
    by_cases c2 : rd l (j : Int) ≥ m
    · rw [if_pos c2]
      have : decide (rd l (j : Int) < m) = false := decide_eq_false (by omega)
      rw [this]
      simp
    rw [if_neg c2]
    have q2 : decide (rd l (j : Int) < m) = true := decide_eq_true (by omega)
    have ih := rising_lG l m n (j + 1) (rd l (j : Int)) (by omega) (by omega) hl (fun g => by omega) (fun _ => ⟨by rw [show ((j + 1 : Nat) : Int) - 1 = (j : Int) by push_cast; omega], by omega⟩)
    rcases Nat.eq_zero_or_pos j with g | g
    · have q1 : decide (last < rd l (j : Int)) = true := decide_eq_true (by have := h0 g; omega)
      rw [if_neg (by omega), wrapG j (by omega), ih, q1, q2]
      rfl
    · have e : wrap64 ((j : Int) - 1) = (j : Int) - 1 := wrap64_idG (by omega) (by omega)
      rw [if_pos (by omega), e, if_pos (by omega), if_pos (by omega), ← (h1 g).1]
      by_cases c3 : rd l (j : Int) ≤ last
      · rw [if_pos c3]
        have : decide (last < rd l (j : Int)) = false := decide_eq_false (by omega)
        rw [this]
        rfl
      · have q1 : decide (last < rd l (j : Int)) = true := decide_eq_true (by omega)
        rw [if_neg c3, wrapG j (by omega), ih, q1, q2]
        rfl

theorem rising_fG (l : List Int) (m : Int) (k : Nat) (hk : l.length < k) (hl : l.length ≤ 9223372036854775807) : falseworkref11_rising.f k l m = some (ids l m) := by
  have hm : ∀ d, falseworkref11_rising.f (l.length + 1 + d) l m = some (ids l m) := by
    intro d
    induction d with
    | zero => exact rising_lG l m l.length 0 (-1) (by omega) (by omega) hl (fun _ => rfl) (fun g => by omega)
    | succ d ih => exact falseworkref11_rising.mono l m (l.length + 1 + d) (ids l m) ih
  obtain ⟨d, rfl⟩ : ∃ d, k = l.length + 1 + d := ⟨k - (l.length + 1), by omega⟩
  exact hm d

theorem May_lG (r : Rep) (K : Nat) (h8 : r.f8.length < K) (h9 : r.f9.length < K) (h10 : r.f10.length < K) (hK : K ≤ 9223372036854775808) (h7 : r.f7.length ≤ 9223372036854775807) : ∀ (n j : Nat), n = r.f7.length - j → j ≤ r.f7.length →
    falseworkref11_May.l0 (K + n + 1) j r.f0 r.f1 r.f2 r.f3 r.f4 (r.f5.map toS) r.f6 r.f7 r.f8 r.f9 (r.f10.map toS) r.f11 r.f12 = some ((r.f7.drop j).all (inLog r) && tail r)
  | 0, j, h, hj => by
    unfold falseworkref11_May.l0
    rw [if_neg (by omega), List.drop_eq_nil_of_le (by omega), rising_fG r.f8 r.f1 K (by omega) (by omega), rising_fG r.f9 r.f1 K (by omega) (by omega), Entries_fG r.f10 K (by omega) (by omega), List.length_map]
    simp only [Option.bind_some, List.all_nil, Bool.true_and]
    unfold tail
    by_cases c1 : ids r.f8 r.f1 = true
    · rw [if_pos c1, c1]
      by_cases c2 : ids r.f9 r.f1 = true
      · rw [if_pos c2, c2]
        by_cases c3 : log r.f10 = true
        · rw [if_pos c3, c3]
          by_cases c4 : r.f11 ≥ -1
          · rw [if_pos c4, decide_eq_true (show -1 ≤ r.f11 from c4)]
            by_cases c5 : r.f11 < 1099511627776
            · rw [if_pos c5, decide_eq_true (show r.f11 < maxTime from c5)]
              by_cases c6 : r.f12 ≥ 0
              · rw [if_pos c6, decide_eq_true (show 0 ≤ r.f12 from c6)]
                rfl
              · rw [if_neg c6, decide_eq_false (show ¬ 0 ≤ r.f12 from c6)]
                rfl
            · rw [if_neg c5, decide_eq_false (show ¬ r.f11 < maxTime from c5)]
              rfl
          · rw [if_neg c4, decide_eq_false (show ¬ -1 ≤ r.f11 from c4)]
            rfl
        · rw [if_neg c3, (by simpa using c3 : log r.f10 = false)]
          rfl
      · rw [if_neg c2, (by simpa using c2 : ids r.f9 r.f1 = false)]
        rfl
    · rw [if_neg c1, (by simpa using c1 : ids r.f8 r.f1 = false)]
      rfl
  | n + 1, j, h, hj => by
    have hj2 : j < r.f7.length := by omega
    have e : rd r.f7 (j : Int) = r.f7[j] := by
      unfold rd
      simp [List.getD, hj2]
    rw [show K + (n + 1) + 1 = (K + n + 1) + 1 by omega]
    unfold falseworkref11_May.l0
    rw [if_pos (by omega), if_pos (by omega), List.length_map, List.drop_eq_getElem_cons hj2, List.all_cons, e]
    by_cases c1 : r.f7[j] < 0
    · rw [if_pos c1]
      unfold inLog
      rw [decide_eq_false (show ¬ 0 ≤ r.f7[j] by omega)]
      rfl
    rw [if_neg c1]
    by_cases c2 : r.f7[j] > (r.f5.length : Int)
    · rw [if_pos c2]
      have q : inLog r r.f7[j] = false := by
        unfold inLog
        rw [decide_eq_false (show ¬ r.f7[j] ≤ (r.f5.length : Int) by omega), Bool.and_false]
      rw [q]
      rfl
    have q : inLog r r.f7[j] = true := by
      unfold inLog
      rw [decide_eq_true (show 0 ≤ r.f7[j] by omega), decide_eq_true (show r.f7[j] ≤ (r.f5.length : Int) by omega)]
      rfl
    rw [if_neg c2, wrapG j (by omega), q, Bool.true_and]
    exact May_lG r K h8 h9 h10 hK h7 n (j + 1) (by omega) (by omega)

theorem May_fG (r : Rep) (K : Nat) (g5 : r.f5.length < K) (g7 : r.f7.length < K) (g8 : r.f8.length < K) (g9 : r.f9.length < K) (g10 : r.f10.length < K) (hK : K ≤ 9223372036854775808) :
    falseworkref11_May.f (K + r.f7.length + 1 + 1 + 1) r.f0 r.f1 r.f2 r.f3 r.f4 (r.f5.map toS) r.f6 r.f7 r.f8 r.f9 (r.f10.map toS) r.f11 r.f12 = some (may r) := by
  have hb : ∀ k, falseworkref11_May.j0 (k + 1) true r.f0 r.f1 r.f2 r.f3 r.f4 (r.f5.map toS) r.f6 r.f7 r.f8 r.f9 (r.f10.map toS) r.f11 r.f12 = some false := by
    intro k
    rw [falseworkref11_May.j0, if_pos rfl]
  have hb1 : ∀ k, falseworkref11_May.j1 (k + 1) true r.f0 r.f1 r.f2 r.f3 r.f4 (r.f5.map toS) r.f6 r.f7 r.f8 r.f9 (r.f10.map toS) r.f11 r.f12 = some false := by
    intro k
    rw [falseworkref11_May.j1, if_pos rfl]
  have hl : falseworkref11_May.l0 (K + r.f7.length + 1) 0 r.f0 r.f1 r.f2 r.f3 r.f4 (r.f5.map toS) r.f6 r.f7 r.f8 r.f9 (r.f10.map toS) r.f11 r.f12 = some (r.f7.all (inLog r) && tail r) := by
    have := May_lG r K (by omega) (by omega) (by omega) (by omega) (by omega) r.f7.length 0 (by omega) (by omega)
    rw [List.drop_zero] at this
    exact this
  unfold falseworkref11_May.f
  rw [odd_f, time_f, time_f]
  simp only [Option.bind_some, hb]
  by_cases c1 : ¬ (size r.f1 = true)
  · rw [if_neg c1]
    exact not_may r (fun h => c1 h.1)
  replace c1 := Classical.not_not.1 c1
  rw [if_pos c1]
  by_cases c2 : r.f0 < 0
  · rw [if_pos c2]
    exact not_may r (fun h => by have := h.2.1; omega)
  rw [if_neg c2]
  by_cases c3 : r.f0 ≥ r.f1
  · rw [if_pos c3]
    exact not_may r (fun h => by have := h.2.2.1; omega)
  rw [if_neg c3]
  by_cases c4 : ¬ (below r.f2 = true)
  · rw [if_neg c4]
    exact not_may r (fun h => c4 h.2.2.2.1)
  replace c4 := Classical.not_not.1 c4
  rw [if_pos c4]
  by_cases c5 : ¬ (below r.f3 = true)
  · rw [if_neg c5]
    exact not_may r (fun h => c5 h.2.2.2.2.1)
  replace c5 := Classical.not_not.1 c5
  rw [if_pos c5]
  by_cases c6 : r.f3 > r.f2
  · rw [if_pos c6]
    exact not_may r (fun h => by have := h.2.2.2.2.2.1; omega)
  rw [if_neg c6]
  by_cases c7 : r.f4 < 0
  · rw [if_pos c7]
    exact not_may r (fun h => by have := h.2.2.2.2.2.2.1; omega)
  rw [if_neg c7]
  by_cases c8 : r.f4 > 2
  · rw [if_pos c8]
    exact not_may r (fun h => by have := h.2.2.2.2.2.2.2.1; omega)
  rw [if_neg c8]
  have key : (r.f4 = 0 → r.f3 = r.f2) → falseworkref11_May.j0 (K + r.f7.length + 1 + 1 + 1) false r.f0 r.f1 r.f2 r.f3 r.f4 (r.f5.map toS) r.f6 r.f7 r.f8 r.f9 (r.f10.map toS) r.f11 r.f12 = some (may r) := by
    intro c9
    rw [falseworkref11_May.j0, if_neg (by simp), Entries_fG r.f5 _ (by omega) (by omega), List.length_map]
    simp only [Option.bind_some, hb1]
    by_cases c10 : ¬ (log r.f5 = true)
    · rw [if_neg c10]
      exact not_may r (fun h => c10 h.2.2.2.2.2.2.2.2.2.1)
    replace c10 := Classical.not_not.1 c10
    rw [if_pos c10]
    by_cases c11 : r.f6 < 0
    · rw [if_pos c11]
      exact not_may r (fun h => by have := h.2.2.2.2.2.2.2.2.2.2.1; omega)
    rw [if_neg c11]
    by_cases c12 : r.f6 > (r.f5.length : Int)
    · rw [if_pos c12]
      exact not_may r (fun h => by have := h.2.2.2.2.2.2.2.2.2.2.2.1; omega)
    rw [if_neg c12]
    by_cases c13 : (r.f7.length : Int) = r.f1
    · rw [show ((r.f7.length : Int) != r.f1) = false by simpa using c13]
      rw [falseworkref11_May.j1, if_neg (by simp), hl, may_split r c1 (by omega) (by omega) c4 c5 (by omega) (by omega) (by omega) c9 c10 (by omega) (by omega) c13]
    · rw [show ((r.f7.length : Int) != r.f1) = true by simpa using c13, hb1]
      exact not_may r (fun h => c13 h.2.2.2.2.2.2.2.2.2.2.2.2.1)
  by_cases c9 : r.f4 = 0
  · rw [if_pos c9]
    by_cases c : r.f3 = r.f2
    · rw [show (r.f3 != r.f2) = false by simpa using c]
      exact key (fun _ => c)
    · rw [show (r.f3 != r.f2) = true by simpa using c, hb]
      exact not_may r (fun h => c (h.2.2.2.2.2.2.2.2.1 c9))
  · rw [if_neg c9]
    exact key (fun g => absurd g c9)
theorem May11_any (r : Rep) (A5 A7 A8 A9 A10 : Option Addr) (c5 c7 c8 c9 c10 : Nat) (w : World) (h : RdRep w r A5 A7 A8 A9 A10) (hc : Fit r c5 c7 c8 c9 c10) (hs : r.f5.length ≤ 9223372036854775807 ∧ r.f7.length ≤ 9223372036854775807 ∧ r.f8.length ≤ 9223372036854775807 ∧ r.f9.length ≤ 9223372036854775807 ∧ r.f10.length ≤ 9223372036854775807) :
    Calls Tryz.prog 39 #[.agg #[.int .i64 r.f0, .int .i64 r.f1, .int .i64 r.f2, .int .i64 r.f3, .int .i64 r.f4, .slice A5 r.f5.length c5, .int .i64 r.f6, .slice A7 r.f7.length c7, .slice A8 r.f8.length c8, .slice A9 r.f9.length c9, .slice A10 r.f10.length c10, .int .i64 r.f11, .int .i64 r.f12]] w fun e w' => e = .returned (.bool (may r)) ∧ Below w.heap.size w w' := by
  have m5 : (r.f5.map toS).length = r.f5.length := List.length_map ..
  have m10 : (r.f10.map toS).length = r.f10.length := List.length_map ..
  obtain ⟨K, k1, k2, k3, k4, k5, k6⟩ : ∃ K, r.f5.length < K ∧ r.f7.length < K ∧ r.f8.length < K ∧ r.f9.length < K ∧ r.f10.length < K ∧ K ≤ 9223372036854775808 := ⟨9223372036854775808, by omega, by omega, by omega, by omega, by omega, by omega⟩
  have q := falseworkref11_May.calls (k := K + r.f7.length + 1 + 1 + 1) (r := may r) (w := w) (hr0_5 := m5.symm ▸ C_toS h.h5) (hc0_5 := m5.symm ▸ hc.h5) (hr0_7 := h.h7) (hc0_7 := hc.h7) (hr0_8 := h.h8) (hc0_8 := hc.h8) (hr0_9 := h.h9) (hc0_9 := hc.h9) (hr0_10 := m10.symm ▸ C_toS h.h10) (hc0_10 := m10.symm ▸ hc.h10) (h := May_fG r K k1 k2 k3 k4 k5 k6)
  rw [m5, m10] at q
  exact q
theorem May11_calls (r : Rep) (A5 A7 A8 A9 A10 : Option Addr) (c5 c7 c8 c9 c10 : Nat) (w : World) (h : RdRep w r A5 A7 A8 A9 A10) (hc : Fit r c5 c7 c8 c9 c10) (hs : r.f5.length ≤ 1200 ∧ r.f7.length ≤ 20 ∧ r.f8.length ≤ 20 ∧ r.f9.length ≤ 20 ∧ r.f10.length ≤ 1200) :
    Calls Tryz.prog 39 #[.agg #[.int .i64 r.f0, .int .i64 r.f1, .int .i64 r.f2, .int .i64 r.f3, .int .i64 r.f4, .slice A5 r.f5.length c5, .int .i64 r.f6, .slice A7 r.f7.length c7, .slice A8 r.f8.length c8, .slice A9 r.f9.length c9, .slice A10 r.f10.length c10, .int .i64 r.f11, .int .i64 r.f12]] w fun e w' => e = .returned (.bool (may r)) ∧ Below w.heap.size w w' :=
  May11_any r A5 A7 A8 A9 A10 c5 c7 c8 c9 c10 w h hc ⟨Nat.le_trans hs.1 (by decide), Nat.le_trans hs.2.1 (by decide), Nat.le_trans hs.2.2.1 (by decide), Nat.le_trans hs.2.2.2.1 (by decide), Nat.le_trans hs.2.2.2.2 (by decide)⟩
end Go.Proofs.YtggbjokhniigkaaGreat.Ve
namespace Go.Proofs.YtggbjokhniigkaaGreat.Fi
open Go.Proofs.YtggbjokhniigkaaGreat.Ty Go.RowKit Go.Proofs.YtggbjokhniigkaaGreatW.PrintWords Go.Proofs.YtggbjokhniigkaaGreatW.PrintLast Go.Proofs.YtggbjokhniigkaaGreatW.PrintMore Go.Proofs.YtggbjokhniigkaaGreat.Mx Go.Proofs.YtggbjokhniigkaaGreat.Kx Go.Proofs.YtggbjokhniigkaaGreat.Wa Go.Proofs.YtggbjokhniigkaaGreat.Wb Go.Proofs.YtggbjokhniigkaaGreat.Wd Go.Proofs.YtggbjokhniigkaaGreat.Vc Go.Proofs.YtggbjokhniigkaaGreat.Ve
set_option linter.unusedVariables false
set_option linter.unusedSimpArgs false
set_option maxRecDepth 100000 in
set_option maxHeartbeats 4000000 in
theorem fitted_may (r : Rep) (m : Msg) (A5 A7 A8 A9 A10 A : Option Addr) (c5 c7 c8 c9 c10 c : Nat) (w : World) (h : RdRep w r A5 A7 A8 A9 A10) (hc : Fit r c5 c7 c8 c9 c10) (hs : r.f5.length ≤ 9223372036854775807 ∧ r.f7.length ≤ 9223372036854775807 ∧ r.f8.length ≤ 9223372036854775807 ∧ r.f9.length ≤ 9223372036854775807 ∧ r.f10.length ≤ 9223372036854775807) (h1 : may r = false) :
    Calls Tryz.prog 16 #[.agg #[.int .i64 r.f0, .int .i64 r.f1, .int .i64 r.f2, .int .i64 r.f3, .int .i64 r.f4, .slice A5 r.f5.length c5, .int .i64 r.f6, .slice A7 r.f7.length c7, .slice A8 r.f8.length c8, .slice A9 r.f9.length c9, .slice A10 r.f10.length c10, .int .i64 r.f11, .int .i64 r.f12], .agg #[.int .i64 m.f0, .int .i64 m.f1, .int .i64 m.f2, .int .i64 m.f3, .int .i64 m.f4, .int .i64 m.f5, .int .i64 m.f6, .slice A m.f7.length c], .bool true] w fun e w' => e = .returned (.agg #[.int .i64 m.f0, .int .i64 m.f1, .int .i64 m.f2, .int .i64 m.f3, .int .i64 m.f4, .int .i64 m.f5, .int .i64 m.f6, .slice A m.f7.length c]) ∧ Mem w w' [] := by
  have E1 := Aside0.mk h1
  clear h1
  have H := Aside0.mk h
  have HC := Aside0.mk hc
  have HS := Aside0.mk hs
  have M1 := Aside0.mk ((((Mem.nil w).alloc #[.int .i64 r.f0, .int .i64 r.f1, .int .i64 r.f2, .int .i64 r.f3, .int .i64 r.f4, .slice A5 r.f5.length c5, .int .i64 r.f6, .slice A7 r.f7.length c7, .slice A8 r.f8.length c8, .slice A9 r.f9.length c9, .slice A10 r.f10.length c10, .int .i64 r.f11, .int .i64 r.f12] 25).allocAt #[.int .i64 m.f0, .int .i64 m.f1, .int .i64 m.f2, .int .i64 m.f3, .int .i64 m.f4, .int .i64 m.f5, .int .i64 m.f6, .slice A m.f7.length c] 27 (w.heap.size + 1) (by simp)).allocAt #[.int .i64 0, .int .i64 0, .int .i64 0, .int .i64 0, .int .i64 0, .int .i64 0, .int .i64 0, .slice none 0 0] 27 (w.heap.size + 2) (by simp))
  clear h hc hs
  go_enter Tryz.func16, Tryz.ntmps16
  go_wp2_with fail
  refine (May11_any r A5 A7 A8 A9 A10 c5 c7 c8 c9 c10 _ (H.out.below M1.out.below) HC.out HS.out).mono ?_
  rintro e w1 ⟨he, hb⟩
  rw [E1.out] at he
  subst he
  have M2 := Aside0.mk (M1.out.grow hb)
  clear hb M1
  have cZ := blk_cell (M2.out.blk_at 0 rfl)
  have fZ := blk_frozen (M2.out.blk_at 0 rfl)
  have cM := blk_cell (M2.out.blk_at 1 rfl)
  have cR := blk_cell (M2.out.blk_at 2 rfl)
  go_wp2_with fail
  all_goals
    have MF := (M2.out.setRow 0 rfl [.int .i64 m.f0, .int .i64 m.f1, .int .i64 m.f2, .int .i64 m.f3, .int .i64 m.f4, .int .i64 m.f5, .int .i64 m.f6, .slice A m.f7.length c] rfl)
    have hgF := MF.blk_at 0 rfl
    refine bodyPost_ret (results_cell_row rfl _ _ (w.heap.size + 2) 27 #[.int .i64 m.f0, .int .i64 m.f1, .int .i64 m.f2, .int .i64 m.f3, .int .i64 m.f4, .int .i64 m.f5, .int .i64 m.f6, .slice A m.f7.length c] (0, 0) _ rfl hgF Tryz.underlying27 rfl (by kernel_rfl)) rfl ?_
    exact ⟨rfl, Mem.sel (ps := [_, _, _]) (F := []) [] 3 MF rfl rfl⟩
set_option maxRecDepth 100000 in
set_option maxHeartbeats 4000000 in
theorem fitted_one (r : Rep) (m : Msg) (A5 A7 A8 A9 A10 A : Option Addr) (c5 c7 c8 c9 c10 c : Nat) (w : World) (h : RdRep w r A5 A7 A8 A9 A10) (hc : Fit r c5 c7 c8 c9 c10) (hs : r.f5.length ≤ 9223372036854775807 ∧ r.f7.length ≤ 9223372036854775807 ∧ r.f8.length ≤ 9223372036854775807 ∧ r.f9.length ≤ 9223372036854775807 ∧ r.f10.length ≤ 9223372036854775807) (h1 : may r = true) (h2 : r.f1 = 1) :
    Calls Tryz.prog 16 #[.agg #[.int .i64 r.f0, .int .i64 r.f1, .int .i64 r.f2, .int .i64 r.f3, .int .i64 r.f4, .slice A5 r.f5.length c5, .int .i64 r.f6, .slice A7 r.f7.length c7, .slice A8 r.f8.length c8, .slice A9 r.f9.length c9, .slice A10 r.f10.length c10, .int .i64 r.f11, .int .i64 r.f12], .agg #[.int .i64 m.f0, .int .i64 m.f1, .int .i64 m.f2, .int .i64 m.f3, .int .i64 m.f4, .int .i64 m.f5, .int .i64 m.f6, .slice A m.f7.length c], .bool true] w fun e w' => e = .returned (.agg #[.int .i64 m.f0, .int .i64 m.f1, .int .i64 m.f2, .int .i64 m.f3, .int .i64 m.f4, .int .i64 m.f5, .int .i64 m.f6, .slice A m.f7.length c]) ∧ Mem w w' [] := by
  have E1 := Aside0.mk h1
  have e2 : (r.f1 == 1) = true := by simpa using h2
  clear h1 h2
  have H := Aside0.mk h
  have HC := Aside0.mk hc
  have HS := Aside0.mk hs
  have M1 := Aside0.mk ((((Mem.nil w).alloc #[.int .i64 r.f0, .int .i64 r.f1, .int .i64 r.f2, .int .i64 r.f3, .int .i64 r.f4, .slice A5 r.f5.length c5, .int .i64 r.f6, .slice A7 r.f7.length c7, .slice A8 r.f8.length c8, .slice A9 r.f9.length c9, .slice A10 r.f10.length c10, .int .i64 r.f11, .int .i64 r.f12] 25).allocAt #[.int .i64 m.f0, .int .i64 m.f1, .int .i64 m.f2, .int .i64 m.f3, .int .i64 m.f4, .int .i64 m.f5, .int .i64 m.f6, .slice A m.f7.length c] 27 (w.heap.size + 1) (by simp)).allocAt #[.int .i64 0, .int .i64 0, .int .i64 0, .int .i64 0, .int .i64 0, .int .i64 0, .int .i64 0, .slice none 0 0] 27 (w.heap.size + 2) (by simp))
  clear h hc hs
  go_enter Tryz.func16, Tryz.ntmps16
  go_wp2_with fail
  refine (May11_any r A5 A7 A8 A9 A10 c5 c7 c8 c9 c10 _ (H.out.below M1.out.below) HC.out HS.out).mono ?_
  rintro e w1 ⟨he, hb⟩
  rw [E1.out] at he
  subst he
  have M2 := Aside0.mk (M1.out.grow hb)
  clear hb M1
  have cZ := blk_cell (M2.out.blk_at 0 rfl)
  have fZ := blk_frozen (M2.out.blk_at 0 rfl)
  have cM := blk_cell (M2.out.blk_at 1 rfl)
  have cR := blk_cell (M2.out.blk_at 2 rfl)
  go_wp2_with fail
  all_goals
    have MF := (M2.out.setRow 0 rfl [.int .i64 m.f0, .int .i64 m.f1, .int .i64 m.f2, .int .i64 m.f3, .int .i64 m.f4, .int .i64 m.f5, .int .i64 m.f6, .slice A m.f7.length c] rfl)
    have hgF := MF.blk_at 0 rfl
    refine bodyPost_ret (results_cell_row rfl _ _ (w.heap.size + 2) 27 #[.int .i64 m.f0, .int .i64 m.f1, .int .i64 m.f2, .int .i64 m.f3, .int .i64 m.f4, .int .i64 m.f5, .int .i64 m.f6, .slice A m.f7.length c] (0, 0) _ rfl hgF Tryz.underlying27 rfl (by kernel_rfl)) rfl ?_
    exact ⟨rfl, Mem.sel (ps := [_, _, _]) (F := []) [] 3 MF rfl rfl⟩
set_option maxRecDepth 100000 in
set_option maxHeartbeats 4000000 in
theorem fitted_same (r : Rep) (m : Msg) (A5 A7 A8 A9 A10 A : Option Addr) (c5 c7 c8 c9 c10 c : Nat) (w : World) (h : RdRep w r A5 A7 A8 A9 A10) (hc : Fit r c5 c7 c8 c9 c10) (hs : r.f5.length ≤ 9223372036854775807 ∧ r.f7.length ≤ 9223372036854775807 ∧ r.f8.length ≤ 9223372036854775807 ∧ r.f9.length ≤ 9223372036854775807 ∧ r.f10.length ≤ 9223372036854775807) (h1 : may r = true) (h2 : ¬ r.f1 = 1) (hn : ¬ r.f1 = 0) (g1 : ¬ m.f1 < 0) (g2 : m.f1 < r.f1) (g3 : ¬ m.f1 = r.f0) :
    Calls Tryz.prog 16 #[.agg #[.int .i64 r.f0, .int .i64 r.f1, .int .i64 r.f2, .int .i64 r.f3, .int .i64 r.f4, .slice A5 r.f5.length c5, .int .i64 r.f6, .slice A7 r.f7.length c7, .slice A8 r.f8.length c8, .slice A9 r.f9.length c9, .slice A10 r.f10.length c10, .int .i64 r.f11, .int .i64 r.f12], .agg #[.int .i64 m.f0, .int .i64 m.f1, .int .i64 m.f2, .int .i64 m.f3, .int .i64 m.f4, .int .i64 m.f5, .int .i64 m.f6, .slice A m.f7.length c], .bool true] w fun e w' => ∃ m' : Msg, m'.f0 = m.f0 ∧ m'.f7 = m.f7 ∧ e = .returned (.agg #[.int .i64 m'.f0, .int .i64 m'.f1, .int .i64 m'.f2, .int .i64 m'.f3, .int .i64 m'.f4, .int .i64 m'.f5, .int .i64 m'.f6, .slice A m'.f7.length c]) ∧ Mem w w' [] := by
  have E1 := Aside0.mk h1
  have e2 : (r.f1 == 1) = false := by simpa using h2
  have en : (r.f1 == 0) = false := by simpa using hn
  have e3 : decide (m.f1 < 0) = false := decide_eq_false g1
  have e4 : decide (r.f1 ≤ m.f1) = false := by simp; omega
  have e5 : (m.f1 == r.f0) = false := by simpa using g3
  clear g1 g2 g3
  clear h1 h2
  have H := Aside0.mk h
  have HC := Aside0.mk hc
  have HS := Aside0.mk hs
  have M1 := Aside0.mk ((((Mem.nil w).alloc #[.int .i64 r.f0, .int .i64 r.f1, .int .i64 r.f2, .int .i64 r.f3, .int .i64 r.f4, .slice A5 r.f5.length c5, .int .i64 r.f6, .slice A7 r.f7.length c7, .slice A8 r.f8.length c8, .slice A9 r.f9.length c9, .slice A10 r.f10.length c10, .int .i64 r.f11, .int .i64 r.f12] 25).allocAt #[.int .i64 m.f0, .int .i64 m.f1, .int .i64 m.f2, .int .i64 m.f3, .int .i64 m.f4, .int .i64 m.f5, .int .i64 m.f6, .slice A m.f7.length c] 27 (w.heap.size + 1) (by simp)).allocAt #[.int .i64 0, .int .i64 0, .int .i64 0, .int .i64 0, .int .i64 0, .int .i64 0, .int .i64 0, .slice none 0 0] 27 (w.heap.size + 2) (by simp))
  clear h hc hs
  go_enter Tryz.func16, Tryz.ntmps16
  go_wp2_with fail
  refine (May11_any r A5 A7 A8 A9 A10 c5 c7 c8 c9 c10 _ (H.out.below M1.out.below) HC.out HS.out).mono ?_
  rintro e w1 ⟨he, hb⟩
  rw [E1.out] at he
  subst he
  have M2 := Aside0.mk (M1.out.grow hb)
  clear hb M1
  have cZ := blk_cell (M2.out.blk_at 0 rfl)
  have fZ := blk_frozen (M2.out.blk_at 0 rfl)
  have cM := blk_cell (M2.out.blk_at 1 rfl)
  have cR := blk_cell (M2.out.blk_at 2 rfl)
  have fM := blk_frozen (M2.out.blk_at 1 rfl)
  go_upto_region 7 with (fail)
  generalize wrap64 (wrap64 (r.f2 + wrap64 ((IntKind.u64.wrap m.f3).tmod 3)) - 1) = V
  generalize (if (1099511627775 : Int) < V then (1099511627775 : Int) else V) = U
  generalize (if (0 : Int) < U then U else (0 : Int)) = y
  go_wp2
  have MF := ((M2.out.set 1 rfl 2 (.int .i64 r.f0)).set 1 rfl 3 (.int .i64 y)).setRow 0 rfl [.int .i64 m.f0, .int .i64 m.f1, .int .i64 r.f0, .int .i64 y, .int .i64 m.f4, .int .i64 m.f5, .int .i64 m.f6, .slice A m.f7.length c] rfl
  have hgF := MF.blk_at 0 rfl
  refine bodyPost_ret (results_cell_row rfl _ _ (w.heap.size + 2) 27 #[.int .i64 m.f0, .int .i64 m.f1, .int .i64 r.f0, .int .i64 y, .int .i64 m.f4, .int .i64 m.f5, .int .i64 m.f6, .slice A m.f7.length c] (0, 0) _ rfl hgF Tryz.underlying27 rfl (by kernel_rfl)) rfl ?_
  exact ⟨⟨m.f0, m.f1, r.f0, y, m.f4, m.f5, m.f6, m.f7⟩, rfl, rfl, rfl, Mem.sel (ps := [_, _, _]) (F := []) [] 3 MF rfl rfl⟩
set_option maxRecDepth 100000 in
set_option maxHeartbeats 4000000 in
theorem fitted_neg (r : Rep) (m : Msg) (A5 A7 A8 A9 A10 A : Option Addr) (c5 c7 c8 c9 c10 c : Nat) (w : World) (h : RdRep w r A5 A7 A8 A9 A10) (hc : Fit r c5 c7 c8 c9 c10) (hs : r.f5.length ≤ 9223372036854775807 ∧ r.f7.length ≤ 9223372036854775807 ∧ r.f8.length ≤ 9223372036854775807 ∧ r.f9.length ≤ 9223372036854775807 ∧ r.f10.length ≤ 9223372036854775807) (h1 : may r = true) (h2 : ¬ r.f1 = 1) (hn : ¬ r.f1 = 0) (g1 : m.f1 < 0) :
    Calls Tryz.prog 16 #[.agg #[.int .i64 r.f0, .int .i64 r.f1, .int .i64 r.f2, .int .i64 r.f3, .int .i64 r.f4, .slice A5 r.f5.length c5, .int .i64 r.f6, .slice A7 r.f7.length c7, .slice A8 r.f8.length c8, .slice A9 r.f9.length c9, .slice A10 r.f10.length c10, .int .i64 r.f11, .int .i64 r.f12], .agg #[.int .i64 m.f0, .int .i64 m.f1, .int .i64 m.f2, .int .i64 m.f3, .int .i64 m.f4, .int .i64 m.f5, .int .i64 m.f6, .slice A m.f7.length c], .bool true] w fun e w' => ∃ m' : Msg, m'.f0 = m.f0 ∧ m'.f7 = m.f7 ∧ e = .returned (.agg #[.int .i64 m'.f0, .int .i64 m'.f1, .int .i64 m'.f2, .int .i64 m'.f3, .int .i64 m'.f4, .int .i64 m'.f5, .int .i64 m'.f6, .slice A m'.f7.length c]) ∧ Mem w w' [] := by
  have E1 := Aside0.mk h1
  have e2 : (r.f1 == 1) = false := by simpa using h2
  have en : (r.f1 == 0) = false := by simpa using hn
  have e3 : decide (m.f1 < 0) = true := decide_eq_true g1
  clear g1
  clear h1 h2
  have H := Aside0.mk h
  have HC := Aside0.mk hc
  have HS := Aside0.mk hs
  have M1 := Aside0.mk ((((Mem.nil w).alloc #[.int .i64 r.f0, .int .i64 r.f1, .int .i64 r.f2, .int .i64 r.f3, .int .i64 r.f4, .slice A5 r.f5.length c5, .int .i64 r.f6, .slice A7 r.f7.length c7, .slice A8 r.f8.length c8, .slice A9 r.f9.length c9, .slice A10 r.f10.length c10, .int .i64 r.f11, .int .i64 r.f12] 25).allocAt #[.int .i64 m.f0, .int .i64 m.f1, .int .i64 m.f2, .int .i64 m.f3, .int .i64 m.f4, .int .i64 m.f5, .int .i64 m.f6, .slice A m.f7.length c] 27 (w.heap.size + 1) (by simp)).allocAt #[.int .i64 0, .int .i64 0, .int .i64 0, .int .i64 0, .int .i64 0, .int .i64 0, .int .i64 0, .slice none 0 0] 27 (w.heap.size + 2) (by simp))
  clear h hc hs
  go_enter Tryz.func16, Tryz.ntmps16
  go_wp2_with fail
  refine (May11_any r A5 A7 A8 A9 A10 c5 c7 c8 c9 c10 _ (H.out.below M1.out.below) HC.out HS.out).mono ?_
  rintro e w1 ⟨he, hb⟩
  rw [E1.out] at he
  subst he
  have M2 := Aside0.mk (M1.out.grow hb)
  clear hb M1
  have cZ := blk_cell (M2.out.blk_at 0 rfl)
  have fZ := blk_frozen (M2.out.blk_at 0 rfl)
  have cM := blk_cell (M2.out.blk_at 1 rfl)
  have cR := blk_cell (M2.out.blk_at 2 rfl)
  have fM := blk_frozen (M2.out.blk_at 1 rfl)
  go_upto_region 7 with (fail)
  generalize wrap64 (wrap64 (r.f2 + wrap64 ((IntKind.u64.wrap m.f3).tmod 3)) - 1) = V
  generalize (if (1099511627775 : Int) < V then (1099511627775 : Int) else V) = U
  generalize (if (0 : Int) < U then U else (0 : Int)) = y
  generalize Int.tmod (wrap64 (r.f0 + 1)) r.f1 = x
  go_wp2
  have MF := (((M2.out.set 1 rfl 2 (.int .i64 r.f0)).set 1 rfl 1 (.int .i64 x)).set 1 rfl 3 (.int .i64 y)).setRow 0 rfl [.int .i64 m.f0, .int .i64 x, .int .i64 r.f0, .int .i64 y, .int .i64 m.f4, .int .i64 m.f5, .int .i64 m.f6, .slice A m.f7.length c] rfl
  have hgF := MF.blk_at 0 rfl
  refine bodyPost_ret (results_cell_row rfl _ _ (w.heap.size + 2) 27 #[.int .i64 m.f0, .int .i64 x, .int .i64 r.f0, .int .i64 y, .int .i64 m.f4, .int .i64 m.f5, .int .i64 m.f6, .slice A m.f7.length c] (0, 0) _ rfl hgF Tryz.underlying27 rfl (by kernel_rfl)) rfl ?_
  exact ⟨⟨m.f0, x, r.f0, y, m.f4, m.f5, m.f6, m.f7⟩, rfl, rfl, rfl, Mem.sel (ps := [_, _, _]) (F := []) [] 3 MF rfl rfl⟩
set_option maxRecDepth 100000 in
set_option maxHeartbeats 4000000 in
theorem fitted_big (r : Rep) (m : Msg) (A5 A7 A8 A9 A10 A : Option Addr) (c5 c7 c8 c9 c10 c : Nat) (w : World) (h : RdRep w r A5 A7 A8 A9 A10) (hc : Fit r c5 c7 c8 c9 c10) (hs : r.f5.length ≤ 9223372036854775807 ∧ r.f7.length ≤ 9223372036854775807 ∧ r.f8.length ≤ 9223372036854775807 ∧ r.f9.length ≤ 9223372036854775807 ∧ r.f10.length ≤ 9223372036854775807) (h1 : may r = true) (h2 : ¬ r.f1 = 1) (hn : ¬ r.f1 = 0) (g1 : ¬ m.f1 < 0) (g2 : ¬ m.f1 < r.f1) :
    Calls Tryz.prog 16 #[.agg #[.int .i64 r.f0, .int .i64 r.f1, .int .i64 r.f2, .int .i64 r.f3, .int .i64 r.f4, .slice A5 r.f5.length c5, .int .i64 r.f6, .slice A7 r.f7.length c7, .slice A8 r.f8.length c8, .slice A9 r.f9.length c9, .slice A10 r.f10.length c10, .int .i64 r.f11, .int .i64 r.f12], .agg #[.int .i64 m.f0, .int .i64 m.f1, .int .i64 m.f2, .int .i64 m.f3, .int .i64 m.f4, .int .i64 m.f5, .int .i64 m.f6, .slice A m.f7.length c], .bool true] w fun e w' => ∃ m' : Msg, m'.f0 = m.f0 ∧ m'.f7 = m.f7 ∧ e = .returned (.agg #[.int .i64 m'.f0, .int .i64 m'.f1, .int .i64 m'.f2, .int .i64 m'.f3, .int .i64 m'.f4, .int .i64 m'.f5, .int .i64 m'.f6, .slice A m'.f7.length c]) ∧ Mem w w' [] := by
  have E1 := Aside0.mk h1
  have e2 : (r.f1 == 1) = false := by simpa using h2
  have en : (r.f1 == 0) = false := by simpa using hn
  have e3 : decide (m.f1 < 0) = false := decide_eq_false g1
  have e4 : decide (r.f1 ≤ m.f1) = true := by simp; omega
  clear g1 g2
  clear h1 h2
  have H := Aside0.mk h
  have HC := Aside0.mk hc
  have HS := Aside0.mk hs
  have M1 := Aside0.mk ((((Mem.nil w).alloc #[.int .i64 r.f0, .int .i64 r.f1, .int .i64 r.f2, .int .i64 r.f3, .int .i64 r.f4, .slice A5 r.f5.length c5, .int .i64 r.f6, .slice A7 r.f7.length c7, .slice A8 r.f8.length c8, .slice A9 r.f9.length c9, .slice A10 r.f10.length c10, .int .i64 r.f11, .int .i64 r.f12] 25).allocAt #[.int .i64 m.f0, .int .i64 m.f1, .int .i64 m.f2, .int .i64 m.f3, .int .i64 m.f4, .int .i64 m.f5, .int .i64 m.f6, .slice A m.f7.length c] 27 (w.heap.size + 1) (by simp)).allocAt #[.int .i64 0, .int .i64 0, .int .i64 0, .int .i64 0, .int .i64 0, .int .i64 0, .int .i64 0, .slice none 0 0] 27 (w.heap.size + 2) (by simp))
  clear h hc hs
  go_enter Tryz.func16, Tryz.ntmps16
  go_wp2_with fail
  refine (May11_any r A5 A7 A8 A9 A10 c5 c7 c8 c9 c10 _ (H.out.below M1.out.below) HC.out HS.out).mono ?_
  rintro e w1 ⟨he, hb⟩
  rw [E1.out] at he
  subst he
  have M2 := Aside0.mk (M1.out.grow hb)
  clear hb M1
  have cZ := blk_cell (M2.out.blk_at 0 rfl)
  have fZ := blk_frozen (M2.out.blk_at 0 rfl)
  have cM := blk_cell (M2.out.blk_at 1 rfl)
  have cR := blk_cell (M2.out.blk_at 2 rfl)
  have fM := blk_frozen (M2.out.blk_at 1 rfl)
  go_upto_region 7 with (fail)
  generalize wrap64 (wrap64 (r.f2 + wrap64 ((IntKind.u64.wrap m.f3).tmod 3)) - 1) = V
  generalize (if (1099511627775 : Int) < V then (1099511627775 : Int) else V) = U
  generalize (if (0 : Int) < U then U else (0 : Int)) = y
  generalize Int.tmod (wrap64 (r.f0 + 1)) r.f1 = x
  go_wp2
  have MF := (((M2.out.set 1 rfl 2 (.int .i64 r.f0)).set 1 rfl 1 (.int .i64 x)).set 1 rfl 3 (.int .i64 y)).setRow 0 rfl [.int .i64 m.f0, .int .i64 x, .int .i64 r.f0, .int .i64 y, .int .i64 m.f4, .int .i64 m.f5, .int .i64 m.f6, .slice A m.f7.length c] rfl
  have hgF := MF.blk_at 0 rfl
  refine bodyPost_ret (results_cell_row rfl _ _ (w.heap.size + 2) 27 #[.int .i64 m.f0, .int .i64 x, .int .i64 r.f0, .int .i64 y, .int .i64 m.f4, .int .i64 m.f5, .int .i64 m.f6, .slice A m.f7.length c] (0, 0) _ rfl hgF Tryz.underlying27 rfl (by kernel_rfl)) rfl ?_
  exact ⟨⟨m.f0, x, r.f0, y, m.f4, m.f5, m.f6, m.f7⟩, rfl, rfl, rfl, Mem.sel (ps := [_, _, _]) (F := []) [] 3 MF rfl rfl⟩
set_option maxRecDepth 100000 in
set_option maxHeartbeats 4000000 in
theorem fitted_self (r : Rep) (m : Msg) (A5 A7 A8 A9 A10 A : Option Addr) (c5 c7 c8 c9 c10 c : Nat) (w : World) (h : RdRep w r A5 A7 A8 A9 A10) (hc : Fit r c5 c7 c8 c9 c10) (hs : r.f5.length ≤ 9223372036854775807 ∧ r.f7.length ≤ 9223372036854775807 ∧ r.f8.length ≤ 9223372036854775807 ∧ r.f9.length ≤ 9223372036854775807 ∧ r.f10.length ≤ 9223372036854775807) (h1 : may r = true) (h2 : ¬ r.f1 = 1) (hn : ¬ r.f1 = 0) (g1 : ¬ m.f1 < 0) (g2 : m.f1 < r.f1) (g3 : m.f1 = r.f0) :
    Calls Tryz.prog 16 #[.agg #[.int .i64 r.f0, .int .i64 r.f1, .int .i64 r.f2, .int .i64 r.f3, .int .i64 r.f4, .slice A5 r.f5.length c5, .int .i64 r.f6, .slice A7 r.f7.length c7, .slice A8 r.f8.length c8, .slice A9 r.f9.length c9, .slice A10 r.f10.length c10, .int .i64 r.f11, .int .i64 r.f12], .agg #[.int .i64 m.f0, .int .i64 m.f1, .int .i64 m.f2, .int .i64 m.f3, .int .i64 m.f4, .int .i64 m.f5, .int .i64 m.f6, .slice A m.f7.length c], .bool true] w fun e w' => ∃ m' : Msg, m'.f0 = m.f0 ∧ m'.f7 = m.f7 ∧ e = .returned (.agg #[.int .i64 m'.f0, .int .i64 m'.f1, .int .i64 m'.f2, .int .i64 m'.f3, .int .i64 m'.f4, .int .i64 m'.f5, .int .i64 m'.f6, .slice A m'.f7.length c]) ∧ Mem w w' [] := by
  have E1 := Aside0.mk h1
  have e2 : (r.f1 == 1) = false := by simpa using h2
  have en : (r.f1 == 0) = false := by simpa using hn
  have e3 : decide (m.f1 < 0) = false := decide_eq_false g1
  have e4 : decide (r.f1 ≤ m.f1) = false := by simp; omega
  have e5 : (m.f1 == r.f0) = true := by simpa using g3
  clear g1 g2 g3
  clear h1 h2
  have H := Aside0.mk h
  have HC := Aside0.mk hc
  have HS := Aside0.mk hs
  have M1 := Aside0.mk ((((Mem.nil w).alloc #[.int .i64 r.f0, .int .i64 r.f1, .int .i64 r.f2, .int .i64 r.f3, .int .i64 r.f4, .slice A5 r.f5.length c5, .int .i64 r.f6, .slice A7 r.f7.length c7, .slice A8 r.f8.length c8, .slice A9 r.f9.length c9, .slice A10 r.f10.length c10, .int .i64 r.f11, .int .i64 r.f12] 25).allocAt #[.int .i64 m.f0, .int .i64 m.f1, .int .i64 m.f2, .int .i64 m.f3, .int .i64 m.f4, .int .i64 m.f5, .int .i64 m.f6, .slice A m.f7.length c] 27 (w.heap.size + 1) (by simp)).allocAt #[.int .i64 0, .int .i64 0, .int .i64 0, .int .i64 0, .int .i64 0, .int .i64 0, .int .i64 0, .slice none 0 0] 27 (w.heap.size + 2) (by simp))
  clear h hc hs
  go_enter Tryz.func16, Tryz.ntmps16
  go_wp2_with fail
  refine (May11_any r A5 A7 A8 A9 A10 c5 c7 c8 c9 c10 _ (H.out.below M1.out.below) HC.out HS.out).mono ?_
  rintro e w1 ⟨he, hb⟩
  rw [E1.out] at he
  subst he
  have M2 := Aside0.mk (M1.out.grow hb)
  clear hb M1
  have cZ := blk_cell (M2.out.blk_at 0 rfl)
  have fZ := blk_frozen (M2.out.blk_at 0 rfl)
  have cM := blk_cell (M2.out.blk_at 1 rfl)
  have cR := blk_cell (M2.out.blk_at 2 rfl)
  have fM := blk_frozen (M2.out.blk_at 1 rfl)
  go_upto_region 7 with (fail)
  generalize wrap64 (wrap64 (r.f2 + wrap64 ((IntKind.u64.wrap m.f3).tmod 3)) - 1) = V
  generalize (if (1099511627775 : Int) < V then (1099511627775 : Int) else V) = U
  generalize (if (0 : Int) < U then U else (0 : Int)) = y
  generalize Int.tmod (wrap64 (r.f0 + 1)) r.f1 = x
  go_wp2
  have MF := (((M2.out.set 1 rfl 2 (.int .i64 r.f0)).set 1 rfl 1 (.int .i64 x)).set 1 rfl 3 (.int .i64 y)).setRow 0 rfl [.int .i64 m.f0, .int .i64 x, .int .i64 r.f0, .int .i64 y, .int .i64 m.f4, .int .i64 m.f5, .int .i64 m.f6, .slice A m.f7.length c] rfl
  have hgF := MF.blk_at 0 rfl
  refine bodyPost_ret (results_cell_row rfl _ _ (w.heap.size + 2) 27 #[.int .i64 m.f0, .int .i64 x, .int .i64 r.f0, .int .i64 y, .int .i64 m.f4, .int .i64 m.f5, .int .i64 m.f6, .slice A m.f7.length c] (0, 0) _ rfl hgF Tryz.underlying27 rfl (by kernel_rfl)) rfl ?_
  exact ⟨⟨m.f0, x, r.f0, y, m.f4, m.f5, m.f6, m.f7⟩, rfl, rfl, rfl, Mem.sel (ps := [_, _, _]) (F := []) [] 3 MF rfl rfl⟩
/-- Some message of the same kind, with the same log. -/
theorem fitted_calls (r : Rep) (m : Msg) (A5 A7 A8 A9 A10 A : Option Addr) (c5 c7 c8 c9 c10 c : Nat) (w : World) (h : RdRep w r A5 A7 A8 A9 A10) (hc : Fit r c5 c7 c8 c9 c10) (hs : r.f5.length ≤ 9223372036854775807 ∧ r.f7.length ≤ 9223372036854775807 ∧ r.f8.length ≤ 9223372036854775807 ∧ r.f9.length ≤ 9223372036854775807 ∧ r.f10.length ≤ 9223372036854775807) :
    Calls Tryz.prog 16 #[.agg #[.int .i64 r.f0, .int .i64 r.f1, .int .i64 r.f2, .int .i64 r.f3, .int .i64 r.f4, .slice A5 r.f5.length c5, .int .i64 r.f6, .slice A7 r.f7.length c7, .slice A8 r.f8.length c8, .slice A9 r.f9.length c9, .slice A10 r.f10.length c10, .int .i64 r.f11, .int .i64 r.f12], .agg #[.int .i64 m.f0, .int .i64 m.f1, .int .i64 m.f2, .int .i64 m.f3, .int .i64 m.f4, .int .i64 m.f5, .int .i64 m.f6, .slice A m.f7.length c], .bool true] w fun e w' => ∃ m' : Msg, m'.f0 = m.f0 ∧ m'.f7 = m.f7 ∧ e = .returned (.agg #[.int .i64 m'.f0, .int .i64 m'.f1, .int .i64 m'.f2, .int .i64 m'.f3, .int .i64 m'.f4, .int .i64 m'.f5, .int .i64 m'.f6, .slice A m'.f7.length c]) ∧ Mem w w' [] := by
  cases h1 : may r with
  | false => exact (fitted_may r m A5 A7 A8 A9 A10 A c5 c7 c8 c9 c10 c w h hc hs h1).mono fun e w' q => ⟨m, rfl, rfl, q.1, q.2⟩
  | true =>
    by_cases h2 : r.f1 = 1
    · exact (fitted_one r m A5 A7 A8 A9 A10 A c5 c7 c8 c9 c10 c w h hc hs h1 h2).mono fun e w' q => ⟨m, rfl, rfl, q.1, q.2⟩
    have hn : ¬ r.f1 = 0 := by
      intro h0
      have := ((may_iff r).1 h1).1
      rw [h0] at this
      exact absurd this (by decide)
    by_cases g1 : m.f1 < 0
    · exact fitted_neg r m A5 A7 A8 A9 A10 A c5 c7 c8 c9 c10 c w h hc hs h1 h2 hn g1
    by_cases g2 : m.f1 < r.f1
    · by_cases g3 : m.f1 = r.f0
      · exact fitted_self r m A5 A7 A8 A9 A10 A c5 c7 c8 c9 c10 c w h hc hs h1 h2 hn g1 g2 g3
      · exact fitted_same r m A5 A7 A8 A9 A10 A c5 c7 c8 c9 c10 c w h hc hs h1 h2 hn g1 g2 g3
    · exact fitted_big r m A5 A7 A8 A9 A10 A c5 c7 c8 c9 c10 c w h hc hs h1 h2 hn g1 g2
end Go.Proofs.YtggbjokhniigkaaGreat.Fi
