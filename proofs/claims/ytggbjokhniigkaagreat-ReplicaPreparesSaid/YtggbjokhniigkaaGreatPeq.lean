/- A log with an entry more, in plain words. No condition. -/
import Derived.Test.YtggbjokhniigkaaGreatWhq
namespace Go.Proofs.YtggbjokhniigkaaGreat.Pe
open Go.Proofs.YtggbjokhniigkaaGreat.Ty Go.RowKit
theorem rises_snoc (e : Entry) : ∀ (l : List Entry) (last : Int), rises last (l ++ [e]) = (rises last l && decide ((match l.getLast? with | some x => x.f0 | none => last) < e.f0) && decide (e.f0 < maxTime) && decide (e.f1.size ≤ 20000))
  | [], last => by
    simp only [List.nil_append, rises, Bool.and_true, Bool.true_and]
    rfl
  | a :: l, last => by
    have ih := rises_snoc e l a.f0
    simp only [List.cons_append, rises, ih]
    have hm : (match (a :: l).getLast? with | some x => x.f0 | none => last) = (match l.getLast? with | some x => x.f0 | none => a.f0) := by
      cases l with
      | nil => rfl
      | cons b l =>
        rw [List.getLast?_cons_cons]
        cases h : (b :: l).getLast? with
        | none => simp at h
        | some x => rfl
    rw [hm]
    simp only [Bool.and_assoc]
theorem log_snoc (l : List Entry) (e : Entry) (h : log l = true) (h1 : e.f0 < maxTime) (h2 : e.f1.size ≤ 20000) : log (l ++ [e]) = (decide (lastTime l < e.f0) && decide (l.length < 1000)) := by
  unfold log at h ⊢
  simp only [Bool.and_eq_true, decide_eq_true_eq] at h
  rw [rises_snoc, h.1]
  have e1 : (match l.getLast? with | some x => x.f0 | none => 0) = lastTime l := by unfold lastTime; cases l.getLast? <;> rfl
  rw [e1, decide_eq_true h1, decide_eq_true h2]
  simp only [Bool.true_and, Bool.and_true, List.length_append, List.length_singleton]
  congr 1
theorem eq_f {a b : Int} (h : ¬ a = b) : (a == b) = false := by simpa using h
theorem eq_t {a b : Int} (h : a = b) : (a == b) = true := by simpa using h
theorem low_ {a : Int} {n : Nat} (h : a ≤ (n : Int)) : (a == (n : Int) + 1) = false ∧ decide (a ≤ (n : Int)) = true ∧ decide ((n : Int) < a) = false := ⟨eq_f (by omega), decide_eq_true h, decide_eq_false (by omega)⟩
theorem high_ {a : Int} {n : Nat} (h : (n : Int) + 1 < a) : (a == (n : Int) + 1) = false ∧ decide (a ≤ (n : Int)) = false ∧ decide ((n : Int) < a) = true := ⟨eq_f (by omega), decide_eq_false (by omega), decide_eq_true (by omega)⟩
theorem even_ {a : Int} {n : Nat} (h : a = (n : Int) + 1) : (a == (n : Int) + 1) = true ∧ decide (a ≤ (n : Int)) = false ∧ decide ((n : Int) < a) = true := ⟨eq_t h, decide_eq_false (by omega), decide_eq_true (by omega)⟩
theorem up_ {a : Int} {n k : Nat} (h : a = (n : Int) + 1) (hk : k = n + 1) : (a == (n : Int) + 1) = true ∧ decide (a ≤ (k : Int)) = true ∧ decide ((k : Int) < a) = false := ⟨eq_t h, decide_eq_true (by omega), decide_eq_false (by omega)⟩
theorem wr_ {n : Nat} (h : n ≤ 1200) : IntKind.i64.wrap ((n : Int) + 1) = (n : Int) + 1 ∧ wrap64 ((n : Int) + 1) = (n : Int) + 1 := ⟨by rw [IntKind.wrap_i64]; omega, by unfold wrap64; omega⟩
theorem th_t {n : Nat} (h : n < 1000) : decide ((n : Int) < 1000) = true := decide_eq_true (by omega)
theorem th_f {n : Nat} (h : ¬ n < 1000) : decide ((n : Int) < 1000) = false := decide_eq_false (by omega)
end Go.Proofs.YtggbjokhniigkaaGreat.Pe
