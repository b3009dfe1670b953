/- The order of texts: what the two comparisons that name equality come to. No condition. -/
import Derived.Sort.Walk0
import Derived.Laws.Strings
import Derived.Test.YtookpmdgoednfaaWWords
namespace Go.Proofs.Ytookpmdgoednfaa.Le
theorem bl_tri : ∀ (a b : List UInt8), (Op.bytesLess a b || a == b) = !(Op.bytesLess b a)
  | [], [] => by simp [Op.bytesLess]
  | [], b :: y => by simp [Op.bytesLess]
  | a :: x, [] => by simp [Op.bytesLess]
  | a :: x, b :: y => by
    have ih := bl_tri x y
    simp only [Op.bytesLess]
    rcases Nat.lt_trichotomy a.toNat b.toNat with h | h | h
    · have h1 : a < b := h
      have h2 : ¬ b < a := fun g => by have : b.toNat < a.toNat := g; omega
      have h3 : ¬ b = a := fun g => by subst g; omega
      simp [h1, h2, h3]
    · have h3 : a = b := UInt8.toNat_inj.1 h
      subst h3
      have h2 : ¬ a < a := fun g => by have : a.toNat < a.toNat := g; omega
      simp [h2] at ih ⊢
      exact ih
    · have h1 : ¬ a < b := fun g => by have : a.toNat < b.toNat := g; omega
      have h2 : b < a := h
      have h3 : ¬ a = b := fun g => by subst g; omega
      simp [h1, h2, h3]
theorem str_leq (t : TypeId) (a b : ByteArray) : binOp .leq t (.string a) (.string b) = pure (.bool !(Op.bytesLess b.toList a.toList)) := by
  have : binOp .leq t (.string a) (.string b) = pure (.bool (Op.bytesLess a.toList b.toList || a.toList == b.toList)) := by simp [binOp, Op.stringOp]
  rw [this, bl_tri]
theorem str_gtr (t : TypeId) (a b : ByteArray) : binOp .gtr t (.string a) (.string b) = pure (.bool (Op.bytesLess b.toList a.toList)) := by
  have : binOp .gtr t (.string a) (.string b) = pure (.bool !(Op.bytesLess a.toList b.toList || a.toList == b.toList)) := by simp [binOp, Op.stringOp]
  rw [this, bl_tri, Bool.not_not]
theorem str_geq (t : TypeId) (a b : ByteArray) : binOp .geq t (.string a) (.string b) = pure (.bool !(Op.bytesLess a.toList b.toList)) := by simp [binOp, Op.stringOp]
end Go.Proofs.Ytookpmdgoednfaa.Le
