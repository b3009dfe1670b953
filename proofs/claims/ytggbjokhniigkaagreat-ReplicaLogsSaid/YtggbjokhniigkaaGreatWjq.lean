/- What the printed contracts say, in the replica's own words; New; the document's example. -/
import Derived.Test.YtggbjokhniigkaaGreatGd
import Derived.Test.YtggbjokhniigkaaGreatWh0q
import Derived.Test.YtggbjokhniigkaaGreatPr2q
namespace Go.Proofs.YtggbjokhniigkaaGreat.Wj
open Go.Proofs.YtggbjokhniigkaaGreat.Ty Go.RowKit Go.Proofs.YtggbjokhniigkaaGreatW.PrintWords Go.Proofs.YtggbjokhniigkaaGreatW.PrintLast Go.Proofs.YtggbjokhniigkaaGreatW.PrintMore Go.Proofs.YtggbjokhniigkaaGreat.Mx Go.Proofs.YtggbjokhniigkaaGreat.Kx Go.Proofs.YtggbjokhniigkaaGreat.Wa Go.Proofs.YtggbjokhniigkaaGreat.Wb Go.Proofs.YtggbjokhniigkaaGreat.Wc Go.Proofs.YtggbjokhniigkaaGreat.Wd Go.Proofs.YtggbjokhniigkaaGreat.We Go.Proofs.YtggbjokhniigkaaGreat.Wf Go.Proofs.YtggbjokhniigkaaGreat.PReplicaTakes
set_option linter.unusedVariables false
set_option linter.unusedSimpArgs false
abbrev SE := S68
def toS (e : Entry) : SE := ⟨e.f0, e.f1⟩
theorem C_toS {w : World} {A : Option Addr} {n : Nat} {l : List Entry} (h : Kd.C kE w A n l) : Kd.C k68 w A n (l.map toS) := by
  obtain ⟨h1, h2, h3⟩ := h
  refine ⟨by rw [List.length_map]; exact h1, by first | exact h2 | (rw [List.length_map]; exact h2), fun hp => ?_⟩
  obtain ⟨ad, e, hc⟩ := h3 hp
  refine ⟨ad, e, fun j p hj => ?_⟩
  rw [List.getElem?_map] at hj
  cases hl : l[j]? with
  | none => rw [hl] at hj; cases hj
  | some x =>
    rw [hl] at hj
    obtain rfl : toS x = p := by simpa using hj
    obtain ⟨c, g1, g2, g3⟩ := hc j x hl
    refine ⟨c, g1, ?_, g3⟩
    obtain rfl := kE_open g2
    exact k68_mk w (toS x)
theorem C_zero {α : Type} {w : World} {A : Option Addr} (d : Kd α) : Kd.C d w A 0 [] := ⟨rfl, by decide, fun h => absurd h (by decide)⟩
theorem R_form {α : Type} {d : Kd α} {e : Nat} {w w' : World} {v : Value} {xs : List α} {ok : Nat → Prop} (hb : Below w.heap.size w w') (h : d.R e w' w.heap.size ok v xs) : ∃ A c, v = .slice A xs.length c ∧ xs.length ≤ c ∧ d.C w' A xs.length xs :=
  ((Mem.nil w).fresh hb h).row_at 0 rfl
theorem wrap64_id {x : Int} (h : -9000000000000000000 ≤ x) (h2 : x ≤ 9000000000000000000) : wrap64 x = x := by
  unfold wrap64
  go_num
theorem wrap1 (j : Nat) (h : j ≤ 100000000) : wrap64 ((j : Int) + 1) = ((j + 1 : Nat) : Int) := by
  rw [wrap64_id (by omega) (by omega)]
  push_cast
  rfl
end Go.Proofs.YtggbjokhniigkaaGreat.Wj
