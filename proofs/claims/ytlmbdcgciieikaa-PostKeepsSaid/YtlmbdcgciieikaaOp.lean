/- What comes in, opened: a slice of messages reads as a list. -/
import Derived.Test.YtlmbdcgciieikaaPl
import Derived.WalkKit
import Derived.ProofKit
import Derived.OpenShut
import Derived.ChangeOld
import Derived.Below
import Derived.Deep.Slices
namespace Go.Proofs.Ytlmbdcgciieikaa.Op
open Go.ChangeShapes Go.WideShapes Go.ChangeAt Go.RowKit Go.Deep Go.Proofs.YtlmbdcgciieikaaW.PrintWords Go.Proofs.Ytlmbdcgciieikaa.PPostAdds
set_option linter.unusedVariables false
set_option linter.unusedSimpArgs false
def Opens (P : Program) (t : TypeId) {α : Type} (d : Kd α) : Prop := P.cellsOf t = d.sz ∧ ∀ {H : Type} (enc : TypeId × Value → H) (w : World) (base : Nat) (spare : Nat → Bool) (held : Bool) (fuel : Nat) (cs : List Value) (x : DataW H × List MemPlace), DataW.trod enc P w base spare held fuel t cs = some x → ∃ a : α, d.K w a cs
theorem opens_slice {P : Program} {t e : TypeId} {α : Type} {d : Kd α} (ht : P.underlying t = some (.slice e)) (hc : P.cellsOf t = 1) (hd : Opens P e d) : Opens P t (Kd.slice e d) := by
  refine ⟨hc, fun enc w base spare held fuel cs x h => ?_⟩
  rcases open_slice ht h with ⟨rfl, _⟩ | ⟨a, len, cap, m, n, D, Pl, rfl, hb, hl, hm, hmm, rfl, hx⟩
  · exact ⟨[], none, 0, rfl, Nat.le_refl _, Kd.C_nil d w⟩
  · have hlm : len ≤ m := by rw [hmm]; split <;> omega
    have hex : ∀ k, k ≤ len → ∃ l : List α, l.length = k ∧ ∀ j p, l[j]? = some p → ∃ cs', w.cells? base (a.add (j * P.cellsOf e)) (P.cellsOf e) = some cs' ∧ d.K w p cs' := by
      intro k
      induction k with
      | zero => exact fun _ => ⟨[], rfl, fun j p h => by simp at h⟩
      | succ k ih =>
        intro hk
        obtain ⟨l, h1, h2⟩ := ih (by omega)
        obtain ⟨cs', h3, h4⟩ := hx k (by omega)
        obtain ⟨y, hy⟩ := hd.2 enc w base spare held n cs' _ h4
        refine ⟨l ++ [y], by simp [h1], fun j p h => ?_⟩
        rw [List.getElem?_append] at h
        split at h
        · exact h2 j p h
        · have : j = k := by
            have := (List.getElem?_eq_some_iff.1 h).1
            simp at this
            omega
          subst this
          rw [h1, Nat.sub_self] at h
          obtain rfl : y = p := by simpa using h
          exact ⟨cs', h3, hy⟩
    obtain ⟨l, h1, h2⟩ := hex len (Nat.le_refl _)
    subst h1
    refine ⟨l, some a, cap, rfl, hl, rfl, ?_, fun _ => ⟨a, rfl, fun j p hj => ?_⟩⟩
    · have : maxLen ≤ 9223372036854775807 := by decide
      omega
    · obtain ⟨cs', h3, h4⟩ := h2 j p hj
      obtain ⟨_, h5, h6⟩ := World.cells?_some h3
      rw [hd.1] at h5 h6
      refine ⟨cs', h5, h4, fun i u hu => ?_⟩
      have hi : i < d.sz := by rw [← h5]; exact (List.getElem?_eq_some_iff.1 hu).1
      have := h6 i hi
      rw [Go.Deep.add_add] at this
      rw [this, hu]
theorem opens_entry : Opens Try.prog 48 k48 := by
  refine ⟨by kernel_rfl, fun enc w base spare held fuel cs x h => ?_⟩
  obtain ⟨ys, n, rfl, rfl, hl, hyl, hf⟩ := DataW.trod_struct Try.underlying48 h
  rw [show Try.prog.cellsOf 48 = 2 from by kernel_rfl] at hl
  match cs, hl with
  | [c0, c1], _ =>
    have h0 := hf 0 _ rfl
    have h1 := hf 1 _ rfl
    obtain ⟨y0, e0⟩ : ∃ y, ys[0]? = some y := ⟨_, List.getElem?_eq_getElem (by rw [hyl]; decide)⟩
    obtain ⟨y1, e1⟩ : ∃ y, ys[1]? = some y := ⟨_, List.getElem?_eq_getElem (by rw [hyl]; decide)⟩
    rw [e0] at h0
    rw [e1] at h1
    obtain ⟨n0, g0, _⟩ := DataW.trod_int Try.underlying3 h0
    obtain ⟨s1, g1, _⟩ := DataW.trod_string Try.underlying9 h1
    replace g0 : List.take (Try.prog.cellsOf 3) (List.drop 0 [c0, c1]) = [.int .i64 n0] := g0
    replace g1 : List.take (Try.prog.cellsOf 9) (List.drop 1 [c0, c1]) = [.string s1] := g1
    rw [show Try.prog.cellsOf 3 = 1 from by kernel_rfl] at g0
    rw [show Try.prog.cellsOf 9 = 1 from by kernel_rfl] at g1
    injection g0 with g0 _
    injection g1 with g1 _
    subst g0; subst g1
    exact ⟨⟨n0, s1⟩, k48_mk w ⟨n0, s1⟩⟩
theorem opens_msg : Opens Try.prog 29 k29 := by
  refine ⟨by kernel_rfl, fun enc w base spare held fuel cs x h => ?_⟩
  obtain ⟨ys, n, rfl, rfl, hl, hyl, hf⟩ := DataW.trod_struct Try.underlying29 h
  rw [show Try.prog.cellsOf 29 = 8 from by kernel_rfl] at hl
  match cs, hl with
  | [c0, c1, c2, c3, c4, c5, c6, c7], _ =>
    have h0 := hf 0 _ rfl
    have h1 := hf 1 _ rfl
    have h2 := hf 2 _ rfl
    have h3 := hf 3 _ rfl
    have h4 := hf 4 _ rfl
    have h5 := hf 5 _ rfl
    have h6 := hf 6 _ rfl
    have h7 := hf 7 _ rfl
    have ex : ∀ i, i < 8 → ∃ y, ys[i]? = some y := fun i hi => ⟨_, List.getElem?_eq_getElem (by rw [hyl]; exact hi)⟩
    obtain ⟨y0, e0⟩ := ex 0 (by decide)
    obtain ⟨y1, e1⟩ := ex 1 (by decide)
    obtain ⟨y2, e2⟩ := ex 2 (by decide)
    obtain ⟨y3, e3⟩ := ex 3 (by decide)
    obtain ⟨y4, e4⟩ := ex 4 (by decide)
    obtain ⟨y5, e5⟩ := ex 5 (by decide)
    obtain ⟨y6, e6⟩ := ex 6 (by decide)
    obtain ⟨y7, e7⟩ := ex 7 (by decide)
    rw [e0] at h0
    rw [e1] at h1
    rw [e2] at h2
    rw [e3] at h3
    rw [e4] at h4
    rw [e5] at h5
    rw [e6] at h6
    rw [e7] at h7
    have one : Try.prog.cellsOf 3 = 1 := by kernel_rfl
    obtain ⟨n0, g0, _⟩ := DataW.trod_int Try.underlying3 h0
    obtain ⟨n1, g1, _⟩ := DataW.trod_int Try.underlying3 h1
    obtain ⟨n2, g2, _⟩ := DataW.trod_int Try.underlying3 h2
    obtain ⟨n3, g3, _⟩ := DataW.trod_int Try.underlying3 h3
    obtain ⟨n4, g4, _⟩ := DataW.trod_int Try.underlying3 h4
    obtain ⟨n5, g5, _⟩ := DataW.trod_int Try.underlying3 h5
    obtain ⟨n6, g6, _⟩ := DataW.trod_int Try.underlying3 h6
    obtain ⟨l7, A7, d7, g7, hl7, hC7⟩ := (opens_slice Try.underlying27 (by kernel_rfl) opens_entry).2 enc w base spare held n _ _ h7
    replace g0 : List.take (Try.prog.cellsOf 3) (List.drop 0 [c0, c1, c2, c3, c4, c5, c6, c7]) = [.int .i64 n0] := g0
    replace g1 : List.take (Try.prog.cellsOf 3) (List.drop 1 [c0, c1, c2, c3, c4, c5, c6, c7]) = [.int .i64 n1] := g1
    replace g2 : List.take (Try.prog.cellsOf 3) (List.drop 2 [c0, c1, c2, c3, c4, c5, c6, c7]) = [.int .i64 n2] := g2
    replace g3 : List.take (Try.prog.cellsOf 3) (List.drop 3 [c0, c1, c2, c3, c4, c5, c6, c7]) = [.int .i64 n3] := g3
    replace g4 : List.take (Try.prog.cellsOf 3) (List.drop 4 [c0, c1, c2, c3, c4, c5, c6, c7]) = [.int .i64 n4] := g4
    replace g5 : List.take (Try.prog.cellsOf 3) (List.drop 5 [c0, c1, c2, c3, c4, c5, c6, c7]) = [.int .i64 n5] := g5
    replace g6 : List.take (Try.prog.cellsOf 3) (List.drop 6 [c0, c1, c2, c3, c4, c5, c6, c7]) = [.int .i64 n6] := g6
    replace g7 : List.take (Try.prog.cellsOf 27) (List.drop 7 [c0, c1, c2, c3, c4, c5, c6, c7]) = [.slice A7 l7.length d7] := g7
    rw [one] at g0 g1 g2 g3 g4 g5 g6
    rw [show Try.prog.cellsOf 27 = 1 from by kernel_rfl] at g7
    injection g0 with g0 _
    injection g1 with g1 _
    injection g2 with g2 _
    injection g3 with g3 _
    injection g4 with g4 _
    injection g5 with g5 _
    injection g6 with g6 _
    injection g7 with g7 _
    subst g0; subst g1; subst g2; subst g3; subst g4; subst g5; subst g6; subst g7
    exact ⟨⟨n0, n1, n2, n3, n4, n5, n6, l7⟩, k29_mk w ⟨n0, n1, n2, n3, n4, n5, n6, l7⟩ hl7 hC7⟩
theorem opens_list : Opens Try.prog 22 (Kd.slice 29 k29) := opens_slice Try.underlying22 (by kernel_rfl) opens_msg
end Go.Proofs.Ytlmbdcgciieikaa.Op
