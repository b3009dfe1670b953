/- What comes in, opened: acts on pages. -/
import Derived.Test.YtookpmdgoednfaaOg
import Derived.Test.YtookpmdgoednfaaLw
import Derived.ChangeArms
namespace Go.Proofs.Ytookpmdgoednfaa.Ol
open Go.ChangeShapes Go.WideShapes Go.ChangeAt Go.RowKit Go.Deep Go.Proofs.YtookpmdgoednfaaW.PrintWords Go.Proofs.Ytookpmdgoednfaa.PPagePuts Go.Proofs.Ytookpmdgoednfaa.Pa Go.Proofs.Ytookpmdgoednfaa.Mx Go.Proofs.Ytookpmdgoednfaa.Og Go.Proofs.Ytookpmdgoednfaa.Lw
set_option linter.unusedVariables false
set_option linter.unusedSimpArgs false
set_option maxRecDepth 100000 in
theorem opens_act : Opens Try.prog 39 kA := by
  refine ⟨by kernel_rfl, fun enc w base spare held fuel cs x h => ?_⟩
  obtain ⟨ys, n, rfl, rfl, hl, hyl, hf⟩ := DataW.trod_struct Try.underlying39 h
  rw [show Try.prog.cellsOf 39 = 3 from by kernel_rfl] at hl
  match cs, hl with
  | [c0, c1, c2], _ =>
    have ex : ∀ i, i < 3 → ∃ y, ys[i]? = some y := fun i hi => ⟨_, List.getElem?_eq_getElem (by rw [hyl]; exact hi)⟩
    have h0 := hf 0 _ rfl
    obtain ⟨y0, e0⟩ := ex 0 (by decide)
    rw [e0] at h0
    have h1 := hf 1 _ rfl
    obtain ⟨y1, e1⟩ := ex 1 (by decide)
    rw [e1] at h1
    have h2 := hf 2 _ rfl
    obtain ⟨y2, e2⟩ := ex 2 (by decide)
    rw [e2] at h2
    obtain ⟨n0, g0, _⟩ := DataW.trod_string Try.underlying9 h0
    obtain ⟨n1, g1, _⟩ := DataW.trod_string Try.underlying9 h1
    obtain ⟨n2, g2, _⟩ := DataW.trod_bool Try.underlying4 h2
    replace g0 : List.take (Try.prog.cellsOf 9) (List.drop 0 [c0, c1, c2]) = [.string n0] := g0
    replace g1 : List.take (Try.prog.cellsOf 9) (List.drop 1 [c0, c1, c2]) = [.string n1] := g1
    replace g2 : List.take (Try.prog.cellsOf 4) (List.drop 2 [c0, c1, c2]) = [.bool n2] := g2
    rw [show Try.prog.cellsOf 9 = 1 from by kernel_rfl] at g0 g1
    rw [show Try.prog.cellsOf 4 = 1 from by kernel_rfl] at g2
    injection g0 with g0 _
    injection g1 with g1 _
    injection g2 with g2 _
    subst g0; subst g1; subst g2
    exact ⟨⟨n0, n1, n2⟩, kA_mk w ⟨n0, n1, n2⟩⟩
theorem opens_acts : Opens Try.prog 37 (Kd.slice 39 kA) := opens_slice Try.underlying37 (by kernel_rfl) opens_act
set_option maxRecDepth 100000 in
theorem open_acts {base : Nat} {H : Type} {enc : TypeId × Value → H} {W : World} {v : Value} {d : DataW H} {p : List MemPlace} (hv : Value.okWide Try.prog W .any base 37 v) (h : DataW.Trod enc Try.prog W 0 (fun _ => true) true 37 v d p) :
    ∃ A c l, v = .slice A (List.length l) c ∧ l.length ≤ c ∧ Kd.C kA W A l.length l := by
  obtain ⟨a, n, c, rfl⟩ := okWide_slice Try.underlying37 hv
  obtain ⟨fuel, hf⟩ := h
  obtain ⟨l, A, c', he, hl, hC⟩ := opens_acts.2 enc W 0 _ true fuel _ _ hf
  simp [Value.cells] at he
  obtain ⟨rfl, rfl, rfl⟩ := he
  exact ⟨_, _, l, rfl, hl, hC⟩
end Go.Proofs.Ytookpmdgoednfaa.Ol
