/- What comes in, opened: entries, messages, replicas. -/
import Derived.Test.YtggbjokhniigkaaGreatGa
import Derived.WalkKit
import Derived.ProofKit
import Derived.OpenShut
import Derived.ChangeOld
import Derived.Below
import Derived.Deep.Slices
namespace Go.Proofs.YtggbjokhniigkaaGreat.Or
open Go.ChangeShapes Go.WideShapes Go.ChangeAt Go.RowKit Go.Deep Go.Proofs.YtggbjokhniigkaaGreatW.PrintWords Go.Proofs.YtggbjokhniigkaaGreat.Ty Go.Proofs.YtggbjokhniigkaaGreat.Kx Go.Proofs.YtggbjokhniigkaaGreat.Mx
set_option linter.unusedVariables false
set_option linter.unusedSimpArgs false
def Opens (P : Program) (t : TypeId) {α : Type} (d : Kd α) : Prop := P.cellsOf t = d.sz ∧ ∀ {H : Type} (enc : TypeId × Value → H) (w : World) (base : Nat) (spare : Nat → Bool) (held : Bool) (fuel : Nat) (cs : List Value) (x : DataW H × List MemPlace), DataW.trod enc P w base spare held fuel t cs = some x → ∃ a : α, d.K w a cs
theorem opens_slice {P : Program} {t e : TypeId} {α : Type} {d : Kd α} (ht : P.underlying t = some (.slice e)) (hc : P.cellsOf t = 1) (hd : Opens P e d) : Opens P t (Kd.slice e d) := by
  refine ⟨hc, fun enc w base spare held fuel cs x h => ?_⟩
  rcases open_slice ht h with ⟨rfl, _⟩ | ⟨a, len, cap, m, n, D, Pl, rfl, hb, hl, hm, hmm, rfl, hx⟩
  · exact ⟨[], none, 0, rfl, Nat.le_refl _, Kd.C_nil d w⟩
  · have hlm : len ≤ m := by rw [hmm]; split <;> omega
    have hex : ∀ k, k ≤ len → ∃ l : List α, l.length = k ∧ ∀ j p, l[j]? = some p → ∃ cs', w.cells? base (a.add (j * P.cellsOf e)) (P.cellsOf e) = some cs' ∧ d.K w p cs' := by
      intro k
      induction k with
      | zero => exact fun _ => ⟨[], rfl, fun j p h => by simp at h⟩
      | succ k ih =>
        intro hk
        obtain ⟨l, h1, h2⟩ := ih (by omega)
        obtain ⟨cs', h3, h4⟩ := hx k (by omega)
        obtain ⟨y, hy⟩ := hd.2 enc w base spare held n cs' _ h4
        refine ⟨l ++ [y], by simp [h1], fun j p h => ?_⟩
        rw [List.getElem?_append] at h
        split at h
        · exact h2 j p h
        · have : j = k := by
            have := (List.getElem?_eq_some_iff.1 h).1
            simp at this
            omega
          subst this
          rw [h1, Nat.sub_self] at h
          obtain rfl : y = p := by simpa using h
          exact ⟨cs', h3, hy⟩
    obtain ⟨l, h1, h2⟩ := hex len (Nat.le_refl _)
    subst h1
    refine ⟨l, some a, cap, rfl, hl, rfl, ?_, fun _ => ⟨a, rfl, fun j p hj => ?_⟩⟩
    · have : maxLen ≤ 9223372036854775807 := by decide
      omega
    · obtain ⟨cs', h3, h4⟩ := h2 j p hj
      obtain ⟨_, h5, h6⟩ := World.cells?_some h3
      rw [hd.1] at h5 h6
      refine ⟨cs', h5, h4, fun i u hu => ?_⟩
      have hi : i < d.sz := by rw [← h5]; exact (List.getElem?_eq_some_iff.1 hu).1
      have := h6 i hi
      rw [Go.Deep.add_add] at this
      rw [this, hu]
theorem opens_int : Opens Tryz.prog 3 (Kd.int .i64) := ⟨by kernel_rfl, fun enc w base spare held fuel cs x h => by
  obtain ⟨n, rfl, _⟩ := DataW.trod_int Tryz.underlying3 h
  exact ⟨n, rfl⟩⟩
set_option maxRecDepth 100000 in
theorem opens_entry : Opens Tryz.prog 68 kE := by
  refine ⟨by kernel_rfl, fun enc w base spare held fuel cs x h => ?_⟩
  obtain ⟨ys, n, rfl, rfl, hl, hyl, hf⟩ := DataW.trod_struct Tryz.underlying68 h
  rw [show Tryz.prog.cellsOf 68 = 2 from by kernel_rfl] at hl
  match cs, hl with
  | [c0, c1], _ =>
    have ex : ∀ i, i < 2 → ∃ y, ys[i]? = some y := fun i hi => ⟨_, List.getElem?_eq_getElem (by rw [hyl]; exact hi)⟩
    have h0 := hf 0 _ rfl
    obtain ⟨y0, e0⟩ := ex 0 (by decide)
    rw [e0] at h0
    obtain ⟨n0, g0, _⟩ := DataW.trod_int Tryz.underlying3 h0
    replace g0 : List.take (Tryz.prog.cellsOf 3) (List.drop 0 [c0, c1]) = [.int .i64 n0] := g0
    rw [show Tryz.prog.cellsOf 3 = 1 from by kernel_rfl] at g0
    injection g0 with g0 _
    have h1 := hf 1 _ rfl
    obtain ⟨y1, e1⟩ := ex 1 (by decide)
    rw [e1] at h1
    obtain ⟨n1, g1, _⟩ := DataW.trod_string Tryz.underlying9 h1
    replace g1 : List.take (Tryz.prog.cellsOf 9) (List.drop 1 [c0, c1]) = [.string n1] := g1
    rw [show Tryz.prog.cellsOf 9 = 1 from by kernel_rfl] at g1
    injection g1 with g1 _
    subst g0; subst g1
    exact ⟨⟨n0, n1⟩, kE_mk w ⟨n0, n1⟩⟩
set_option maxRecDepth 100000 in
theorem opens_msg : Opens Tryz.prog 27 kM := by
  refine ⟨by kernel_rfl, fun enc w base spare held fuel cs x h => ?_⟩
  obtain ⟨ys, n, rfl, rfl, hl, hyl, hf⟩ := DataW.trod_struct Tryz.underlying27 h
  rw [show Tryz.prog.cellsOf 27 = 8 from by kernel_rfl] at hl
  match cs, hl with
  | [c0, c1, c2, c3, c4, c5, c6, c7], _ =>
    have ex : ∀ i, i < 8 → ∃ y, ys[i]? = some y := fun i hi => ⟨_, List.getElem?_eq_getElem (by rw [hyl]; exact hi)⟩
    have h0 := hf 0 _ rfl
    obtain ⟨y0, e0⟩ := ex 0 (by decide)
    rw [e0] at h0
    obtain ⟨n0, g0, _⟩ := DataW.trod_int Tryz.underlying3 h0
    replace g0 : List.take (Tryz.prog.cellsOf 3) (List.drop 0 [c0, c1, c2, c3, c4, c5, c6, c7]) = [.int .i64 n0] := g0
    rw [show Tryz.prog.cellsOf 3 = 1 from by kernel_rfl] at g0
    injection g0 with g0 _
    have h1 := hf 1 _ rfl
    obtain ⟨y1, e1⟩ := ex 1 (by decide)
    rw [e1] at h1
    obtain ⟨n1, g1, _⟩ := DataW.trod_int Tryz.underlying3 h1
    replace g1 : List.take (Tryz.prog.cellsOf 3) (List.drop 1 [c0, c1, c2, c3, c4, c5, c6, c7]) = [.int .i64 n1] := g1
    rw [show Tryz.prog.cellsOf 3 = 1 from by kernel_rfl] at g1
    injection g1 with g1 _
    have h2 := hf 2 _ rfl
    obtain ⟨y2, e2⟩ := ex 2 (by decide)
    rw [e2] at h2
    obtain ⟨n2, g2, _⟩ := DataW.trod_int Tryz.underlying3 h2
    replace g2 : List.take (Tryz.prog.cellsOf 3) (List.drop 2 [c0, c1, c2, c3, c4, c5, c6, c7]) = [.int .i64 n2] := g2
    rw [show Tryz.prog.cellsOf 3 = 1 from by kernel_rfl] at g2
    injection g2 with g2 _
    have h3 := hf 3 _ rfl
    obtain ⟨y3, e3⟩ := ex 3 (by decide)
    rw [e3] at h3
    obtain ⟨n3, g3, _⟩ := DataW.trod_int Tryz.underlying3 h3
    replace g3 : List.take (Tryz.prog.cellsOf 3) (List.drop 3 [c0, c1, c2, c3, c4, c5, c6, c7]) = [.int .i64 n3] := g3
    rw [show Tryz.prog.cellsOf 3 = 1 from by kernel_rfl] at g3
    injection g3 with g3 _
    have h4 := hf 4 _ rfl
    obtain ⟨y4, e4⟩ := ex 4 (by decide)
    rw [e4] at h4
    obtain ⟨n4, g4, _⟩ := DataW.trod_int Tryz.underlying3 h4
    replace g4 : List.take (Tryz.prog.cellsOf 3) (List.drop 4 [c0, c1, c2, c3, c4, c5, c6, c7]) = [.int .i64 n4] := g4
    rw [show Tryz.prog.cellsOf 3 = 1 from by kernel_rfl] at g4
    injection g4 with g4 _
    have h5 := hf 5 _ rfl
    obtain ⟨y5, e5⟩ := ex 5 (by decide)
    rw [e5] at h5
    obtain ⟨n5, g5, _⟩ := DataW.trod_int Tryz.underlying3 h5
    replace g5 : List.take (Tryz.prog.cellsOf 3) (List.drop 5 [c0, c1, c2, c3, c4, c5, c6, c7]) = [.int .i64 n5] := g5
    rw [show Tryz.prog.cellsOf 3 = 1 from by kernel_rfl] at g5
    injection g5 with g5 _
    have h6 := hf 6 _ rfl
    obtain ⟨y6, e6⟩ := ex 6 (by decide)
    rw [e6] at h6
    obtain ⟨n6, g6, _⟩ := DataW.trod_int Tryz.underlying3 h6
    replace g6 : List.take (Tryz.prog.cellsOf 3) (List.drop 6 [c0, c1, c2, c3, c4, c5, c6, c7]) = [.int .i64 n6] := g6
    rw [show Tryz.prog.cellsOf 3 = 1 from by kernel_rfl] at g6
    injection g6 with g6 _
    have h7 := hf 7 _ rfl
    obtain ⟨y7, e7⟩ := ex 7 (by decide)
    rw [e7] at h7
    obtain ⟨n7, A7, d7, g7, hl7, hC7⟩ := (opens_slice Tryz.underlying22 (by kernel_rfl) opens_entry).2 enc w base spare held n _ _ h7
    replace g7 : List.take (Tryz.prog.cellsOf 22) (List.drop 7 [c0, c1, c2, c3, c4, c5, c6, c7]) = [.slice A7 n7.length d7] := g7
    rw [show Tryz.prog.cellsOf 22 = 1 from by kernel_rfl] at g7
    injection g7 with g7 _
    subst g0; subst g1; subst g2; subst g3; subst g4; subst g5; subst g6; subst g7
    exact ⟨⟨n0, n1, n2, n3, n4, n5, n6, n7⟩, kM_mk w ⟨n0, n1, n2, n3, n4, n5, n6, n7⟩ hl7 hC7⟩
set_option maxRecDepth 100000 in
theorem opens_rep : Opens Tryz.prog 25 kR := by
  refine ⟨by kernel_rfl, fun enc w base spare held fuel cs x h => ?_⟩
  obtain ⟨ys, n, rfl, rfl, hl, hyl, hf⟩ := DataW.trod_struct Tryz.underlying25 h
  rw [show Tryz.prog.cellsOf 25 = 13 from by kernel_rfl] at hl
  match cs, hl with
  | [c0, c1, c2, c3, c4, c5, c6, c7, c8, c9, c10, c11, c12], _ =>
    have ex : ∀ i, i < 13 → ∃ y, ys[i]? = some y := fun i hi => ⟨_, List.getElem?_eq_getElem (by rw [hyl]; exact hi)⟩
    have h0 := hf 0 _ rfl
    obtain ⟨y0, e0⟩ := ex 0 (by decide)
    rw [e0] at h0
    obtain ⟨n0, g0, _⟩ := DataW.trod_int Tryz.underlying3 h0
    replace g0 : List.take (Tryz.prog.cellsOf 3) (List.drop 0 [c0, c1, c2, c3, c4, c5, c6, c7, c8, c9, c10, c11, c12]) = [.int .i64 n0] := g0
    rw [show Tryz.prog.cellsOf 3 = 1 from by kernel_rfl] at g0
    injection g0 with g0 _
    have h1 := hf 1 _ rfl
    obtain ⟨y1, e1⟩ := ex 1 (by decide)
    rw [e1] at h1
    obtain ⟨n1, g1, _⟩ := DataW.trod_int Tryz.underlying3 h1
    replace g1 : List.take (Tryz.prog.cellsOf 3) (List.drop 1 [c0, c1, c2, c3, c4, c5, c6, c7, c8, c9, c10, c11, c12]) = [.int .i64 n1] := g1
    rw [show Tryz.prog.cellsOf 3 = 1 from by kernel_rfl] at g1
    injection g1 with g1 _
    have h2 := hf 2 _ rfl
    obtain ⟨y2, e2⟩ := ex 2 (by decide)
    rw [e2] at h2
    obtain ⟨n2, g2, _⟩ := DataW.trod_int Tryz.underlying3 h2
    replace g2 : List.take (Tryz.prog.cellsOf 3) (List.drop 2 [c0, c1, c2, c3, c4, c5, c6, c7, c8, c9, c10, c11, c12]) = [.int .i64 n2] := g2
    rw [show Tryz.prog.cellsOf 3 = 1 from by kernel_rfl] at g2
    injection g2 with g2 _
    have h3 := hf 3 _ rfl
    obtain ⟨y3, e3⟩ := ex 3 (by decide)
    rw [e3] at h3
    obtain ⟨n3, g3, _⟩ := DataW.trod_int Tryz.underlying3 h3
    replace g3 : List.take (Tryz.prog.cellsOf 3) (List.drop 3 [c0, c1, c2, c3, c4, c5, c6, c7, c8, c9, c10, c11, c12]) = [.int .i64 n3] := g3
    rw [show Tryz.prog.cellsOf 3 = 1 from by kernel_rfl] at g3
    injection g3 with g3 _
    have h4 := hf 4 _ rfl
    obtain ⟨y4, e4⟩ := ex 4 (by decide)
    rw [e4] at h4
    obtain ⟨n4, g4, _⟩ := DataW.trod_int Tryz.underlying3 h4
    replace g4 : List.take (Tryz.prog.cellsOf 3) (List.drop 4 [c0, c1, c2, c3, c4, c5, c6, c7, c8, c9, c10, c11, c12]) = [.int .i64 n4] := g4
    rw [show Tryz.prog.cellsOf 3 = 1 from by kernel_rfl] at g4
    injection g4 with g4 _
    have h5 := hf 5 _ rfl
    obtain ⟨y5, e5⟩ := ex 5 (by decide)
    rw [e5] at h5
    obtain ⟨n5, A5, d5, g5, hl5, hC5⟩ := (opens_slice Tryz.underlying22 (by kernel_rfl) opens_entry).2 enc w base spare held n _ _ h5
    replace g5 : List.take (Tryz.prog.cellsOf 22) (List.drop 5 [c0, c1, c2, c3, c4, c5, c6, c7, c8, c9, c10, c11, c12]) = [.slice A5 n5.length d5] := g5
    rw [show Tryz.prog.cellsOf 22 = 1 from by kernel_rfl] at g5
    injection g5 with g5 _
    have h6 := hf 6 _ rfl
    obtain ⟨y6, e6⟩ := ex 6 (by decide)
    rw [e6] at h6
    obtain ⟨n6, g6, _⟩ := DataW.trod_int Tryz.underlying3 h6
    replace g6 : List.take (Tryz.prog.cellsOf 3) (List.drop 6 [c0, c1, c2, c3, c4, c5, c6, c7, c8, c9, c10, c11, c12]) = [.int .i64 n6] := g6
    rw [show Tryz.prog.cellsOf 3 = 1 from by kernel_rfl] at g6
    injection g6 with g6 _
    have h7 := hf 7 _ rfl
    obtain ⟨y7, e7⟩ := ex 7 (by decide)
    rw [e7] at h7
    obtain ⟨n7, A7, d7, g7, hl7, hC7⟩ := (opens_slice Tryz.underlying23 (by kernel_rfl) opens_int).2 enc w base spare held n _ _ h7
    replace g7 : List.take (Tryz.prog.cellsOf 23) (List.drop 7 [c0, c1, c2, c3, c4, c5, c6, c7, c8, c9, c10, c11, c12]) = [.slice A7 n7.length d7] := g7
    rw [show Tryz.prog.cellsOf 23 = 1 from by kernel_rfl] at g7
    injection g7 with g7 _
    have h8 := hf 8 _ rfl
    obtain ⟨y8, e8⟩ := ex 8 (by decide)
    rw [e8] at h8
    obtain ⟨n8, A8, d8, g8, hl8, hC8⟩ := (opens_slice Tryz.underlying23 (by kernel_rfl) opens_int).2 enc w base spare held n _ _ h8
    replace g8 : List.take (Tryz.prog.cellsOf 23) (List.drop 8 [c0, c1, c2, c3, c4, c5, c6, c7, c8, c9, c10, c11, c12]) = [.slice A8 n8.length d8] := g8
    rw [show Tryz.prog.cellsOf 23 = 1 from by kernel_rfl] at g8
    injection g8 with g8 _
    have h9 := hf 9 _ rfl
    obtain ⟨y9, e9⟩ := ex 9 (by decide)
    rw [e9] at h9
    obtain ⟨n9, A9, d9, g9, hl9, hC9⟩ := (opens_slice Tryz.underlying23 (by kernel_rfl) opens_int).2 enc w base spare held n _ _ h9
    replace g9 : List.take (Tryz.prog.cellsOf 23) (List.drop 9 [c0, c1, c2, c3, c4, c5, c6, c7, c8, c9, c10, c11, c12]) = [.slice A9 n9.length d9] := g9
    rw [show Tryz.prog.cellsOf 23 = 1 from by kernel_rfl] at g9
    injection g9 with g9 _
    have h10 := hf 10 _ rfl
    obtain ⟨y10, e10⟩ := ex 10 (by decide)
    rw [e10] at h10
    obtain ⟨n10, A10, d10, g10, hl10, hC10⟩ := (opens_slice Tryz.underlying22 (by kernel_rfl) opens_entry).2 enc w base spare held n _ _ h10
    replace g10 : List.take (Tryz.prog.cellsOf 22) (List.drop 10 [c0, c1, c2, c3, c4, c5, c6, c7, c8, c9, c10, c11, c12]) = [.slice A10 n10.length d10] := g10
    rw [show Tryz.prog.cellsOf 22 = 1 from by kernel_rfl] at g10
    injection g10 with g10 _
    have h11 := hf 11 _ rfl
    obtain ⟨y11, e11⟩ := ex 11 (by decide)
    rw [e11] at h11
    obtain ⟨n11, g11, _⟩ := DataW.trod_int Tryz.underlying3 h11
    replace g11 : List.take (Tryz.prog.cellsOf 3) (List.drop 11 [c0, c1, c2, c3, c4, c5, c6, c7, c8, c9, c10, c11, c12]) = [.int .i64 n11] := g11
    rw [show Tryz.prog.cellsOf 3 = 1 from by kernel_rfl] at g11
    injection g11 with g11 _
    have h12 := hf 12 _ rfl
    obtain ⟨y12, e12⟩ := ex 12 (by decide)
    rw [e12] at h12
    obtain ⟨n12, g12, _⟩ := DataW.trod_int Tryz.underlying3 h12
    replace g12 : List.take (Tryz.prog.cellsOf 3) (List.drop 12 [c0, c1, c2, c3, c4, c5, c6, c7, c8, c9, c10, c11, c12]) = [.int .i64 n12] := g12
    rw [show Tryz.prog.cellsOf 3 = 1 from by kernel_rfl] at g12
    injection g12 with g12 _
    subst g0; subst g1; subst g2; subst g3; subst g4; subst g5; subst g6; subst g7; subst g8; subst g9; subst g10; subst g11; subst g12
    exact ⟨⟨n0, n1, n2, n3, n4, n5, n6, n7, n8, n9, n10, n11, n12⟩, kR_mk w ⟨n0, n1, n2, n3, n4, n5, n6, n7, n8, n9, n10, n11, n12⟩ hl5 hC5 hl7 hC7 hl8 hC8 hl9 hC9 hl10 hC10⟩
set_option maxRecDepth 100000 in
theorem open_rep {base : Nat} {H : Type} {enc : TypeId × Value → H} {W : World} {v : Value} {d : DataW H} {p : List MemPlace} (hv : Value.okWide Tryz.prog W .any base 25 v) (h : DataW.Trod enc Tryz.prog W 0 (fun _ => true) true 25 v d p) :
    ∃ (r : Rep) (A5 : Option Addr) (c5 : Nat) (A7 : Option Addr) (c7 : Nat) (A8 : Option Addr) (c8 : Nat) (A9 : Option Addr) (c9 : Nat) (A10 : Option Addr) (c10 : Nat), v = .agg #[.int .i64 r.f0, .int .i64 r.f1, .int .i64 r.f2, .int .i64 r.f3, .int .i64 r.f4, .slice A5 r.f5.length c5, .int .i64 r.f6, .slice A7 r.f7.length c7, .slice A8 r.f8.length c8, .slice A9 r.f9.length c9, .slice A10 r.f10.length c10, .int .i64 r.f11, .int .i64 r.f12] ∧ r.f5.length ≤ c5 ∧ kE.C W A5 r.f5.length r.f5 ∧ r.f7.length ≤ c7 ∧ (Kd.int .i64).C W A7 r.f7.length r.f7 ∧ r.f8.length ≤ c8 ∧ (Kd.int .i64).C W A8 r.f8.length r.f8 ∧ r.f9.length ≤ c9 ∧ (Kd.int .i64).C W A9 r.f9.length r.f9 ∧ r.f10.length ≤ c10 ∧ kE.C W A10 r.f10.length r.f10 := by
  obtain ⟨cs, rfl, _⟩ := okWide_struct Tryz.underlying25 hv
  obtain ⟨fuel, hf⟩ := h
  obtain ⟨r, hr⟩ := opens_rep.2 enc W 0 _ true fuel _ _ hf
  obtain ⟨A5, c5, A7, c7, A8, c8, A9, c9, A10, c10, he, l5, g5, l7, g7, l8, g8, l9, g9, l10, g10⟩ := kR_open hr
  refine ⟨r, A5, c5, A7, c7, A8, c8, A9, c9, A10, c10, ?_, l5, g5, l7, g7, l8, g8, l9, g9, l10, g10⟩
  have h2 : cs.toList = _ := he
  exact congrArg Value.agg ((Array.toArray_toList (xs := cs)).symm.trans (congrArg List.toArray h2))
set_option maxRecDepth 100000 in
theorem open_msg {base : Nat} {H : Type} {enc : TypeId × Value → H} {W : World} {v : Value} {d : DataW H} {p : List MemPlace} (hv : Value.okWide Tryz.prog W .any base 27 v) (h : DataW.Trod enc Tryz.prog W 0 (fun _ => true) true 27 v d p) :
    ∃ (m : Msg) (A : Option Addr) (c : Nat), v = .agg #[.int .i64 m.f0, .int .i64 m.f1, .int .i64 m.f2, .int .i64 m.f3, .int .i64 m.f4, .int .i64 m.f5, .int .i64 m.f6, .slice A m.f7.length c] ∧ m.f7.length ≤ c ∧ kE.C W A m.f7.length m.f7 := by
  obtain ⟨cs, rfl, _⟩ := okWide_struct Tryz.underlying27 hv
  obtain ⟨fuel, hf⟩ := h
  obtain ⟨m, hr⟩ := opens_msg.2 enc W 0 _ true fuel _ _ hf
  obtain ⟨A, c, he, l, g⟩ := kM_open hr
  refine ⟨m, A, c, ?_, l, g⟩
  have h2 : cs.toList = _ := he
  exact congrArg Value.agg ((Array.toArray_toList (xs := cs)).symm.trans (congrArg List.toArray h2))
end Go.Proofs.YtggbjokhniigkaaGreat.Or
