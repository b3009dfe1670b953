/- Texts laid together: Cx, Pv, Ra, Wa, Wb, We, Rb. No condition. -/
import Derived.WalkSpells
import Derived.WalkLawsBesides
import Derived.RegionTactic
import Derived.Deep.RegionLaw
import Derived.Deep.QuietTactic
import Derived.BigQuiet
import Derived.BigRegion
import Derived.Outline
import Derived.ChangeAlike
import Derived.Deep.DeepMust
import Derived.Deep.LoopGhost
import Derived.OrdersHeld
import Derived.Test.YtggbjokhniigkaaYGz3
set_option linter.unusedVariables false
set_option linter.unusedSimpArgs false
set_option maxRecDepth 100000
set_option maxHeartbeats 8000000
namespace Go.Proofs.Ytggbjokhniigkaa.Cx
open Ty Tk
structure Fine (r : Rep) : Prop where
  i0 : 0 ≤ r.f0
  i1 : r.f0 < r.f1
  n5 : r.f1 ≤ 5
  w0 : 0 ≤ r.f2
  w1 : r.f2 ≤ 4611686018427387904
  l5 : r.f5.length ≤ 1200
  p9 : r.f9.Pairwise (fun a b => a < b)
  l9 : r.f9.length ≤ 20
  l10 : r.f10.length ≤ 1200
theorem all_len (id n view : Int) (m : Msg) : ∀ (k : Nat) (i : Int), (allFrom id n view m k i).length ≤ k
  | 0, _ => Nat.le_refl _
  | k + 1, i => by
    simp only [allFrom]
    have := all_len id n view m k (i + 1)
    split
    · split
      · omega
      · rw [List.length_cons]
        omega
    · exact Nat.zero_le _
theorem all_f7 (id n view : Int) (m : Msg) : ∀ (k : Nat) (i : Int), ∀ x ∈ allFrom id n view m k i, x.f7 = m.f7
  | 0, _, _, h => by cases h
  | k + 1, i, x, h => by
    simp only [allFrom] at h
    split at h
    · split at h
      · exact all_f7 id n view m k (i + 1) x h
      · rcases List.mem_cons.1 h with rfl | h
        · rfl
        · exact all_f7 id n view m k (i + 1) x h
    · cases h
theorem upTo_no {r : Rep} {v : Int} (h : ¬ r.f2 < v) : upTo r v = (r, []) := if_neg h
theorem upTo_yes {r : Rep} {v : Int} (h : r.f2 < v) : upTo r v = (change r v, toAll (change r v) ⟨4, 0, 0, 0, 0, 0, 0, []⟩) := if_pos h
theorem upTo_fine {r s : Rep} {v : Int} {o : List Msg} (h : Fine r) (hv : 0 ≤ v) (hv2 : v ≤ 4611686018427387904) (e : upTo r v = (s, o)) : Fine s ∧ s.f5 = r.f5 ∧ o.length ≤ 5 ∧ (∀ x ∈ o, x.f7 = []) := by
  by_cases g : r.f2 < v
  · rw [upTo_yes g] at e
    injection e with e1 e2
    subst e1
    subst e2
    refine ⟨⟨h.i0, h.i1, h.n5, hv, hv2, h.l5, List.Pairwise.nil, Nat.zero_le _, Nat.zero_le _⟩, rfl, ?_, fun x hx => all_f7 _ _ _ _ _ _ x hx⟩
    have h1 := all_len (change r v).f0 (change r v).f1 (change r v).f2 ⟨4, 0, 0, 0, 0, 0, 0, []⟩ (change r v).f1.toNat 0
    have h2 : (change r v).f1.toNat ≤ 5 := by
      show r.f1.toNat ≤ 5
      have := h.n5
      omega
    exact Nat.le_trans h1 h2
  · rw [upTo_no g] at e
    injection e with e1 e2
    subst e1
    subst e2
    exact ⟨h, rfl, Nat.zero_le _, fun _ h => by cases h⟩
/-- The votes. -/
theorem upTo_votes {r s : Rep} {v : Int} {o : List Msg} (h : r.f8.Pairwise (fun a b => a < b) ∧ r.f8.length ≤ 20) (e : upTo r v = (s, o)) : s.f8.Pairwise (fun a b => a < b) ∧ s.f8.length ≤ 20 := by
  by_cases g : r.f2 < v
  · rw [upTo_yes g] at e
    injection e with e1 e2
    subst e1
    exact ⟨List.pairwise_singleton _ _, Nat.le_trans (Nat.le_refl 1) (by decide)⟩
  · rw [upTo_no g] at e
    injection e with e1 e2
    subst e1
    exact h
def bests (r : Rep) (was : Int) (lg : List Entry) : List Entry × Int := if better r was lg then (lg, was) else (r.f10, r.f11)
theorem bests_yes {r : Rep} {was : Int} {lg : List Entry} (h : better r was lg) : bests r was lg = (lg, was) := if_pos h
theorem bests_no {r : Rep} {was : Int} {lg : List Entry} (h : ¬ better r was lg) : bests r was lg = (r.f10, r.f11) := if_neg h
section
variable {r : Rep} {frm was commit : Int} {lg : List Entry} {zs : List Int} {bl : List Entry} {bv bd : Int}
theorem counted_is (h1 : insertId r.f9 frm = zs) (h2 : bests r was lg = (bl, bv)) (h3 : min (max r.f12 commit) (bl.length : Int) = bd) : counted r frm was commit lg = { r with f9 := zs, f10 := bl, f11 := bv, f12 := bd } := by
  subst h1
  subst h3
  unfold bests at h2
  unfold counted
  by_cases g : better r was lg
  · rw [if_pos g] at h2
    injection h2 with e1 e2
    subst e1
    subst e2
    simp only [if_pos g]
  · rw [if_neg g] at h2
    injection h2 with e1 e2
    subst e1
    subst e2
    simp only [if_neg g]
theorem states_in (h : frm ∈ r.f9) : states r frm was commit lg = (r, []) := if_pos h
theorem states_few (h : ¬ frm ∈ r.f9) (h1 : insertId r.f9 frm = zs) (h2 : bests r was lg = (bl, bv)) (h3 : min (max r.f12 commit) (bl.length : Int) = bd) (h4 : ¬ (zs.length : Int) = most r.f1) :
    states r frm was commit lg = ({ r with f9 := zs, f10 := bl, f11 := bv, f12 := bd }, []) := by
  unfold states
  rw [if_neg h, counted_is h1 h2 h3]
  exact if_neg h4
theorem states_most (h : ¬ frm ∈ r.f9) (h1 : insertId r.f9 frm = zs) (h2 : bests r was lg = (bl, bv)) (h3 : min (max r.f12 commit) (bl.length : Int) = bd) (h4 : (zs.length : Int) = most r.f1) :
    states r frm was commit lg = (normal r r.f2 bl bd, toAll (normal r r.f2 bl bd) ⟨6, 0, 0, 0, 0, (normal r r.f2 bl bd).f6, 0, bl⟩) := by
  unfold states
  rw [if_neg h, counted_is h1 h2 h3]
  exact if_pos h4
end
section
variable {r s t : Rep} {m : Msg} {o ms : List Msg} {zs : List Int}
theorem tState_low (h : m.f3 < r.f2) : tState r m = (r, []) := if_pos (.inl h)
theorem tState_not (h : ¬ m.f3 % r.f1 = r.f0) : tState r m = (r, []) := if_pos (.inr h)
theorem tState_idle (h1 : ¬ m.f3 < r.f2) (h2 : m.f3 % r.f1 = r.f0) (e : upTo r m.f3 = (s, o)) (h : ¬ s.f4 = 1) : tState r m = (s, o) := by
  unfold tState
  rw [if_neg (fun h3 => h3.elim h1 (fun h => h h2)), e]
  exact if_neg h
theorem tState_on (h1 : ¬ m.f3 < r.f2) (h2 : m.f3 % r.f1 = r.f0) (e : upTo r m.f3 = (s, o)) (h : s.f4 = 1) (e2 : states s m.f1 m.f6 m.f5 m.f7 = (t, ms)) : tState r m = (t, o ++ ms) := by
  unfold tState
  rw [if_neg (fun h3 => h3.elim h1 (fun h => h h2)), e]
  refine (if_pos h).trans ?_
  rw [e2]
theorem tChange_low (h : m.f3 < r.f2) : tChange r m = (r, []) := if_pos h
theorem tChange_idle (h1 : ¬ m.f3 < r.f2) (e : upTo r m.f3 = (s, o)) (h : ¬ s.f4 = 1) : tChange r m = (s, o) := by
  unfold tChange
  rw [if_neg h1, e]
  exact if_neg h
theorem tChange_in (h1 : ¬ m.f3 < r.f2) (e : upTo r m.f3 = (s, o)) (h : s.f4 = 1) (h2 : m.f1 ∈ s.f8) : tChange r m = (s, o) := by
  unfold tChange
  rw [if_neg h1, e]
  exact (if_pos h).trans (if_pos h2)
theorem tChange_few (h1 : ¬ m.f3 < r.f2) (e : upTo r m.f3 = (s, o)) (h : s.f4 = 1) (h2 : ¬ m.f1 ∈ s.f8) (hz : insertId s.f8 m.f1 = zs) (h4 : ¬ (zs.length : Int) = most s.f1) : tChange r m = ({ s with f8 := zs }, o) := by
  unfold tChange
  rw [if_neg h1, e]
  subst hz
  exact (if_pos h).trans ((if_neg h2).trans (if_neg h4))
theorem tChange_self (h1 : ¬ m.f3 < r.f2) (e : upTo r m.f3 = (s, o)) (h : s.f4 = 1) (h2 : ¬ m.f1 ∈ s.f8) (hz : insertId s.f8 m.f1 = zs) (h4 : (zs.length : Int) = most s.f1) (h5 : s.f2 % s.f1 = s.f0) (e2 : states { s with f8 := zs } s.f0 s.f3 s.f6 s.f5 = (t, ms)) : tChange r m = (t, o ++ ms) := by
  unfold tChange
  rw [if_neg h1, e]
  subst hz
  refine (if_pos h).trans ((if_neg h2).trans ((if_pos h4).trans ((if_pos h5).trans ?_)))
  show ((states { s with f8 := insertId s.f8 m.f1 } s.f0 s.f3 s.f6 s.f5).1, o ++ (states { s with f8 := insertId s.f8 m.f1 } s.f0 s.f3 s.f6 s.f5).2) = _
  rw [e2]
theorem tChange_other (h1 : ¬ m.f3 < r.f2) (e : upTo r m.f3 = (s, o)) (h : s.f4 = 1) (h2 : ¬ m.f1 ∈ s.f8) (hz : insertId s.f8 m.f1 = zs) (h4 : (zs.length : Int) = most s.f1) (h5 : ¬ s.f2 % s.f1 = s.f0) :
    tChange r m = ({ s with f8 := zs }, o ++ [⟨5, s.f0, s.f2 % s.f1, s.f2, 0, s.f6, s.f3, s.f5⟩]) := by
  unfold tChange
  rw [if_neg h1, e]
  subst hz
  exact (if_pos h).trans ((if_neg h2).trans ((if_pos h4).trans (if_neg h5)))
/-- A state of its own. -/
theorem tState_own (h : s.f4 = 1) (h5 : s.f2 % s.f1 = s.f0) (e2 : states s m.f1 m.f6 m.f5 m.f7 = (t, ms)) (h3 : m.f3 = s.f2) : tState s m = (t, ms) := by
  have e : upTo s m.f3 = (s, []) := upTo_no (by omega)
  rw [tState_on (by omega) (by rw [h3]; exact h5) e h e2]
  rfl
end
/-! ### sizes -/
end Go.Proofs.Ytggbjokhniigkaa.Cx
namespace Go.Proofs.Ytggbjokhniigkaa.Pv
open Ty Tk Cx
structure MayS (r : Rep) : Prop where
  sz : size r.f1 = true
  i0 : 0 ≤ r.f0
  i1 : r.f0 < r.f1
  v2 : below r.f2 = true
  v3 : below r.f3 = true
  vn : r.f3 ≤ r.f2
  h0 : 0 ≤ r.f4
  h2 : r.f4 ≤ 2
  hn : r.f4 = 0 → r.f3 = r.f2
  lg : log r.f5 = true
  c0 : 0 ≤ r.f6
  c1 : r.f6 ≤ (r.f5.length : Int)
  l7 : (r.f7.length : Int) = r.f1
  a7 : ∀ n ∈ r.f7, 0 ≤ n ∧ n ≤ (r.f5.length : Int)
  d8 : ids r.f8 r.f1 = true
  d9 : ids r.f9 r.f1 = true
  lb : log r.f10 = true
  b0 : -1 ≤ r.f11
  b1 : r.f11 < maxTime
  e0 : 0 ≤ r.f12
  e1 : r.f12 ≤ (r.f10.length : Int)
theorem mayS_iff (r : Rep) : may r = true ↔ MayS r := by
  rw [may_iff]
  constructor
  · rintro ⟨a1, a2, a3, a4, a5, a6, a7, a8, a9, a10, a11, a12, a13, a14, a15, a16, a17, a18, a19, a20, a21⟩
    exact ⟨a1, a2, a3, a4, a5, a6, a7, a8, a9, a10, a11, a12, a13, a14, a15, a16, a17, a18, a19, a20, a21⟩
  · rintro ⟨a1, a2, a3, a4, a5, a6, a7, a8, a9, a10, a11, a12, a13, a14, a15, a16, a17, a18, a19, a20, a21⟩
    exact ⟨a1, a2, a3, a4, a5, a6, a7, a8, a9, a10, a11, a12, a13, a14, a15, a16, a17, a18, a19, a20, a21⟩
/-- Of the voters it knows itself alone. -/
def Low (r : Rep) : Prop := r.f9 = [] ∨ r.f9 = [r.f0]
/-- What stays: it may be, no less is seen, no less is committed. -/
structure Keeps (r s : Rep) : Prop where
  m : MayS s
  v : r.f2 ≤ s.f2
  c : r.f6 ≤ s.f6
  l : Low s
theorem Keeps.same {r : Rep} (h : MayS r) (hl : Low r) : Keeps r r := ⟨h, Int.le_refl _, Int.le_refl _, hl⟩
theorem size_pos {n : Int} (h : size n = true) : 1 ≤ n ∧ n ≤ 5 := by
  unfold size at h
  simp at h
  omega
theorem most_two {n : Int} (h : size n = true) (h2 : 2 ≤ n) : 2 ≤ most n := by
  unfold size at h
  unfold most
  simp at h
  omega
theorem ids_one {i n : Int} (h0 : 0 ≤ i) (h1 : i < n) : ids [i] n = true := by
  unfold ids idsFrom idsFrom
  simp only [Bool.and_eq_true, decide_eq_true_eq]
  exact ⟨⟨by omega, h1⟩, trivial⟩
theorem cleared {r : Rep} (h : MayS r) {v k : Int} (hb : below v = true) (hv : r.f2 ≤ v) (hk : k = 1 ∨ k = 2) : MayS { clear r with f2 := v, f4 := k } :=
  ⟨h.sz, h.i0, h.i1, hb, h.v3, by show r.f3 ≤ v; have := h.vn; omega, by show (0 : Int) ≤ k; omega, by show k ≤ 2; omega, by show k = 0 → _; omega, h.lg, h.c0, h.c1, h.l7, h.a7, rfl, rfl, rfl, by show (-1 : Int) ≤ -1; omega, by show (-1 : Int) < maxTime; unfold maxTime; omega, by show (0 : Int) ≤ 0; omega, by show (0 : Int) ≤ (([] : List Entry).length : Int); simp⟩
theorem changed {r : Rep} (h : MayS r) {v : Int} (hb : below v = true) (hv : r.f2 ≤ v) : MayS (Ty.change r v) := by
  have q := cleared h hb hv (.inl rfl)
  exact ⟨q.sz, q.i0, q.i1, q.v2, q.v3, q.vn, q.h0, q.h2, q.hn, q.lg, q.c0, q.c1, q.l7, q.a7, ids_one h.i0 h.i1, q.d9, q.lb, q.b0, q.b1, q.e0, q.e1⟩
theorem normal_may {r : Rep} (h : MayS r) {v c : Int} {l : List Entry} (hb : below v = true) (hl : log l = true) (hc0 : r.f6 ≤ (l.length : Int)) : MayS (Ty.normal r v l c) ∧ r.f6 ≤ (Ty.normal r v l c).f6 := by
  have hz := size_pos h.sz
  have hc := h.c0
  have e6 : (Ty.normal r v l c).f6 = if r.f1 = 1 then (l.length : Int) else min (max r.f6 c) (l.length : Int) := rfl
  have b6 : r.f6 ≤ (Ty.normal r v l c).f6 ∧ (Ty.normal r v l c).f6 ≤ (l.length : Int) := by
    rw [e6]
    split <;> omega
  refine ⟨⟨h.sz, h.i0, h.i1, hb, hb, Int.le_refl _, by show (0 : Int) ≤ 0; omega, by show (0 : Int) ≤ 2; omega, fun _ => rfl, hl, by omega, b6.2, ?_, ?_, rfl, rfl, rfl, by show (-1 : Int) ≤ -1; omega, by show (-1 : Int) < maxTime; unfold maxTime; omega, by show (0 : Int) ≤ 0; omega, by show (0 : Int) ≤ (([] : List Entry).length : Int); simp⟩, b6.1⟩
  · show (((List.replicate r.f1.toNat (0 : Int)).set r.f0.toNat (l.length : Int)).length : Int) = r.f1
    rw [List.length_set, List.length_replicate]
    omega
  · intro n hn
    have hn : n ∈ (List.replicate r.f1.toNat (0 : Int)).set r.f0.toNat (l.length : Int) := hn
    show 0 ≤ n ∧ n ≤ (l.length : Int)
    rcases List.mem_or_eq_of_mem_set hn with h | h
    · have := List.eq_of_mem_replicate h
      omega
    · omega
theorem raised {r : Rep} (h : MayS r) (k : Int) : MayS (raise r k) ∧ r.f6 ≤ (raise r k).f6 := by
  have h1 := h.c0
  have h2 := h.c1
  have e6 : (raise r k).f6 = max r.f6 (min k (r.f5.length : Int)) := rfl
  exact ⟨⟨h.sz, h.i0, h.i1, h.v2, h.v3, h.vn, h.h0, h.h2, h.hn, h.lg, by rw [e6]; omega, by rw [e6]; show _ ≤ (r.f5.length : Int); omega, h.l7, h.a7, h.d8, h.d9, h.lb, h.b0, h.b1, h.e0, h.e1⟩, by rw [e6]; omega⟩
theorem longer {r : Rep} (h : MayS r) {l : List Entry} (hl : log (r.f5 ++ l) = true) : MayS { r with f5 := r.f5 ++ l } := by
  have hh : ((r.f5 ++ l).length : Int) = (r.f5.length : Int) + (l.length : Int) := by rw [List.length_append]; push_cast; rfl
  refine ⟨h.sz, h.i0, h.i1, h.v2, h.v3, h.vn, h.h0, h.h2, h.hn, hl, h.c0, ?_, h.l7, fun n hn => ?_, h.d8, h.d9, h.lb, h.b0, h.b1, h.e0, h.e1⟩
  · show r.f6 ≤ ((r.f5 ++ l).length : Int)
    have := h.c1
    omega
  · have := h.a7 n hn
    show 0 ≤ n ∧ n ≤ ((r.f5 ++ l).length : Int)
    omega
theorem view_keeps {r : Rep} {m : Msg} (h : MayS r) (hl : Low r) (hm : mayMsgP r m) (hc : r.f6 ≤ (m.f7.length : Int)) : Keeps r (tView r m).1 := by
  unfold tView
  split
  · exact Keeps.same h hl
  · rename_i hg
    have q := normal_may h (v := m.f3) (c := m.f5) (l := m.f7) hm.2.2.2.2.2.2.1 hm.2.2.2.2.2.2.2.2.2.2.1 hc
    exact ⟨q.1, by show r.f2 ≤ m.f3; omega, q.2, .inl rfl⟩
theorem entered_keeps {r : Rep} {m : Msg} (h : MayS r) : MayS (entered r m) ∧ (entered r m).f2 = r.f2 ∧ (entered r m).f6 = r.f6 ∧ (entered r m).f9 = r.f9 ∧ (entered r m).f0 = r.f0 := by
  unfold entered
  split
  · rename_i hg
    exact ⟨longer h hg.2.2, rfl, rfl, rfl, rfl⟩
  · exact ⟨h, rfl, rfl, rfl, rfl⟩
theorem prepare_keeps {r : Rep} {m : Msg} (h : MayS r) (hl : Low r) (hm : mayMsgP r m) : Keeps r (tPrepare r m).1 := by
  unfold tPrepare
  split
  · exact Keeps.same h hl
  rename_i hg
  split
  · exact ⟨cleared h hm.2.2.2.2.2.2.1 (by omega) (.inr rfl), by show r.f2 ≤ m.f3; omega, Int.le_refl _, .inl rfl⟩
  · have q := entered_keeps (m := m) h
    have q2 := raised q.1 m.f5
    refine ⟨q2.1, ?_, ?_, ?_⟩
    · show r.f2 ≤ (entered r m).f2
      rw [q.2.1]
      exact Int.le_refl _
    · have := q2.2
      rw [q.2.2.1] at this
      exact this
    · show (entered r m).f9 = [] ∨ (entered r m).f9 = [(entered r m).f0]
      rw [q.2.2.2.1, q.2.2.2.2]
      exact hl
theorem ask_keeps {r : Rep} {m : Msg} (h : MayS r) (hl : Low r) : Keeps r (tAsk r m).1 := by
  unfold tAsk
  split <;> exact Keeps.same h hl
theorem log_keeps {r : Rep} {m : Msg} (h : MayS r) (hl : Low r) (h4 : m.f4 = 0) : Keeps r (tLog r m).1 := by
  unfold tLog
  split
  · exact Keeps.same h hl
  split
  · rename_i hg
    have e : r.f5.take m.f4.toNat ++ m.f7 = m.f7 := by rw [h4]; rfl
    rw [e] at hg ⊢
    have q := normal_may h (v := r.f2) (c := m.f5) (l := m.f7) h.v2 hg.2.2.2 (by have := hg.2.2.1; omega)
    exact ⟨q.1, Int.le_refl _, q.2, .inl rfl⟩
  split
  · split
    · split
      · rename_i hg
        have q := raised (longer h hg) m.f5
        exact ⟨q.1, Int.le_refl _, q.2, hl⟩
      · exact Keeps.same h hl
    · have q := raised h m.f5
      exact ⟨q.1, Int.le_refl _, q.2, hl⟩
  · exact Keeps.same h hl
theorem prepared_keeps {r : Rep} {m : Msg} (h : MayS r) (hl : Low r) (hm : mayMsgP r m) : Keeps r (tPrepared r m).1 := by
  have h4 : 0 ≤ m.f4 := by
    have := hm.2.2.2.2.2.2.2.1
    unfold below at this
    simp at this
    omega
  have hz : ∀ n ∈ r.f7.set m.f1.toNat (min (max (r.f7.getD m.f1.toNat 0) m.f4) (r.f5.length : Int)), 0 ≤ n ∧ n ≤ (r.f5.length : Int) := fun n hn => by
    rcases List.mem_or_eq_of_mem_set hn with q | q
    · exact h.a7 n q
    · omega
  have hs : MayS { r with f7 := r.f7.set m.f1.toNat (min (max (r.f7.getD m.f1.toNat 0) m.f4) (r.f5.length : Int)) } :=
    ⟨h.sz, h.i0, h.i1, h.v2, h.v3, h.vn, h.h0, h.h2, h.hn, h.lg, h.c0, h.c1, by show ((r.f7.set _ _).length : Int) = r.f1; rw [List.length_set]; exact h.l7, hz, h.d8, h.d9, h.lb, h.b0, h.b1, h.e0, h.e1⟩
  unfold tPrepared
  split
  · exact Keeps.same h hl
  dsimp only
  split
  · rename_i hg
    have hq := Tq.quorum_mem hs.l7 hs.sz
    have hb := hs.a7 _ hq
    have hg : r.f6 < quorum (r.f7.set m.f1.toNat (min (max (r.f7.getD m.f1.toNat 0) m.f4) (r.f5.length : Int))) r.f1 := hg
    exact ⟨⟨hs.sz, hs.i0, hs.i1, hs.v2, hs.v3, hs.vn, hs.h0, hs.h2, hs.hn, hs.lg, hb.1, hb.2, hs.l7, hs.a7, hs.d8, hs.d9, hs.lb, hs.b0, hs.b1, hs.e0, hs.e1⟩, Int.le_refl _, Int.le_of_lt hg, hl⟩
  · exact ⟨hs, Int.le_refl _, Int.le_refl _, hl⟩
theorem below_b {n : Int} (h : below n = true) : 0 ≤ n ∧ n < maxTime := by
  unfold below at h
  simpa using h
theorem upTo_keeps {r : Rep} {v : Int} (h : MayS r) (hl : Low r) (hb : below v = true) : Keeps r (upTo r v).1 ∧ (upTo r v).1.f1 = r.f1 := by
  by_cases g : r.f2 < v
  · rw [upTo_yes g]
    exact ⟨⟨changed h hb (by omega), by show r.f2 ≤ v; omega, Int.le_refl _, .inl rfl⟩, rfl⟩
  · rw [upTo_no g]
    exact ⟨Keeps.same h hl, rfl⟩
theorem own_keeps {r : Rep} (h : MayS r) (hl : Low r) (h2 : 2 ≤ r.f1) : Keeps r (states r r.f0 r.f3 r.f6 r.f5).1 := by
  by_cases g : r.f0 ∈ r.f9
  · rw [states_in g]
    exact Keeps.same h hl
  have h9 : r.f9 = [] := by
    rcases hl with e | e
    · exact e
    · rw [e] at g
      exact absurd (List.mem_singleton.2 rfl) g
  obtain ⟨⟨bl, bv⟩, hb⟩ : ∃ b, bests r r.f3 r.f5 = b := ⟨_, rfl⟩
  have hz : insertId r.f9 r.f0 = [r.f0] := by rw [h9]; rfl
  have hm := most_two h.sz h2
  have hv := below_b h.v3
  have hbl : log bl = true ∧ -1 ≤ bv ∧ bv < maxTime := by
    by_cases g2 : better r r.f3 r.f5
    · rw [bests_yes g2] at hb
      injection hb with e1 e2
      subst e1
      subst e2
      exact ⟨h.lg, by omega, hv.2⟩
    · rw [bests_no g2] at hb
      injection hb with e1 e2
      subst e1
      subst e2
      exact ⟨h.lb, h.b0, h.b1⟩
  rw [states_few g hz hb rfl (by show ¬ (((1 : Nat) : Int)) = most r.f1; omega)]
  have := h.e0
  have := h.c0
  exact ⟨⟨h.sz, h.i0, h.i1, h.v2, h.v3, h.vn, h.h0, h.h2, h.hn, h.lg, h.c0, h.c1, h.l7, h.a7, h.d8, ids_one h.i0 h.i1, hbl.1, hbl.2.1, hbl.2.2, by show 0 ≤ min (max r.f12 r.f6) (bl.length : Int); omega, by show min (max r.f12 r.f6) (bl.length : Int) ≤ (bl.length : Int); omega⟩, Int.le_refl _, Int.le_refl _, .inr rfl⟩
theorem Keeps.trans {r s t : Rep} (h : Keeps r s) (h2 : Keeps s t) : Keeps r t := ⟨h2.m, Int.le_trans h.v h2.v, Int.le_trans h.c h2.c, h2.l⟩
theorem change_keeps {r : Rep} {m : Msg} (h : MayS r) (hl : Low r) (hm : mayMsgP r m) : Keeps r (tChange r m).1 := by
  by_cases g1 : m.f3 < r.f2
  · rw [tChange_low g1]
    exact Keeps.same h hl
  obtain ⟨⟨s, o⟩, e⟩ : ∃ b, upTo r m.f3 = b := ⟨_, rfl⟩
  have q := upTo_keeps h hl (v := m.f3) hm.2.2.2.2.2.2.1
  rw [e] at q
  obtain ⟨q, q1⟩ := q
  have q1 : s.f1 = r.f1 := q1
  have q : Keeps r s := q
  by_cases g3 : s.f4 = 1
  case neg =>
    rw [tChange_idle g1 e g3]
    exact q
  by_cases g4 : m.f1 ∈ s.f8
  · rw [tChange_in g1 e g3 g4]
    exact q
  obtain ⟨zs, hz⟩ : ∃ zs, insertId s.f8 m.f1 = zs := ⟨_, rfl⟩
  have ht : Keeps r { s with f8 := zs } := ⟨⟨q.m.sz, q.m.i0, q.m.i1, q.m.v2, q.m.v3, q.m.vn, q.m.h0, q.m.h2, q.m.hn, q.m.lg, q.m.c0, q.m.c1, q.m.l7, q.m.a7, by rw [← hz]; exact Tq.insertId_ids q.m.d8 g4 hm.2.2.1 (by rw [q1]; exact hm.2.2.2.1), q.m.d9, q.m.lb, q.m.b0, q.m.b1, q.m.e0, q.m.e1⟩, q.v, q.c, q.l⟩
  by_cases g5 : (zs.length : Int) = most s.f1
  case neg =>
    rw [tChange_few g1 e g3 g4 hz g5]
    exact ht
  by_cases g6 : s.f2 % s.f1 = s.f0
  · obtain ⟨⟨t, ms⟩, e2⟩ : ∃ b, states { s with f8 := zs } s.f0 s.f3 s.f6 s.f5 = b := ⟨_, rfl⟩
    rw [tChange_self g1 e g3 g4 hz g5 g6 e2]
    have k := own_keeps ht.m ht.l (by show 2 ≤ s.f1; rw [q1]; have := h.i0; have := h.i1; have := hm.2.2.1; have := hm.2.2.2.1; have := hm.2.2.2.2.1; omega)
    have e3 : states { s with f8 := zs } ({ s with f8 := zs } : Rep).f0 ({ s with f8 := zs } : Rep).f3 ({ s with f8 := zs } : Rep).f6 ({ s with f8 := zs } : Rep).f5 = (t, ms) := e2
    rw [e3] at k
    exact ht.trans k
  · rw [tChange_other g1 e g3 g4 hz g5 g6]
    exact ht
/-- Any message that the law hands on. -/
theorem act_keeps {r : Rep} {m : Msg} (h : MayS r) (hl : Low r) (hm : mayMsgP r m) (h5 : m.f0 ≠ 5) (h6 : m.f0 = 6 → r.f6 ≤ (m.f7.length : Int)) (h8 : m.f0 = 8 → m.f4 = 0) : Keeps r (act r m).1 := by
  unfold act
  split
  · exact prepared_keeps h hl hm
  split
  · exact change_keeps h hl hm
  split
  · exact view_keeps h hl hm (h6 (by assumption))
  split
  · exact ask_keeps h hl
  split
  · exact log_keeps h hl (h8 (by assumption))
  · exact prepare_keeps h hl hm
end Go.Proofs.Ytggbjokhniigkaa.Pv
namespace Go.Proofs.Ytggbjokhniigkaa.Ra
end Go.Proofs.Ytggbjokhniigkaa.Ra
namespace Go.Proofs.Ytggbjokhniigkaa.Wa
open Ty Go.RowKit YtggbjokhniigkaaW.PrintWords YtggbjokhniigkaaW.PrintLast YtggbjokhniigkaaW.PrintMore Mx Kx
/-- The worker's cells. -/
def wc (i n vw nr hw : Int) (vl : Value) (cm : Int) (va vv vo vb : Value) (bv bd : Int) (vout : Value) : Array Value := #[.int .i64 i, .int .i64 n, .int .i64 vw, .int .i64 nr, .int .i64 hw, vl, .int .i64 cm, va, vv, vo, vb, .int .i64 bv, .int .i64 bd, vout]
/-! ### entries -/
theorem entries_calls (A : Option Addr) (c : Nat) (l : List Entry) (w : World) (hl : Kd.C kE w A l.length l) (hn : l.length ≤ 1000000000) :
    Calls Try.prog 92 #[.slice A l.length c] w fun e w' => ∃ v : Value, e = .returned v ∧ Mem w w' [row kE 102 v l] := by
  have HL := Aside0.mk hl
  have HN := Aside0.mk hn
  have M0 := Aside0.mk (Mem.nil w)
  clear hl hn
  go_enter Try.func92, Try.ntmps92
  go_wp2_with (((with_reducible refine gate_builtin (b := .append) (xs := #[.tmp 3, .tmp 4]) rfl ?_); at_builtin; refine Mem.app kE ((M0.out.alloc #[] 102).lit 0 kE [] rfl (Reps.none _ _) (by decide)) 0 _ [] l rfl (.tmp 3) (.tmp 4) 27 102 _ _ rfl Try.underlying27 infoEntry rfl (by decide) (by omega) A _ c rfl rfl rfl (Kd.C_alloc HL.out _) (fun x cs h => h) (by have := HN.out; simp; omega) ?_; intro v1 w1 hM1; have M1 := Aside0.mk hM1; clear hM1))
  go_ret
  exact ⟨_, rfl, M1.out⟩
/-! ### send -/
theorem send_calls (w0 w : World) (R : Res) (F : List Res) (g : Nat) (i n vw nr hw : Int) (vl : Value) (cm : Int) (va vv vo vb : Value) (bv bd : Int) (vout : Value) (out : List Msg) (to_ m0 m1 m2 m3 m4 m5 m6 : Int) (A : Option Addr) (c : Nat) (l : List Entry)
    (hM : Mem w0 w (R :: blk g 99 (wc i n vw nr hw vl cm va vv vo vb bv bd vout) :: row kM 29 vout out :: F)) (hl : Rd w0 R kE A l) (hn : l.length ≤ 1000000000) (hc : l.length ≤ c) (ho : out.length ≤ 1000000000) :
    Calls Try.prog 94 #[.pointer (some ⟨g, 0, none⟩), .int .i64 to_, .agg #[.int .i64 m0, .int .i64 m1, .int .i64 m2, .int .i64 m3, .int .i64 m4, .int .i64 m5, .int .i64 m6, .slice A l.length c]] w fun e w' =>
      ∃ vout' : Value, e = .returned (.tuple #[]) ∧ Mem w0 w' (R :: blk g 99 (wc i n vw nr hw vl cm va vv vo vb bv bd vout') :: row kM 29 vout' (out ++ [⟨m0, i, to_, vw, m4, m5, m6, l⟩]) :: F) := by
  have hb := hM.blk_at 1 rfl
  have h0 : w.cell? ⟨g, 0, none⟩ = some (.int .i64 i) := blk_cell hb 0
  have h2 : w.cell? ⟨g, 2, none⟩ = some (.int .i64 vw) := blk_cell hb 2
  have hg : g < w.heap.size := blk_lt hb
  have M0 := Aside0.mk hM
  have HL := Aside0.mk hl
  have HN := Aside0.mk hn
  have HO := Aside0.mk ho
  clear hb hl hn hM hc ho
  go_enter Try.func94, Try.ntmps94
  go_wp2
  go_region
  have M1 := Aside0.mk ((M0.out.alloc #[.int .i64 m0, .int .i64 i, .int .i64 to_, .int .i64 vw, .int .i64 m4, .int .i64 m5, .int .i64 m6, .slice A l.length c] 29).drew)
  go_wp2_with fail
  refine (entries_calls A c l _ (HL.out _ _ 1 M1.out rfl) HN.out).mono ?_
  rintro e w1 ⟨v, rfl, hM⟩
  have M2 := Aside0.mk (M1.out.trans hM)
  clear hM
  obtain ⟨A2, c2, rfl, hc2, _⟩ := M2.out.row_at 0 rfl
  have cB := blk_cell (M2.out.blk_at 1 rfl)
  have fB := blk_frozen (M2.out.blk_at 1 rfl)
  have cG := blk_cell (M2.out.blk_at 3 rfl)
  have fG := blk_frozen (M2.out.blk_at 3 rfl)
  have hg1 := blk_lt (M2.out.blk_at 3 rfl)
  have hw1 := blk_lt (M2.out.blk_at 1 rfl)
  have hgn : ¬ (g = w.heap.size) := by omega
  have hgn' : ¬ (w.heap.size = g) := by omega
  unfold wc at cG
  have HC2 := Aside0.mk hc2; clear hc2
  go_wp2_with fail
  have M3 := Aside0.mk (((M2.out.set 1 rfl 7 (.slice A2 l.length c2)).imp (i := 0) rfl (el kM ⟨m0, i, to_, vw, m4, m5, m6, l⟩ [.int .i64 m0, .int .i64 i, .int .i64 to_, .int .i64 vw, .int .i64 m4, .int .i64 m5, .int .i64 m6, .slice A2 l.length c2]) (fun f hf => kM_mkM _ _ _ ⟨m0, i, to_, vw, m4, m5, m6, l⟩ hf)).drew)
  go_region_law (refine Mem.app1_step kM (M3.out.alloc #[.int .i64 m0, .int .i64 i, .int .i64 to_, .int .i64 vw, .int .i64 m4, .int .i64 m5, .int .i64 m6, .slice A2 l.length c2] 29) 5 1 0 vout out _ _ _ 1 (by decide) (by rfl) (.tmp 28) (.tmp 30) 22 29 _ _ rfl Try.underlying22 infoMsg rfl (by decide) (by omega) (by simp [Act.eval, Act.put]) (by simp [Act.eval, Act.put]) rfl rfl rfl (by have := HO.out; omega) ?_; intro v1 w2 hM; have M4 := Aside0.mk hM; clear hM; obtain ⟨A3, c3, he, hc3, _⟩ := M4.out.row_at 5 rfl; rw [List.length_append, List.length_singleton] at he; subst he; have cG2 := blk_cell (M4.out.blk_at 4 rfl); have fG2 := blk_frozen (M4.out.blk_at 4 rfl); unfold wc at cG2; clear hc3)
  all_goals
    go_end0
    refine ⟨_, rfl, Mem.sel (ps := [_, _, _, _, _, _]) (F := F) [3, 4, 5] 6 (M4.out.set 4 rfl 13 (.slice A3 (out.length + 1) c3)) rfl rfl⟩
end Go.Proofs.Ytggbjokhniigkaa.Wa
namespace Go.Proofs.Ytggbjokhniigkaa.Wb
open Ty Go.RowKit YtggbjokhniigkaaW.PrintWords YtggbjokhniigkaaW.PrintLast YtggbjokhniigkaaW.PrintMore Mx Kx Wa
theorem Drawn0.same (w : World) : Drawn0 w w := Drawn0.refl w
/-! ### size, below -/
theorem size_calls (n : Int) (w : World) : Calls Try.prog 64 #[.int .i64 n] w fun e w' => e = .returned (.bool (size n)) ∧ w = w' := by
  unfold size
  by_cases h1 : n = 1
  · subst h1
    go_enter Try.func64, Try.ntmps64
    go_wp2
    go_ret
    exact ⟨rfl, rfl⟩
  by_cases h3 : n = 3
  · subst h3
    go_enter Try.func64, Try.ntmps64
    go_wp2
    go_ret
    exact ⟨rfl, rfl⟩
  by_cases h5 : n = 5
  · subst h5
    go_enter Try.func64, Try.ntmps64
    go_wp2
    go_ret
    exact ⟨rfl, rfl⟩
  have e1 : (n == 1) = false := by simpa using h1
  have e3 : (n == 3) = false := by simpa using h3
  have e5 : (n == 5) = false := by simpa using h5
  have e : (decide (n = 1) || decide (n = 3) || decide (n = 5)) = false := by simp [h1, h3, h5]
  rw [e]
  clear e h1 h3 h5
  go_enter Try.func64, Try.ntmps64
  go_wp2
  go_ret
  exact ⟨rfl, rfl⟩
theorem below_calls (n : Int) (w : World) : Calls Try.prog 67 #[.int .i64 n] w fun e w' => e = .returned (.bool (below n)) ∧ w = w' := by
  unfold below maxTime
  by_cases h1 : 0 ≤ n
  · by_cases h2 : n < 1099511627776
    · have e : (decide (0 ≤ n) && decide (n < 1099511627776)) = true := by simp [h1, h2]
      rw [e]
      go_enter Try.func67, Try.ntmps67
      go_wp2
      go_ret
      exact ⟨rfl, rfl⟩
    · have e : (decide (0 ≤ n) && decide (n < 1099511627776)) = false := by simp [h2]
      rw [e]
      go_enter Try.func67, Try.ntmps67
      go_wp2
      go_ret
      exact ⟨rfl, rfl⟩
  · have e : (decide (0 ≤ n) && decide (n < 1099511627776)) = false := by simp [h1]
    rw [e]
    go_enter Try.func67, Try.ntmps67
    go_wp2
    go_ret
    exact ⟨rfl, rfl⟩
/-! ### log -/
theorem rises_drop {l : List Entry} {k : Nat} (h : k < l.length) (last : Int) : rises last (l.drop k) = (decide (last < (rd_Entry l k).f0) && decide ((rd_Entry l k).f0 < maxTime) && decide ((rd_Entry l k).f1.size ≤ 20000) && rises (rd_Entry l k).f0 (l.drop (k + 1))) := by
  rw [List.drop_eq_getElem_cons h]
  have : rd_Entry l k = l[k] := by unfold rd_Entry; simp [List.getD, h]
  rw [this]
  rfl
theorem log_calls (A : Option Addr) (c : Nat) (l : List Entry) (w : World) (hl : Kd.C kE w A l.length l) (hn : l.length ≤ 1000000000) :
    Calls Try.prog 68 #[.slice A l.length c] w fun e w' => e = .returned (.bool (log l)) ∧ Mem w w' [] := by
  have HL := Aside0.mk hl
  have M0 := Aside0.mk (Mem.nil w)
  clear hl
  unfold log
  go_enter Try.func68, Try.ntmps68
  go_wp2
  go_loopg [3, 8] (l.length + 1) (fun kq v3 v8 w' => ∃ (k : Nat) (last : Int), v3 = .int .i64 last ∧ v8 = .int .i64 k ∧ Aside0 (k ≤ l.length ∧ kq = l.length + 1 - k ∧ rises last (l.drop k) = rises 0 l) ∧ Aside0 (Mem w w' []))
  case atStart => exact ⟨0, 0, rfl, rfl, ⟨Nat.zero_le _, rfl, rfl⟩, M0⟩
  case round =>
    obtain ⟨k, last, rfl, rfl, HK, M1⟩ := hrel
    by_cases hlt : k < l.length
    · obtain ⟨ad, e, hx0, hx1⟩ := at_Entry HL.out (k : Int) (by omega) (by omega)
      cases e
      replace hx0 := (M1.out.below.cell (World.block_lt_of_cell? w _ hx0)).trans hx0
      replace hx1 := (M1.out.below.cell (World.block_lt_of_cell? w _ hx1)).trans hx1
      have HR := Aside0.mk (rises_drop hlt last)
      simp only [Int.toNat_natCast] at hx0 hx1
      generalize hent : rd_Entry l (k : Int) = en at *
      clear hent
      by_cases c1 : last < en.f0
      · by_cases c2 : en.f0 < 1099511627776
        · by_cases c3 : en.f1.size ≤ 20000
          · go_wp2
            go_roundg (l.length - k)
            case measure => have := HK.out; omega
            case rel =>
              refine ⟨k + 1, en.f0, rfl, by go_num, ⟨by omega, by have := HK.out; omega, ?_⟩, ?_⟩
              · rw [← HK.out.2.2, HR.out]
                simp [c1, c2, c3, maxTime]
              · exact ⟨Mem.sel (ps := [_]) (F := []) [] 1 (M1.out.alloc _ _) rfl rfl⟩
          · go_wp2
            go_ret
            refine ⟨?_, Mem.sel (ps := [_]) (F := []) [] 1 (M1.out.alloc _ _) rfl rfl⟩
            rw [← HK.out.2.2, HR.out, decide_eq_false (show ¬ en.f1.size ≤ 20000 by omega)]
            simp
        · go_wp2
          go_ret
          refine ⟨?_, Mem.sel (ps := [_]) (F := []) [] 1 (M1.out.alloc _ _) rfl rfl⟩
          rw [← HK.out.2.2, HR.out, decide_eq_false (show ¬ en.f0 < maxTime by unfold maxTime; omega)]
          simp
      · go_wp2
        go_ret
        refine ⟨?_, Mem.sel (ps := [_]) (F := []) [] 1 (M1.out.alloc _ _) rfl rfl⟩
        rw [← HK.out.2.2, HR.out, decide_eq_false (show ¬ last < en.f0 by omega)]
        simp
    · have hk : k = l.length := by have := HK.out.1; omega
      subst hk
      go_wp2
      go_ret
      refine ⟨?_, M1.out⟩
      rw [← HK.out.2.2, List.drop_length]
      simp [rises]
      omega
end Go.Proofs.Ytggbjokhniigkaa.Wb
namespace Go.Proofs.Ytggbjokhniigkaa.We
open Ty Go.RowKit YtggbjokhniigkaaW.PrintWords YtggbjokhniigkaaW.PrintLast YtggbjokhniigkaaW.PrintMore Mx Kx Wa
theorem primary_calls (w : World) (g : Nat) (i n vw nr hw : Int) (vl : Value) (cm : Int) (va vv vo vb : Value) (bv bd : Int) (vout : Value) (view : Int)
    (hb : w.heap[g]? = some (.cells (wc i n vw nr hw vl cm va vv vo vb bv bd vout) 99 (0, 0))) (hv : 0 ≤ view) (hv2 : view ≤ 4611686018427387904) (hn : 0 < n) (hn2 : n ≤ 5) :
    Calls Try.prog 74 #[.pointer (some ⟨g, 0, none⟩), .int .i64 view] w fun e w' => e = .returned (.int .i64 (view % n)) ∧ Drawn0 w w' := by
  have cB := blk_cell hb
  unfold wc at cB
  clear hb
  have hz : (n == 0) = false := by simp; omega
  have hz2 : ¬ n = 0 := by omega
  go_enter Try.func74, Try.ntmps74
  go_wp2
  (try go_quiet (fail))
  (try go_wp2)
  go_ret
  exact ⟨rfl, by repeat (first | exact Drawn0.refl _ | apply Drawn0.step)⟩
theorem primary_quiet (w : World) (k : Nat) (g : Nat) (i n vw nr hw : Int) (vl : Value) (cm : Int) (va vv vo vb : Value) (bv bd : Int) (vout : Value) (view : Int)
    (hb : w.heap[g]? = some (.cells (wc i n vw nr hw vl cm va vv vo vb bv bd vout) 99 (0, 0))) (hv : 0 ≤ view) (hv2 : view ≤ 4611686018427387904) (hn : 0 < n) (hn2 : n ≤ 5) :
    Calls Try.prog 74 #[.pointer (some ⟨g, 0, none⟩), .int .i64 view] (w.drewN k) fun e w' => e = .returned (.int .i64 (view % n)) ∧ ∃ m, w' = w.drewN m :=
  (primary_calls (w.drewN k) g i n vw nr hw vl cm va vv vo vb bv bd vout view hb hv hv2 hn hn2).mono fun e w' h => ⟨h.1, by obtain ⟨m, h2⟩ := h.2.out; rw [h2]; exact (Drawn0.step (⟨⟨k, rfl⟩⟩ : Drawn0 w (w.drewN k)) m).out⟩
theorem allFrom_step (id n view : Int) (m : Msg) (k : Nat) (h : (k : Int) < n) : allFrom id n view m (n.toNat - k) k = if (k : Int) = id then allFrom id n view m (n.toNat - (k + 1)) ((k + 1 : Nat) : Int) else { m with f1 := id, f2 := k, f3 := view } :: allFrom id n view m (n.toNat - (k + 1)) ((k + 1 : Nat) : Int) := by
  obtain ⟨j, hj⟩ : ∃ j, n.toNat - k = j + 1 := ⟨n.toNat - k - 1, by omega⟩
  rw [hj, show n.toNat - (k + 1) = j by omega]
  simp only [allFrom]
  rw [if_pos h]
  push_cast
  rfl
theorem all_calls (w0 w : World) (R : Res) (F : List Res) (g : Nat) (i n vw nr hw : Int) (vl : Value) (cm : Int) (va vv vo vb : Value) (bv bd : Int) (vout : Value) (out : List Msg) (m0 m1 m2 m3 m4 m5 m6 : Int) (A : Option Addr) (c : Nat) (l : List Entry)
    (hM : Mem w0 w (R :: blk g 99 (wc i n vw nr hw vl cm va vv vo vb bv bd vout) :: row kM 29 vout out :: F)) (hl : Rd w0 R kE A l) (hn : l.length ≤ 1000000000) (hc : l.length ≤ c) (ho : out.length ≤ 1000000) (hn0 : 0 < n) (hn5 : n ≤ 5) :
    Calls Try.prog 75 #[.pointer (some ⟨g, 0, none⟩), .agg #[.int .i64 m0, .int .i64 m1, .int .i64 m2, .int .i64 m3, .int .i64 m4, .int .i64 m5, .int .i64 m6, .slice A l.length c]] w fun e w' =>
      ∃ vout' : Value, e = .returned (.tuple #[]) ∧ Mem w0 w' (R :: blk g 99 (wc i n vw nr hw vl cm va vv vo vb bv bd vout') :: row kM 29 vout' (out ++ allFrom i n vw ⟨m0, m1, m2, m3, m4, m5, m6, l⟩ n.toNat 0) :: F) := by
  have HN := Aside0.mk hn
  have HC := Aside0.mk hc
  have HO := Aside0.mk ho
  have HL := Aside0.mk hl
  have M0 := Aside0.mk (hM.allocAt #[.int .i64 m0, .int .i64 m1, .int .i64 m2, .int .i64 m3, .int .i64 m4, .int .i64 m5, .int .i64 m6, .slice A l.length c] 29 _ rfl)
  have cG := blk_cell (hM.blk_at 1 rfl)
  have hg : g < w.heap.size := blk_lt (hM.blk_at 1 rfl)
  unfold wc at cG
  clear hM hl hn hc ho
  go_enter Try.func75, Try.ntmps75
  go_wp2_with fail
  go_loopg [10] (n.toNat + 1) (fun kq v10 w' => ∃ (k : Nat) (vo' : Value) (out' : List Msg), v10 = .int .i64 k ∧ Aside0 ((k : Int) ≤ n ∧ kq = n.toNat + 1 - k ∧ out'.length ≤ out.length + k ∧ out' ++ allFrom i n vw ⟨m0, m1, m2, m3, m4, m5, m6, l⟩ (n.toNat - k) k = out ++ allFrom i n vw ⟨m0, m1, m2, m3, m4, m5, m6, l⟩ n.toNat 0) ∧ Aside0 (Mem w0 w' (blk w.heap.size 29 #[.int .i64 m0, .int .i64 m1, .int .i64 m2, .int .i64 m3, .int .i64 m4, .int .i64 m5, .int .i64 m6, .slice A l.length c] :: R :: blk g 99 (wc i n vw nr hw vl cm va vv vo vb bv bd vo') :: row kM 29 vo' out' :: F)))
  case atStart => exact ⟨0, vout, out, rfl, ⟨by omega, by omega, by omega, by simp⟩, M0⟩
  case round =>
    obtain ⟨k, vo', out', rfl, HK, M1⟩ := hrel
    clear cG M0
    have cG := blk_cell (M1.out.blk_at 2 rfl)
    have cB := blk_cell (M1.out.blk_at 0 rfl)
    unfold wc at cG
    have hgw : g < wr.heap.size := blk_lt (M1.out.blk_at 2 rfl)
    by_cases hlt : (k : Int) < n
    · have HS := Aside0.mk (allFrom_step i n vw ⟨m0, m1, m2, m3, m4, m5, m6, l⟩ k hlt)
      by_cases hid : (k : Int) = i
      · have HI := Aside0.mk hid
        have e1 : ((k : Int) == i) = true := by simpa using hid
        have e2 : ((k : Int) != i) = false := by simpa using hid
        clear hid
        go_wp2_with fail
        go_roundg (n.toNat - k)
        case measure => have := HK.out; omega
        case rel =>
          refine ⟨k + 1, vo', out', by go_num, ⟨by omega, by omega, by have := HK.out; omega, ?_⟩, M1⟩
          have h1 := HK.out.2.2.2
          rw [HS.out, if_pos HI.out] at h1
          exact h1
      · have HI := Aside0.mk hid
        have e1 : ((k : Int) == i) = false := by simpa using hid
        have e2 : ((k : Int) != i) = true := by simpa using hid
        clear hid
        go_wp2_with fail
        refine (send_calls w0 _ R (blk w.heap.size 29 #[.int .i64 m0, .int .i64 m1, .int .i64 m2, .int .i64 m3, .int .i64 m4, .int .i64 m5, .int .i64 m6, .slice A l.length c] :: F) g i n vw nr hw vl cm va vv vo vb bv bd vo' out' k m0 m1 m2 m3 m4 m5 m6 A c l (Mem.sel (ps := [_, _, _, _]) (F := F) [1, 2, 3, 0] 4 M1.out rfl rfl) HL.out HN.out HC.out (by have := HK.out; have := HO.out; omega)).mono ?_
        rintro e w1 ⟨vo2, rfl, hM⟩
        have M2 := Aside0.mk (Mem.sel (ps := [_, _, _, _]) (F := F) [3, 0, 1, 2] 4 hM rfl rfl)
        clear hM
        go_wp2_with fail
        go_roundg (n.toNat - k)
        case measure => have := HK.out; omega
        case rel =>
          refine ⟨k + 1, vo2, _, by go_num, ⟨by omega, by omega, ?_, ?_⟩, M2⟩
          · have := HK.out
            rw [List.length_append, List.length_singleton]
            omega
          · have h1 := HK.out.2.2.2
            rw [HS.out, if_neg HI.out] at h1
            rw [List.append_assoc]
            exact h1
    · have hk : (k : Int) = n := by have := HK.out.1; omega
      have HE := Aside0.mk hk
      clear hk
      go_wp2_with fail
      go_end0
      first | refine ⟨vo', rfl, ?_⟩ | refine ⟨rfl, vo', ?_⟩
      have h1 := HK.out.2.2.2
      have h2 : n.toNat - k = 0 := by have := HE.out; omega
      rw [h2] at h1
      simp only [allFrom, List.append_nil] at h1
      rw [← h1]
      exact Mem.sel (ps := [_, _, _, _]) (F := F) [1, 2, 3] 4 M1.out rfl rfl
end Go.Proofs.Ytggbjokhniigkaa.We
namespace Go.Proofs.Ytggbjokhniigkaa.Rb
end Go.Proofs.Ytggbjokhniigkaa.Rb
