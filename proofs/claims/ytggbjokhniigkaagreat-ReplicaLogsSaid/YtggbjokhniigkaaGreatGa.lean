/- Texts laid together: Mem, Kind. No condition. -/
import Derived.Test.YtggbjokhniigkaaGreatWWords
import Derived.Test.YtggbjokhniigkaaGreatWLast
import Derived.Test.YtggbjokhniigkaaGreatWTab
import Derived.Test.YtggbjokhniigkaaGreatWFour
import Derived.Test.YtggbjokhniigkaaGreatWQPut
import Derived.Test.YtggbjokhniigkaaGreatWApart
import Derived.Test.YtggbjokhniigkaaGreatWArr
import Derived.Test.YtggbjokhniigkaaGreatWZeros
import Derived.Test.YtggbjokhniigkaaGreatWFoot
import Derived.Test.YtggbjokhniigkaaGreatWKept
import Derived.Test.YtggbjokhniigkaaGreatWShare
import Derived.Test.YtggbjokhniigkaaGreatWN
import Derived.Test.YtggbjokhniigkaaGreatWMore
import Derived.WalkKit
import Derived.Test.YtggbjokhniigkaaGreatProg
import Derived.Test.YtggbjokhniigkaaGreatTy
import Derived.KernelRfl
/- A list of resources that lie apart in memory: what a step does to one of them leaves the others. No condition. -/
namespace Go.Proofs.YtggbjokhniigkaaGreat.Mx
open Go.RowKit Go.Proofs.YtggbjokhniigkaaGreatW.PrintWords Go.Proofs.YtggbjokhniigkaaGreatW.PrintLast Go.Proofs.YtggbjokhniigkaaGreatW.PrintMore

theorem add_zero_ (ad : Addr) : ad.add 0 = ad := by unfold Addr.add; simp
theorem add_succ_ (ad : Addr) (j : Nat) : ad.add (j + 1) = ⟨ad.block, ad.off + (j + 1), none⟩ := by unfold Addr.add; simp
/-- What holds of a world, told of some blocks alone. -/
structure Res where
  holds : World → (Nat → Prop) → Prop
  move : ∀ {w w' : World} {fp : Nat → Prop}, (∀ k, fp k → w'.heap[k]? = w.heap[k]?) → holds w fp → holds w' fp
  mono : ∀ {w : World} {fp fp' : Nat → Prop}, (∀ k, fp k → fp' k) → holds w fp → holds w fp'

/-- One block, known whole. -/
def blk (g : Nat) (T : TypeId) (cs : Array Value) : Res where
  holds w fp := w.heap[g]? = some (.cells cs T (0, 0)) ∧ fp g
  move hm h := ⟨(hm g h.2).trans h.1, h.2⟩
  mono hm h := ⟨h.1, hm g h.2⟩
/-- A row of elements with all that they lead to. -/
def row {α : Type} (d : Kd α) (e : Nat) (v : Value) (xs : List α) : Res where
  holds w fp := d.R e w 0 fp v xs
  move hm h := Kd.R_move h hm
  mono hm h := Kd.R_mono h hm
/-- The same, no two elements of which lead to one block. -/
def rowS {α : Type} (d : Kd α) (e : Nat) (v : Value) (xs : List α) : Res where
  holds w fp := Kd.S d e w 0 fp v xs
  move hm h := Kd.S_move h hm
  mono hm h := Kd.S_mono h hm
/-- An element's cells with all that they lead to. -/
def el {α : Type} (d : Kd α) (x : α) (cs : List Value) : Res where
  holds w fp := d.M w 0 fp x cs
  move hm h := d.M_move hm h
  mono hm h := d.M_mono hm h
def emp : Res where
  holds _ _ := True
  move _ h := h
  mono _ h := h
/-- Several as one. -/
def star (l : List Res) : Res where
  holds w fp := ∃ c : Nat → Nat, ∀ (i : Nat) (r : Res), l[i]? = some r → r.holds w (fun k => fp k ∧ c k = i)
  move hm h := by
    obtain ⟨c, h⟩ := h
    exact ⟨c, fun i r hr => r.move (fun k hk => hm k hk.1) (h i r hr)⟩
  mono hm h := by
    obtain ⟨c, h⟩ := h
    exact ⟨c, fun i r hr => r.mono (fun k hk => ⟨hm k hk.1, hk.2⟩) (h i r hr)⟩

/-- The world since w0: what was there is as it was; what has come lies in resources apart. -/
structure Mem (w0 w : World) (rs : List Res) : Prop where
  os : w.os = w0.os
  tape : w.tape = w0.tape
  output : w.output = w0.output
  size : w0.heap.size ≤ w.heap.size
  old : ∀ k, k < w0.heap.size → w.heap[k]? = w0.heap[k]?
  own : ∃ c : Nat → Nat, ∀ (i : Nat) (r : Res), rs[i]? = some r → r.holds w (fun k => w0.heap.size ≤ k ∧ k < w.heap.size ∧ c k = i)

theorem Mem.nil (w : World) : Mem w w [] := ⟨rfl, rfl, rfl, Nat.le_refl _, fun _ _ => rfl, fun _ => 0, fun i r h => by simp at h⟩
theorem Mem.below {w0 w : World} {rs : List Res} (h : Mem w0 w rs) : Below w0.heap.size w0 w := ⟨h.os, h.tape, h.output, h.size, h.old⟩
theorem Mem.same {w0 w w1 : World} {rs : List Res} (h : Mem w0 w rs) (hh : w1.heap = w.heap) (ho : w1.os = w.os) (ht : w1.tape = w.tape) (hp : w1.output = w.output) : Mem w0 w1 rs := by
  obtain ⟨h1, h2, h3, h4, h5, c, h6⟩ := h
  refine ⟨ho.trans h1, ht.trans h2, hp.trans h3, by rw [hh]; exact h4, by rw [hh]; exact h5, c, fun i r hr => ?_⟩
  rw [hh]
  exact r.move (fun k _ => by rw [hh]) (h6 i r hr)
theorem Mem.drew {w0 w : World} {rs : List Res} (h : Mem w0 w rs) : Mem w0 w.drew rs := h.same rfl rfl rfl rfl
theorem Mem.drewN {w0 w : World} {rs : List Res} (h : Mem w0 w rs) (n : Nat) : Mem w0 (w.drewN n) rs := h.same rfl rfl rfl rfl
theorem Mem.drawn {w0 w w1 : World} {rs : List Res} (h : Mem w0 w rs) (hd : Drawn0 w w1) : Mem w0 w1 rs := by
  obtain ⟨n, rfl⟩ := hd.out
  exact h.drewN n
/-- What was there is as it was. -/
theorem Mem.grow {w0 w w1 : World} {rs : List Res} (h : Mem w0 w rs) (hb : Below w.heap.size w w1) : Mem w0 w1 rs := by
  obtain ⟨h1, h2, h3, h4, h5, c, h6⟩ := h
  refine ⟨hb.os.trans h1, hb.tape.trans h2, hb.output.trans h3, Nat.le_trans h4 hb.size, fun k hk => (hb.block k (by omega)).trans (h5 k hk), c, fun i r hr => ?_⟩
  refine r.mono (fun k hk => ?_) (r.move (fun k hk => ?_) (h6 i r hr))
  · exact ⟨hk.1, Nat.lt_of_lt_of_le hk.2.1 hb.size, hk.2.2⟩
  · exact hb.block k hk.2.1
/-- Something new. -/
theorem Mem.cons {w0 w w1 : World} {rs : List Res} (h : Mem w0 w rs) (hb : Below w.heap.size w w1) {r : Res} (hr : r.holds w1 (fun k => w.heap.size ≤ k ∧ k < w1.heap.size)) : Mem w0 w1 (r :: rs) := by
  obtain ⟨h1, h2, h3, h4, h5, c, h6⟩ := h
  refine ⟨hb.os.trans h1, hb.tape.trans h2, hb.output.trans h3, Nat.le_trans h4 hb.size, fun k hk => (hb.block k (by omega)).trans (h5 k hk), fun k => if k < w.heap.size then c k + 1 else 0, fun i q hq => ?_⟩
  cases i with
  | zero =>
    have : q = r := by simpa using hq.symm
    subst this
    refine q.mono (fun k hk => ⟨by omega, hk.2, ?_⟩) hr
    simp only []
    rw [if_neg (by omega)]
  | succ i =>
    have hq' : rs[i]? = some q := by simpa using hq
    refine q.mono (fun k hk => ?_) (q.move (fun k hk => hb.block k hk.2.1) (h6 i q hq'))
    refine ⟨hk.1, Nat.lt_of_lt_of_le hk.2.1 hb.size, ?_⟩
    simp only []
    rw [if_pos hk.2.1, hk.2.2]
theorem Mem.cons_emp {w0 w : World} {rs : List Res} (h : Mem w0 w rs) : Mem w0 w (emp :: rs) := h.cons (Below.refl _ _) trivial
theorem Mem.alloc {w0 w : World} {rs : List Res} (h : Mem w0 w rs) (cs : Array Value) (T : TypeId) : Mem w0 (w.alloc (.cells cs T (0, 0))) (blk w.heap.size T cs :: rs) := by
  refine h.cons (below_alloc (Below.refl _ _) _) ⟨?_, Nat.le_refl _, by simp⟩
  show (w.heap.push _)[w.heap.size]? = _
  simp
theorem Mem.allocAt {w0 w : World} {rs : List Res} (h : Mem w0 w rs) (cs : Array Value) (T : TypeId) (n : Nat) (hn : w.heap.size = n) : Mem w0 (w.alloc (.cells cs T (0, 0))) (blk n T cs :: rs) := by
  subst hn
  exact h.alloc cs T
/-- One of them is turned (and may take what is new). -/
theorem Mem.take1 {w0 w : World} {rs : List Res} (h : Mem w0 w rs) {i : Nat} {r : Res} (hi : rs[i]? = some r) :
    ∃ f : Nat → Prop, r.holds w f ∧ (∀ k, f k → w0.heap.size ≤ k ∧ k < w.heap.size) ∧
      ∀ (w1 : World) (r1 : Res), w1.os = w.os → w1.tape = w.tape → w1.output = w.output → w.heap.size ≤ w1.heap.size → (∀ k, k < w.heap.size → ¬ f k → w1.heap[k]? = w.heap[k]?) →
        r1.holds w1 (fun k => f k ∨ w.heap.size ≤ k ∧ k < w1.heap.size) → Mem w0 w1 (rs.set i r1) := by
  obtain ⟨h1, h2, h3, h4, h5, c, h6⟩ := h
  refine ⟨_, h6 i r hi, fun k hk => ⟨hk.1, hk.2.1⟩, fun w1 r1 ho ht hp hs hk hr => ?_⟩
  refine ⟨ho.trans h1, ht.trans h2, hp.trans h3, Nat.le_trans h4 hs, fun k hlt => (hk k (by omega) (fun hf => by omega)).trans (h5 k hlt), fun k => if k < w.heap.size then c k else i, fun j q hq => ?_⟩
  by_cases hj : j = i
  · subst hj
    have hlt : j < rs.length := (List.getElem?_eq_some_iff.1 hi).1
    have : q = r1 := by rw [List.getElem?_set_self hlt] at hq; exact (Option.some.inj hq).symm
    subst this
    refine q.mono (fun k hf => ?_) hr
    rcases hf with hf | hf
    · refine ⟨hf.1, by omega, ?_⟩
      simp only []
      rw [if_pos hf.2.1]
      exact hf.2.2
    · refine ⟨by omega, hf.2, ?_⟩
      simp only []
      rw [if_neg (by omega)]
  · rw [List.getElem?_set_ne (fun e => hj e.symm)] at hq
    refine q.mono (fun k hf => ?_) (q.move (fun k hf => ?_) (h6 j q hq))
    · refine ⟨hf.1, by omega, ?_⟩
      simp only []
      rw [if_pos hf.2.1]
      exact hf.2.2
    · exact hk k hf.2.1 (fun hg => hj (by rw [← hf.2.2, hg.2.2]))
/-- One of them takes another one in. -/
theorem Mem.take2 {w0 w : World} {rs : List Res} (h : Mem w0 w rs) {i j : Nat} {r q : Res} (hi : rs[i]? = some r) (hj : rs[j]? = some q) (hij : i ≠ j) :
    ∃ f g : Nat → Prop, r.holds w f ∧ q.holds w g ∧ (∀ k, f k → w0.heap.size ≤ k ∧ k < w.heap.size) ∧ (∀ k, g k → w0.heap.size ≤ k ∧ k < w.heap.size) ∧ (∀ k, f k → ¬ g k) ∧
      ∀ (w1 : World) (r1 : Res), w1.os = w.os → w1.tape = w.tape → w1.output = w.output → w.heap.size ≤ w1.heap.size → (∀ k, k < w.heap.size → ¬ f k → ¬ g k → w1.heap[k]? = w.heap[k]?) →
        r1.holds w1 (fun k => f k ∨ g k ∨ w.heap.size ≤ k ∧ k < w1.heap.size) → Mem w0 w1 ((rs.set i r1).set j emp) := by
  obtain ⟨h1, h2, h3, h4, h5, c, h6⟩ := h
  refine ⟨_, _, h6 i r hi, h6 j q hj, fun k hk => ⟨hk.1, hk.2.1⟩, fun k hk => ⟨hk.1, hk.2.1⟩, fun k hk hg => hij (by rw [← hk.2.2, hg.2.2]), fun w1 r1 ho ht hp hs hk hr => ?_⟩
  refine ⟨ho.trans h1, ht.trans h2, hp.trans h3, Nat.le_trans h4 hs, fun k hlt => (hk k (by omega) (fun hf => by omega) (fun hf => by omega)).trans (h5 k hlt), fun k => if k < w.heap.size then (if c k = j then i else c k) else i, fun l p hl => ?_⟩
  by_cases hlj : l = j
  · subst hlj
    have hlt : l < (rs.set i r1).length := by rw [List.length_set]; exact (List.getElem?_eq_some_iff.1 hj).1
    have : p = emp := by rw [List.getElem?_set_self hlt] at hl; exact (Option.some.inj hl).symm
    subst this
    trivial
  · rw [List.getElem?_set_ne (fun e => hlj e.symm)] at hl
    by_cases hli : l = i
    · subst hli
      have hlt : l < rs.length := (List.getElem?_eq_some_iff.1 hi).1
      have : p = r1 := by rw [List.getElem?_set_self hlt] at hl; exact (Option.some.inj hl).symm
      subst this
      refine p.mono (fun k hf => ?_) hr
      rcases hf with hf | hf | hf
      · refine ⟨hf.1, by omega, ?_⟩
        simp only []
        rw [if_pos hf.2.1, if_neg (by rw [hf.2.2]; exact hij)]
        exact hf.2.2
      · refine ⟨hf.1, by omega, ?_⟩
        simp only []
        rw [if_pos hf.2.1, if_pos hf.2.2]
      · refine ⟨by omega, hf.2, ?_⟩
        simp only []
        rw [if_neg (by omega)]
    · rw [List.getElem?_set_ne (fun e => hli e.symm)] at hl
      refine p.mono (fun k hf => ?_) (p.move (fun k hf => ?_) (h6 l p hl))
      · refine ⟨hf.1, by omega, ?_⟩
        simp only []
        rw [if_pos hf.2.1, if_neg (by rw [hf.2.2]; exact hlj)]
        exact hf.2.2
      · exact hk k hf.2.1 (fun hg => hli (by rw [← hf.2.2, hg.2.2])) (fun hg => hlj (by rw [← hf.2.2, hg.2.2]))
theorem Mem.imp {w0 w : World} {rs : List Res} (h : Mem w0 w rs) {i : Nat} {r : Res} (hi : rs[i]? = some r) (r1 : Res) (hr : ∀ f, r.holds w f → r1.holds w f) : Mem w0 w (rs.set i r1) := by
  obtain ⟨f, h1, _, h3⟩ := h.take1 hi
  exact h3 w r1 rfl rfl rfl (Nat.le_refl _) (fun _ _ _ => rfl) (r1.mono (fun k hk => .inl hk) (hr _ h1))
theorem Mem.hold {w0 w : World} {rs : List Res} (h : Mem w0 w rs) {i : Nat} {r : Res} (hi : rs[i]? = some r) : r.holds w (fun k => w0.heap.size ≤ k ∧ k < w.heap.size) := by
  obtain ⟨f, h1, h2, _⟩ := h.take1 hi
  exact r.mono h2 h1
theorem Mem.blk_at {w0 w : World} {rs : List Res} (h : Mem w0 w rs) (i : Nat) {g : Nat} {T : TypeId} {cs : Array Value} (hi : rs[i]? = some (blk g T cs)) : w.heap[g]? = some (.cells cs T (0, 0)) := (h.hold hi).1
theorem Mem.blk_new {w0 w : World} {rs : List Res} (h : Mem w0 w rs) (i : Nat) {g : Nat} {T : TypeId} {cs : Array Value} (hi : rs[i]? = some (blk g T cs)) : w0.heap.size ≤ g := (h.hold hi).2.1
theorem Mem.row_at {w0 w : World} {rs : List Res} {α : Type} {d : Kd α} {e : Nat} {v : Value} {xs : List α} (h : Mem w0 w rs) (i : Nat) (hi : rs[i]? = some (row d e v xs)) : ∃ A c, v = .slice A xs.length c ∧ xs.length ≤ c ∧ d.C w A xs.length xs := Kd.R_reads (h.hold hi)
theorem Mem.row_C {w0 w : World} {rs : List Res} {α : Type} {d : Kd α} {e : Nat} {A : Option Addr} {n c : Nat} {xs : List α} (h : Mem w0 w rs) (i : Nat) (hi : rs[i]? = some (row d e (.slice A n c) xs)) : d.C w A xs.length xs := (Kd.R_reads' (h.hold hi)).2.2
theorem Mem.rowS_row {w0 w : World} {rs : List Res} {α : Type} {d : Kd α} {e : Nat} {v : Value} {xs : List α} (h : Mem w0 w rs) (i : Nat) (hi : rs[i]? = some (rowS d e v xs)) : Mem w0 w (rs.set i (row d e v xs)) := h.imp hi _ (fun _ hh => Kd.S_R hh)
/-- A store into a block that is known whole. -/
theorem Mem.set {w0 w : World} {rs : List Res} (h : Mem w0 w rs) (i : Nat) {g : Nat} {T : TypeId} {cs : Array Value} (hi : rs[i]? = some (blk g T cs)) (j : Nat) (v : Value) : Mem w0 (w.setCell ⟨g, j, none⟩ v) (rs.set i (blk g T (cs.setIfInBounds j v))) := by
  obtain ⟨f, h1, h2, h3⟩ := h.take1 hi
  refine h3 _ _ rfl rfl rfl (by simp [World.setCell]) (fun k _ hf => Below.heap_setCell w _ v k (fun e => hf (e ▸ h1.2))) ⟨blk_set h1.1 j v, .inl h1.2⟩
/-- All cells of a block that is known whole. -/
theorem Mem.setRow {w0 w : World} {rs : List Res} (h : Mem w0 w rs) (i : Nat) {g : Nat} {T : TypeId} {cs : Array Value} (hi : rs[i]? = some (blk g T cs)) (vs : List Value) (hn : vs.length = cs.size) : Mem w0 (w.setCells g 0 vs) (rs.set i (blk g T vs.toArray)) := by
  obtain ⟨f, h1, h2, h3⟩ := h.take1 hi
  obtain ⟨e1, e2, e3, e4⟩ := setCells_same g vs 0 w
  refine h3 _ _ e1 e2 e3 (Nat.le_of_eq e4.symm) (fun k _ hf => setCells_far vs 0 k (fun e => hf (e ▸ h1.2))) ⟨?_, .inl h1.2⟩
  obtain ⟨cur', g1, g2, g3⟩ := setCells_row vs 0 w cs h1.1 (by omega)
  have : cur' = vs.toArray := by
    apply Array.toList_inj.1
    rw [g3, hn]
    simp
  rw [← this]
  exact g1
/-- A world that grew by new blocks and writes to one row. -/
theorem Mem.grown1 {w0 w w1 : World} {rs : List Res} {α : Type} {d : Kd α} {e : Nat} {v v1 : Value} {xs xs1 : List α} (h : Mem w0 w rs) {i : Nat} (hi : rs[i]? = some (Mx.row d e v xs)) (hg : w.grownBy w1 v.ownBlock)
    (hr : ∀ f : Nat → Prop, d.R e w 0 f v xs → d.R e w1 0 (fun k => f k ∨ w.heap.size ≤ k ∧ k < w1.heap.size) v1 xs1) : Mem w0 w1 (rs.set i (Mx.row d e v1 xs1)) := by
  obtain ⟨f, h1, h2, h3⟩ := h.take1 hi
  exact h3 w1 _ hg.os hg.tape hg.output hg.size (fun k hk hf => hg.block k hk (fun he => hf (h1.1 k he.symm))) (hr f h1)

/-- A row of numbers that is not empty: where it lies, what its cells hold, what a store leaves. -/
theorem Mem.int_form {w0 w : World} {rs : List Res} {k : IntKind} {e : Nat} {v : Value} {xs : List Int} (h : Mem w0 w rs) (i : Nat) (hi : rs[i]? = some (Mx.row (Kd.int k) e v xs)) (hp : 0 < xs.length) : ∃ g cap, v = .slice (some ⟨g, 0, none⟩) xs.length cap ∧ g < w.heap.size := by
  obtain ⟨g, cap, hv, _, hl, _⟩ := Kd.R_form (h.hold hi) hp
  exact ⟨g, cap, hv, hl⟩
theorem Mem.int_cell {w0 w : World} {rs : List Res} {k : IntKind} {e g cap : Nat} {xs : List Int} (h : Mem w0 w rs) (i : Nat) (hi : rs[i]? = some (Mx.row (Kd.int k) e (.slice (some ⟨g, 0, none⟩) xs.length cap) xs)) (j : Int) (h0 : 0 ≤ j) (h1 : j < xs.length) : w.cell? ⟨g, j.toNat, none⟩ = some (.int k (rd xs j)) ∧ w.frozen? ⟨g, j.toNat, none⟩ = false := Kd.R_cell 0 (h.hold hi) j h0 h1
theorem Mem.int_put {w0 w : World} {rs : List Res} {k : IntKind} {e g cap : Nat} {xs : List Int} (h : Mem w0 w rs) (i : Nat) (hi : rs[i]? = some (Mx.row (Kd.int k) e (.slice (some ⟨g, 0, none⟩) xs.length cap) xs)) (j x : Int) : Mem w0 (w.setCell ⟨g, j.toNat, none⟩ (.int k x)) (rs.set i (Mx.row (Kd.int k) e (.slice (some ⟨g, 0, none⟩) xs.length cap) (xs.set j.toNat x))) := by
  refine h.grown1 hi (v1 := .slice (some ⟨g, 0, none⟩) xs.length cap) ?_ (fun f hf => ?_)
  · exact (Kd.R_put (h.hold hi) j x).2
  · exact Kd.R_mono (Kd.R_put hf j x).1 (fun _ hk => .inl hk)
/-- Some of them, in any order, ahead of the rest. -/
theorem Mem.sel {w0 w : World} {ps F : List Res} (σ : List Nat) (n : Nat) (h : Mem w0 w (ps ++ F)) (hn : ps.length = n) (hσ : (decide σ.Nodup && σ.all (decide <| · < n)) = true) : Mem w0 w (σ.filterMap (fun i => ps[i]?) ++ F) := by
  subst hn
  simp only [Bool.and_eq_true, decide_eq_true_eq, List.all_eq_true] at hσ
  obtain ⟨hnd, hlt⟩ := hσ
  obtain ⟨h1, h2, h3, h4, h5, c, h6⟩ := h
  have hmap : σ.filterMap (fun i => ps[i]?) = σ.map (fun i => ps.getD i emp) := by
    clear hnd
    induction σ with
    | nil => rfl
    | cons a l ih =>
      have ha : ps[a]? = some (ps.getD a emp) := by
        have := hlt a (by simp)
        simp [List.getD, this]
      rw [List.filterMap_cons_some ha, ih (fun x hx => hlt x (by simp [hx])), List.map_cons]
  rw [hmap]
  refine ⟨h1, h2, h3, h4, h5, fun k => if c k < ps.length then (if c k ∈ σ then σ.idxOf (c k) else σ.length + F.length) else σ.length + (c k - ps.length), fun i r hi => ?_⟩
  by_cases hs : i < σ.length
  · rw [List.getElem?_append_left (by simpa using hs), List.getElem?_map, List.getElem?_eq_getElem hs] at hi
    simp only [Option.map_some, Option.some.injEq] at hi
    have hl := hlt σ[i] (List.getElem_mem hs)
    have hr : (ps ++ F)[σ[i]]? = some r := by
      rw [List.getElem?_append_left hl, ← hi]
      simp [List.getD, hl]
    refine r.mono (fun k hk => ⟨hk.1, hk.2.1, ?_⟩) (h6 _ r hr)
    simp only [hk.2.2]
    rw [if_pos hl, if_pos (List.getElem_mem hs)]
    exact hnd.idxOf_getElem i hs
  · rw [List.getElem?_append_right (by simpa using hs)] at hi
    simp only [List.length_map] at hi
    have hlF : i - σ.length < F.length := (List.getElem?_eq_some_iff.1 hi).1
    have hr : (ps ++ F)[ps.length + (i - σ.length)]? = some r := by
      rw [List.getElem?_append_right (by omega)]
      rw [show ps.length + (i - σ.length) - ps.length = i - σ.length by omega]
      exact hi
    refine r.mono (fun k hk => ⟨hk.1, hk.2.1, ?_⟩) (h6 _ r hr)
    simp only [hk.2.2]
    rw [if_neg (by omega)]
    omega
/-- A slice that is read, wherever it lies. -/
def Rd {α : Type} (w0 : World) (R : Res) (d : Kd α) (A : Option Addr) (xs : List α) : Prop := ∀ (w : World) (rs : List Res) (i : Nat), Mem w0 w rs → rs[i]? = some R → d.C w A xs.length xs
theorem Rd.old {α : Type} {w0 : World} {d : Kd α} {A : Option Addr} {xs : List α} (h : d.C w0 A xs.length xs) : Rd w0 emp d A xs := fun _ _ _ hM _ => Kd.C_below h hM.below
theorem Rd.row {α : Type} {w0 : World} {d : Kd α} {e : Nat} {A : Option Addr} {n c : Nat} {xs : List α} : Rd w0 (row d e (.slice A n c) xs) d A xs := fun _ _ i hM hi => hM.row_C i hi
/-- A row of a callee's making. -/
theorem Mem.fresh {w0 w w1 : World} {rs : List Res} {α : Type} {d : Kd α} {e : Nat} {v : Value} {xs : List α} {ok : Nat → Prop} (h : Mem w0 w rs) (hb : Below w.heap.size w w1) (hr : d.R e w1 w.heap.size ok v xs) : Mem w0 w1 (Mx.row d e v xs :: rs) :=
  h.cons hb (Kd.R_mono (Kd.R_lower (Kd.R_bound hr) (Nat.zero_le _)) (fun _ hk => ⟨hk.2.1, hk.2.2.1⟩))
theorem Mem.freshS {w0 w w1 : World} {rs : List Res} {α : Type} {d : Kd α} {e : Nat} {v : Value} {xs : List α} {ok : Nat → Prop} (h : Mem w0 w rs) (hb : Below w.heap.size w w1) (hr : Kd.S d e w1 w.heap.size ok v xs) : Mem w0 w1 (rowS d e v xs :: rs) :=
  h.cons hb (Kd.S_mono (Kd.S_lower (Kd.S_bound hr) (Nat.zero_le _)) (fun _ hk => ⟨hk.2.1, hk.2.2.1⟩))
/-- What a callee has made, beside what there was. -/
theorem Mem.trans {w0 w w1 : World} {rs ps : List Res} (h : Mem w0 w rs) (h' : Mem w w1 ps) : Mem w0 w1 (ps ++ rs) := by
  have hb := h'.below
  obtain ⟨h1, h2, h3, h4, h5, c, h6⟩ := h
  obtain ⟨g1, g2, g3, g4, g5, c', g6⟩ := h'
  refine ⟨g1.trans h1, g2.trans h2, g3.trans h3, Nat.le_trans h4 g4, fun k hk => (g5 k (by omega)).trans (h5 k hk), fun k => if k < w.heap.size then ps.length + c k else (if c' k < ps.length then c' k else ps.length + rs.length), fun i r hi => ?_⟩
  by_cases hs : i < ps.length
  · rw [List.getElem?_append_left hs] at hi
    refine r.mono (fun k hk => ⟨by omega, hk.2.1, ?_⟩) (g6 i r hi)
    simp only []
    rw [if_neg (by omega), hk.2.2, if_pos hs]
  · rw [List.getElem?_append_right (by omega)] at hi
    refine r.mono (fun k hk => ⟨hk.1, by omega, ?_⟩) (r.move (fun k hk => g5 k hk.2.1) (h6 _ r hi))
    simp only []
    rw [if_pos hk.2.1, hk.2.2]
    omega
/-- A block just laid out is a row. -/
theorem Mem.lit {w0 w : World} {rs : List Res} {α : Type} (h : Mem w0 w rs) (i : Nat) (d : Kd α) {e : TypeId} {g : Nat} {cs : Array Value} (xs : List α) (hi : rs[i]? = some (blk g e cs)) (hr : Reps (fun x c => ∀ w, d.M w 0 (fun _ => False) x c) d.sz xs cs.toList) (hn : xs.length ≤ 9223372036854775807) :
    Mem w0 w (rs.set i (Mx.row d e (.slice (some ⟨g, 0, none⟩) xs.length xs.length) xs)) := by
  refine h.imp hi _ (fun f hf => ?_)
  refine ⟨fun k hk => ?_, cs.toList, ⟨hr.1, .inr ⟨g, xs.length, cs, rfl, Nat.zero_le _, hf.1, Nat.le_refl _, by unfold maxLen; omega, by have := hr.1; simpa using this, ?_⟩⟩, hr.imp_ (fun p c hp => d.M_mono (fun _ hk => hk.elim) (hp w))⟩
  · have : g = k := by simpa [Value.ownBlock] using hk
    subst this
    exact hf.2
  · rw [List.take_of_length_le]
    rw [hr.1]
    exact Nat.le_refl _

section
variable {P : Program} {ops : Array Oper} {rest : List Oper} {o : Oper} {a : Act} {Q : Exit → Act → World → Prop} {Kc : Act → World → Prop} {α : Type}
/-- append(v, ys...), the elements lead to nothing. -/
theorem Mem.app_step (d : Kd α) {Rr : α → List Value → Prop} {w0 W : World} {rs : List Res} (hM : Mem w0 W rs) (i : Nat) (v : Value) (xs ys : List α) (hw : Region.wanted o (yielded ops a.tmps) = true) (s x : Operand) (t e : TypeId) (z : Value) (bytes : Nat)
    (ho : o.op = .call { callee := .builtin .append, args := #[s, x], argTypes := #[t, t] })
    (ht : P.underlying t = some (.slice e)) (hinfo : (P.info? e).map (fun i => (i.zero, i.size, i.bytes)) = some (some z, d.sz, bytes)) (hz : z.cells.size = d.sz) (hs0 : 0 < d.sz) (hb0 : 0 < bytes)
    (A : Option Addr) (m c : Nat) (hs : a.eval s = v) (hx : a.eval x = .slice A m c)
    (hi : rs[i]? = some (Mx.row d e v xs)) (HR : ReadsRow Rr d.sz W A m ys) (hKM : ∀ x cs, Rr x cs → d.M W 0 (fun _ => False) x cs) (hl : (xs.length + m) * bytes ≤ 140737488355328)
    (h : ∀ v1 w1, Mem w0 w1 (rs.set i (Mx.row d e v1 (xs ++ ys))) → Kc (a.put o.dst v1) w1) :
    if Region.wanted o (yielded ops a.tmps) = true then Oper.wp P o a W Kc Q else Kc (a.put o.dst undef) W := by
  obtain ⟨f, h1, h2, h3⟩ := hM.take1 hi
  refine Kd.R_append_rows_step d (w0 := W) 0 hw s x t e z bytes ho ht hinfo hz hs0 hb0 v xs ys A m c (fun k => f k ∨ W.heap.size ≤ k) (fun _ => False) hs hx (Kd.R_mono h1 (fun _ hk => .inl hk)) HR hKM (fun _ hk => hk.elim) (fun _ hk => .inr hk) (Below.refl _ _) (Nat.zero_le _) hl ?_
  intro v1 w1 hr hb hg _
  refine h v1 w1 (h3 w1 _ hg.os hg.tape hg.output hg.size (fun k hk hf => hg.block k hk (fun he => hf (h1.1 k he.symm))) ?_)
  exact Kd.R_mono (Kd.R_bound hr) (fun k hk => hk.1.imp id (fun hh => ⟨hh, hk.2.2.1⟩))
theorem Mem.app (d : Kd α) {Rr : α → List Value → Prop} {w0 W : World} {rs : List Res} (hM : Mem w0 W rs) (i : Nat) (v : Value) (xs ys : List α) (hgd : o.guard = none) (s x : Operand) (t e : TypeId) (z : Value) (bytes : Nat)
    (ho : o.op = .call { callee := .builtin .append, args := #[s, x], argTypes := #[t, t] })
    (ht : P.underlying t = some (.slice e)) (hinfo : (P.info? e).map (fun i => (i.zero, i.size, i.bytes)) = some (some z, d.sz, bytes)) (hz : z.cells.size = d.sz) (hs0 : 0 < d.sz) (hb0 : 0 < bytes)
    (A : Option Addr) (m c : Nat) (hs : a.eval s = v) (hx : a.eval x = .slice A m c)
    (hi : rs[i]? = some (Mx.row d e v xs)) (HR : ReadsRow Rr d.sz W A m ys) (hKM : ∀ x cs, Rr x cs → d.M W 0 (fun _ => False) x cs) (hl : (xs.length + m) * bytes ≤ 140737488355328)
    (h : ∀ v1 w1, Mem w0 w1 (rs.set i (Mx.row d e v1 (xs ++ ys))) → wpList P ops Q rest (a.put o.dst v1) w1) : wpList P ops Q (o :: rest) a W := by
  obtain ⟨f, h1, h2, h3⟩ := hM.take1 hi
  refine Kd.R_append_rows d (w0 := W) 0 hgd s x t e z bytes ho ht hinfo hz hs0 hb0 v xs ys A m c (fun k => f k ∨ W.heap.size ≤ k) (fun _ => False) hs hx (Kd.R_mono h1 (fun _ hk => .inl hk)) HR hKM (fun _ hk => hk.elim) (fun _ hk => .inr hk) (Below.refl _ _) (Nat.zero_le _) hl ?_
  intro v1 w1 hr hb hg _
  refine h v1 w1 (h3 w1 _ hg.os hg.tape hg.output hg.size (fun k hk hf => hg.block k hk (fun he => hf (h1.1 k he.symm))) ?_)
  exact Kd.R_mono (Kd.R_bound hr) (fun k hk => hk.1.imp id (fun hh => ⟨hh, hk.2.2.1⟩))
/-- A literal row of one element. -/
theorem reads_one {d : Kd α} {W : World} {g : Nat} {e : TypeId} {cs : List Value} (p : α) (hb : W.heap[g]? = some (.cells cs.toArray e (0, 0))) (hcs : cs.length = d.sz) : ReadsRow (fun x c => x = p ∧ c = cs) d.sz W (some ⟨g, 0, none⟩) 1 [p] := by
  refine ⟨rfl, by omega, fun _ => ⟨_, rfl, fun j q hj => ?_⟩⟩
  cases j with
  | zero =>
    obtain rfl : p = q := by simpa using hj
    refine ⟨cs, hcs, ⟨rfl, rfl⟩, fun k u hu => ?_⟩
    rw [Nat.zero_mul, Nat.zero_add, add_plain, blk_cell hb]
    simpa using hu
  | succ j => simp at hj
/-- append(v, p), the element's own rows told as a resource. -/
theorem Mem.app1_step (d : Kd α) {w0 W : World} {rs : List Res} (hM : Mem w0 W rs) (i j b : Nat) (v : Value) (xs : List α) (p : α) (cs : List Value) (g c : Nat) (hij : i ≠ j) (hw : Region.wanted o (yielded ops a.tmps) = true) (s x : Operand) (t e : TypeId) (z : Value) (bytes : Nat)
    (ho : o.op = .call { callee := .builtin .append, args := #[s, x], argTypes := #[t, t] })
    (ht : P.underlying t = some (.slice e)) (hinfo : (P.info? e).map (fun i => (i.zero, i.size, i.bytes)) = some (some z, d.sz, bytes)) (hz : z.cells.size = d.sz) (hs0 : 0 < d.sz) (hb0 : 0 < bytes)
    (hs : a.eval s = v) (hx : a.eval x = .slice (some ⟨g, 0, none⟩) 1 c)
    (hi : rs[i]? = some (Mx.row d e v xs)) (hj : rs[j]? = some (Mx.el d p cs)) (hb : rs[b]? = some (Mx.blk g e cs.toArray)) (hl : (xs.length + 1) * bytes ≤ 140737488355328)
    (h : ∀ v1 w1, Mem w0 w1 ((rs.set i (Mx.row d e v1 (xs ++ [p]))).set j emp) → Kc (a.put o.dst v1) w1) :
    if Region.wanted o (yielded ops a.tmps) = true then Oper.wp P o a W Kc Q else Kc (a.put o.dst undef) W := by
  have hblk := hM.blk_at b hb
  obtain ⟨f, q, h1, hq, h2, h2q, hd, h3⟩ := hM.take2 hi hj hij
  have hK := d.K_of_M hq
  refine Kd.R_append_rows_step d (w0 := W) 0 hw s x t e z bytes ho ht hinfo hz hs0 hb0 v xs [p] (some ⟨g, 0, none⟩) 1 c (fun k => f k ∨ q k ∨ W.heap.size ≤ k) q hs hx (Kd.R_mono h1 (fun _ hk => .inl hk)) (reads_one p hblk (d.K_len hK)) (fun x' cs' hx' => by obtain ⟨rfl, rfl⟩ := hx'; exact hq) (fun k hk => ⟨.inr (.inl hk), fun he => hd k (h1.1 k he.symm) hk⟩) (fun _ hk => .inr (.inr hk)) (Below.refl _ _) (Nat.zero_le _) hl ?_
  intro v1 w1 hr hb1 hg _
  refine h v1 w1 (h3 w1 _ hg.os hg.tape hg.output hg.size (fun k hk hf _ => hg.block k hk (fun he => hf (h1.1 k he.symm))) ?_)
  exact Kd.R_mono (Kd.R_bound hr) (fun k hk => hk.1.imp id (fun hh => hh.imp id (fun hh => ⟨hh, hk.2.2.1⟩)))
end
end Go.Proofs.YtggbjokhniigkaaGreat.Mx
/- The kinds of entries, messages, replicas: a datum and its cells in memory. No condition. (Written by the kit's printer, its names turned.) -/
namespace Go.Proofs.YtggbjokhniigkaaGreat.Kx
open Go.Proofs.YtggbjokhniigkaaGreat.Ty Go.RowKit Go.Proofs.YtggbjokhniigkaaGreatW.PrintWords Go.Proofs.YtggbjokhniigkaaGreatW.PrintLast Go.Proofs.YtggbjokhniigkaaGreatW.PrintMore
theorem infoInt : (Tryz.prog.info? 3).map (fun i => (i.zero, i.size, i.bytes)) = some (some (.int .i64 0), 1, 8) := by kernel_rfl
theorem infoMsg : (Tryz.prog.info? 27).map (fun i => (i.zero, i.size, i.bytes)) = some (some (.agg #[(.int .i64 0), (.int .i64 0), (.int .i64 0), (.int .i64 0), (.int .i64 0), (.int .i64 0), (.int .i64 0), (.slice none 0 0)]), 8, 80) := by kernel_rfl
theorem infoEntry : (Tryz.prog.info? 68).map (fun i => (i.zero, i.size, i.bytes)) = some (some (.agg #[(.int .i64 0), (.string ⟨#[]⟩)]), 2, 24) := by kernel_rfl
-- the values' own types
/-! #### struct type 68 -/
def zE : Entry := ⟨(0 : Int), (⟨#[]⟩ : ByteArray)⟩
def kE : Kd Entry := Kd.iso (Kd.pair (Kd.int .i64) Kd.string) (fun x : Entry => (x.f0, x.f1))
theorem kE_heap : Kd.Heap kE := Kd.heap_iso _ (Kd.heap_pair (Kd.heap_int .i64) Kd.heap_string)
theorem kE_open {w : World} {x : Entry} {cs : List Value} (h : kE.K w x cs) : cs = [.int .i64 x.f0, .string x.f1] := by
  obtain ⟨_, _, rfl, rfl, rfl⟩ := h
  exact rfl
theorem kE_openM {w : World} {base : Nat} {ok : Nat → Prop} {x : Entry} {cs : List Value} (h : kE.M w base ok x cs) : cs = [.int .i64 x.f0, .string x.f1] := by
  obtain ⟨_, _, rfl, rfl, rfl⟩ := h
  exact rfl
theorem kE_mk (w : World) (x : Entry)  : kE.K w x [.int .i64 x.f0, .string x.f1] := ⟨[.int .i64 x.f0], [.string x.f1], rfl, rfl, rfl⟩
theorem kE_mkM (w : World) (base : Nat) (ok : Nat → Prop) (x : Entry)  : kE.M w base ok x [.int .i64 x.f0, .string x.f1] := ⟨[.int .i64 x.f0], [.string x.f1], rfl, rfl, rfl⟩
theorem kE_mkF (W : World) (ok : Nat → Prop) (x : Entry) : Kd.FK kE W ok x [.int .i64 x.f0, .string x.f1] := fun W2 _ => kE_mk W2 x
def rd_Entry (xs : List Entry) (i : Int) : Entry := xs.getD i.toNat zE
theorem at_Entry {w : World} {A : Option Addr} {n : Nat} {xs : List Entry} (h : Kd.C kE w A n xs) (i : Int) (h0 : 0 ≤ i) (h1 : i < n) : ∃ ad , A = some ad ∧ w.cell? (ad.add (i.toNat * 2)) = some (.int .i64 (rd_Entry xs i).f0) ∧ w.cell? ⟨(ad.add (i.toNat * 2)).block, (ad.add (i.toNat * 2)).off + 1, none⟩ = some (.string (rd_Entry xs i).f1) := by
  obtain ⟨ad, c, e, _, hK, hc0⟩ := Kd.C_get h zE i h0 h1
  have hc : ∀ j u, c[j]? = some u → w.cell? (ad.add (i.toNat * 2 + j)) = some u := hc0
  obtain rfl := kE_open hK
  exact ⟨ad, e, hc 0 _ rfl, by rw [← add_field _ _ 1 (by omega)]; exact hc 1 _ rfl⟩

def rd_L4 (xs : List (List Entry)) (i : Int) : (List Entry) := xs.getD i.toNat ([] : List Entry)
theorem at_L4 {w : World} {A : Option Addr} {n : Nat} {xs : List (List Entry)} (h : Kd.C (Kd.slice 68 kE) w A n xs) (i : Int) (h0 : 0 ≤ i) (h1 : i < n) : ∃ ad A0 c0, A = some ad ∧ w.cell? (ad.add i.toNat) = some (.slice A0 (rd_L4 xs i).length c0) ∧ (rd_L4 xs i).length ≤ c0 ∧ kE.C w A0 (rd_L4 xs i).length (rd_L4 xs i) := by
  obtain ⟨ad, c, e, _, hK, hc0⟩ := Kd.C_get h ([] : List Entry) i h0 h1
  have hc : ∀ j u, c[j]? = some u → w.cell? (ad.add (i.toNat * 1 + j)) = some u := hc0
  obtain ⟨A0, c0, rfl, l0, g0⟩ := hK
  exact ⟨ad, A0, c0, e, by have hq := hc 0 _ rfl; rwa [Nat.mul_one, Nat.add_zero] at hq, l0, g0⟩

/-! #### struct type 27 -/
def zM : Msg := ⟨(0 : Int), (0 : Int), (0 : Int), (0 : Int), (0 : Int), (0 : Int), (0 : Int), ([] : List Entry)⟩
def kM : Kd Msg := Kd.iso (Kd.pair (Kd.int .i64) (Kd.pair (Kd.int .i64) (Kd.pair (Kd.int .i64) (Kd.pair (Kd.int .i64) (Kd.pair (Kd.int .i64) (Kd.pair (Kd.int .i64) (Kd.pair (Kd.int .i64) (Kd.slice 68 kE)))))))) (fun x : Msg => (x.f0, x.f1, x.f2, x.f3, x.f4, x.f5, x.f6, x.f7))
theorem kM_heap : Kd.Heap kM := Kd.heap_iso _ (Kd.heap_pair (Kd.heap_int .i64) (Kd.heap_pair (Kd.heap_int .i64) (Kd.heap_pair (Kd.heap_int .i64) (Kd.heap_pair (Kd.heap_int .i64) (Kd.heap_pair (Kd.heap_int .i64) (Kd.heap_pair (Kd.heap_int .i64) (Kd.heap_pair (Kd.heap_int .i64) (Kd.heap_slice 68 kE_heap))))))))
theorem kM_open {w : World} {x : Msg} {cs : List Value} (h : kM.K w x cs) : ∃ A7 c7, cs = [.int .i64 x.f0, .int .i64 x.f1, .int .i64 x.f2, .int .i64 x.f3, .int .i64 x.f4, .int .i64 x.f5, .int .i64 x.f6, .slice A7 x.f7.length c7] ∧ x.f7.length ≤ c7 ∧ kE.C w A7 x.f7.length x.f7 := by
  obtain ⟨_, _, rfl, rfl, ⟨_, _, rfl, rfl, ⟨_, _, rfl, rfl, ⟨_, _, rfl, rfl, ⟨_, _, rfl, rfl, ⟨_, _, rfl, rfl, ⟨_, _, rfl, rfl, ⟨A7, c7, rfl, l7, g7⟩⟩⟩⟩⟩⟩⟩⟩ := h
  exact ⟨A7, c7, rfl, l7, g7⟩
theorem kM_openM {w : World} {base : Nat} {ok : Nat → Prop} {x : Msg} {cs : List Value} (h : kM.M w base ok x cs) : ∃ v7, cs = [.int .i64 x.f0, .int .i64 x.f1, .int .i64 x.f2, .int .i64 x.f3, .int .i64 x.f4, .int .i64 x.f5, .int .i64 x.f6, v7] ∧ kE.R 68 w base ok v7 x.f7 := by
  obtain ⟨_, _, rfl, rfl, ⟨_, _, rfl, rfl, ⟨_, _, rfl, rfl, ⟨_, _, rfl, rfl, ⟨_, _, rfl, rfl, ⟨_, _, rfl, rfl, ⟨_, _, rfl, rfl, ⟨v7, rfl, g7⟩⟩⟩⟩⟩⟩⟩⟩ := h
  exact ⟨v7, rfl, g7⟩
theorem kM_mk (w : World) (x : Msg) {A7 : Option Addr} {c7 : Nat} (l7 : x.f7.length ≤ c7) (g7 : kE.C w A7 x.f7.length x.f7) : kM.K w x [.int .i64 x.f0, .int .i64 x.f1, .int .i64 x.f2, .int .i64 x.f3, .int .i64 x.f4, .int .i64 x.f5, .int .i64 x.f6, .slice A7 x.f7.length c7] := ⟨[.int .i64 x.f0], [.int .i64 x.f1, .int .i64 x.f2, .int .i64 x.f3, .int .i64 x.f4, .int .i64 x.f5, .int .i64 x.f6, .slice A7 x.f7.length c7], rfl, rfl, ⟨[.int .i64 x.f1], [.int .i64 x.f2, .int .i64 x.f3, .int .i64 x.f4, .int .i64 x.f5, .int .i64 x.f6, .slice A7 x.f7.length c7], rfl, rfl, ⟨[.int .i64 x.f2], [.int .i64 x.f3, .int .i64 x.f4, .int .i64 x.f5, .int .i64 x.f6, .slice A7 x.f7.length c7], rfl, rfl, ⟨[.int .i64 x.f3], [.int .i64 x.f4, .int .i64 x.f5, .int .i64 x.f6, .slice A7 x.f7.length c7], rfl, rfl, ⟨[.int .i64 x.f4], [.int .i64 x.f5, .int .i64 x.f6, .slice A7 x.f7.length c7], rfl, rfl, ⟨[.int .i64 x.f5], [.int .i64 x.f6, .slice A7 x.f7.length c7], rfl, rfl, ⟨[.int .i64 x.f6], [.slice A7 x.f7.length c7], rfl, rfl, ⟨A7, c7, rfl, l7, g7⟩⟩⟩⟩⟩⟩⟩⟩
theorem kM_mkM (w : World) (base : Nat) (ok : Nat → Prop) (x : Msg) {v7 : Value} (g7 : kE.R 68 w base ok v7 x.f7) : kM.M w base ok x [.int .i64 x.f0, .int .i64 x.f1, .int .i64 x.f2, .int .i64 x.f3, .int .i64 x.f4, .int .i64 x.f5, .int .i64 x.f6, v7] := ⟨[.int .i64 x.f0], [.int .i64 x.f1, .int .i64 x.f2, .int .i64 x.f3, .int .i64 x.f4, .int .i64 x.f5, .int .i64 x.f6, v7], rfl, rfl, ⟨[.int .i64 x.f1], [.int .i64 x.f2, .int .i64 x.f3, .int .i64 x.f4, .int .i64 x.f5, .int .i64 x.f6, v7], rfl, rfl, ⟨[.int .i64 x.f2], [.int .i64 x.f3, .int .i64 x.f4, .int .i64 x.f5, .int .i64 x.f6, v7], rfl, rfl, ⟨[.int .i64 x.f3], [.int .i64 x.f4, .int .i64 x.f5, .int .i64 x.f6, v7], rfl, rfl, ⟨[.int .i64 x.f4], [.int .i64 x.f5, .int .i64 x.f6, v7], rfl, rfl, ⟨[.int .i64 x.f5], [.int .i64 x.f6, v7], rfl, rfl, ⟨[.int .i64 x.f6], [v7], rfl, rfl, ⟨v7, rfl, g7⟩⟩⟩⟩⟩⟩⟩⟩
theorem kM_openF {W : World} {ok : Nat → Prop} {x : Msg} {cs : List Value} (h : Kd.FK kM W ok x cs) : ∃ A7 c7, cs = [.int .i64 x.f0, .int .i64 x.f1, .int .i64 x.f2, .int .i64 x.f3, .int .i64 x.f4, .int .i64 x.f5, .int .i64 x.f6, .slice A7 x.f7.length c7] ∧ x.f7.length ≤ c7 ∧ Kd.F kE W ok A7 x.f7.length x.f7 := by
  obtain ⟨A7, c7, rfl, l7, _⟩ := kM_open (Kd.FK_now h)
  exact ⟨A7, c7, rfl, l7, (fun W' hW => by obtain ⟨A7_, c7_, he, l7_, g7_⟩ := kM_open (h W' hW); injection (Option.some.inj (show some (Value.slice A7 x.f7.length c7) = some (Value.slice A7_ x.f7.length c7_) from congrArg (fun l => l[7]?) he)) with ha_ _ _; rw [ha_]; exact g7_)⟩
theorem kM_mkF (W : World) (ok : Nat → Prop) (x : Msg) {A7 : Option Addr} {c7 : Nat} (l7 : x.f7.length ≤ c7) (g7 : Kd.F kE W ok A7 x.f7.length x.f7) : Kd.FK kM W ok x [.int .i64 x.f0, .int .i64 x.f1, .int .i64 x.f2, .int .i64 x.f3, .int .i64 x.f4, .int .i64 x.f5, .int .i64 x.f6, .slice A7 x.f7.length c7] := fun W2 hW => kM_mk W2 x l7 (g7 W2 hW)
def rd_Msg (xs : List Msg) (i : Int) : Msg := xs.getD i.toNat zM
theorem at_Msg {w : World} {A : Option Addr} {n : Nat} {xs : List Msg} (h : Kd.C kM w A n xs) (i : Int) (h0 : 0 ≤ i) (h1 : i < n) : ∃ ad A7 c7, A = some ad ∧ w.cell? (ad.add (i.toNat * 8)) = some (.int .i64 (rd_Msg xs i).f0) ∧ w.cell? ⟨(ad.add (i.toNat * 8)).block, (ad.add (i.toNat * 8)).off + 1, none⟩ = some (.int .i64 (rd_Msg xs i).f1) ∧ w.cell? ⟨(ad.add (i.toNat * 8)).block, (ad.add (i.toNat * 8)).off + 2, none⟩ = some (.int .i64 (rd_Msg xs i).f2) ∧ w.cell? ⟨(ad.add (i.toNat * 8)).block, (ad.add (i.toNat * 8)).off + 3, none⟩ = some (.int .i64 (rd_Msg xs i).f3) ∧ w.cell? ⟨(ad.add (i.toNat * 8)).block, (ad.add (i.toNat * 8)).off + 4, none⟩ = some (.int .i64 (rd_Msg xs i).f4) ∧ w.cell? ⟨(ad.add (i.toNat * 8)).block, (ad.add (i.toNat * 8)).off + 5, none⟩ = some (.int .i64 (rd_Msg xs i).f5) ∧ w.cell? ⟨(ad.add (i.toNat * 8)).block, (ad.add (i.toNat * 8)).off + 6, none⟩ = some (.int .i64 (rd_Msg xs i).f6) ∧ w.cell? ⟨(ad.add (i.toNat * 8)).block, (ad.add (i.toNat * 8)).off + 7, none⟩ = some (.slice A7 (rd_Msg xs i).f7.length c7) ∧ (rd_Msg xs i).f7.length ≤ c7 ∧ kE.C w A7 (rd_Msg xs i).f7.length (rd_Msg xs i).f7 := by
  obtain ⟨ad, c, e, _, hK, hc0⟩ := Kd.C_get h zM i h0 h1
  have hc : ∀ j u, c[j]? = some u → w.cell? (ad.add (i.toNat * 8 + j)) = some u := hc0
  obtain ⟨A7, c7, rfl, l7, g7⟩ := kM_open hK
  exact ⟨ad, A7, c7, e, hc 0 _ rfl, by rw [← add_field _ _ 1 (by omega)]; exact hc 1 _ rfl, by rw [← add_field _ _ 2 (by omega)]; exact hc 2 _ rfl, by rw [← add_field _ _ 3 (by omega)]; exact hc 3 _ rfl, by rw [← add_field _ _ 4 (by omega)]; exact hc 4 _ rfl, by rw [← add_field _ _ 5 (by omega)]; exact hc 5 _ rfl, by rw [← add_field _ _ 6 (by omega)]; exact hc 6 _ rfl, by rw [← add_field _ _ 7 (by omega)]; exact hc 7 _ rfl, l7, g7⟩

def rd_L6 (xs : List (List Int)) (i : Int) : (List Int) := xs.getD i.toNat ([] : List Int)
theorem at_L6 {w : World} {A : Option Addr} {n : Nat} {xs : List (List Int)} (h : Kd.C (Kd.slice 3 (Kd.int .i64)) w A n xs) (i : Int) (h0 : 0 ≤ i) (h1 : i < n) : ∃ ad A0 c0, A = some ad ∧ w.cell? (ad.add i.toNat) = some (.slice A0 (rd_L6 xs i).length c0) ∧ (rd_L6 xs i).length ≤ c0 ∧ (Kd.int .i64).C w A0 (rd_L6 xs i).length (rd_L6 xs i) := by
  obtain ⟨ad, c, e, _, hK, hc0⟩ := Kd.C_get h ([] : List Int) i h0 h1
  have hc : ∀ j u, c[j]? = some u → w.cell? (ad.add (i.toNat * 1 + j)) = some u := hc0
  obtain ⟨A0, c0, rfl, l0, g0⟩ := hK
  exact ⟨ad, A0, c0, e, by have hq := hc 0 _ rfl; rwa [Nat.mul_one, Nat.add_zero] at hq, l0, g0⟩

/-! #### struct type 25 -/
def zR : Rep := ⟨(0 : Int), (0 : Int), (0 : Int), (0 : Int), (0 : Int), ([] : List Entry), (0 : Int), ([] : List Int), ([] : List Int), ([] : List Int), ([] : List Entry), (0 : Int), (0 : Int)⟩
def kR : Kd Rep := Kd.iso (Kd.pair (Kd.int .i64) (Kd.pair (Kd.int .i64) (Kd.pair (Kd.int .i64) (Kd.pair (Kd.int .i64) (Kd.pair (Kd.int .i64) (Kd.pair (Kd.slice 68 kE) (Kd.pair (Kd.int .i64) (Kd.pair (Kd.slice 3 (Kd.int .i64)) (Kd.pair (Kd.slice 3 (Kd.int .i64)) (Kd.pair (Kd.slice 3 (Kd.int .i64)) (Kd.pair (Kd.slice 68 kE) (Kd.pair (Kd.int .i64) (Kd.int .i64))))))))))))) (fun x : Rep => (x.f0, x.f1, x.f2, x.f3, x.f4, x.f5, x.f6, x.f7, x.f8, x.f9, x.f10, x.f11, x.f12))
theorem kR_heap : Kd.Heap kR := Kd.heap_iso _ (Kd.heap_pair (Kd.heap_int .i64) (Kd.heap_pair (Kd.heap_int .i64) (Kd.heap_pair (Kd.heap_int .i64) (Kd.heap_pair (Kd.heap_int .i64) (Kd.heap_pair (Kd.heap_int .i64) (Kd.heap_pair (Kd.heap_slice 68 kE_heap) (Kd.heap_pair (Kd.heap_int .i64) (Kd.heap_pair (Kd.heap_slice 3 (Kd.heap_int .i64)) (Kd.heap_pair (Kd.heap_slice 3 (Kd.heap_int .i64)) (Kd.heap_pair (Kd.heap_slice 3 (Kd.heap_int .i64)) (Kd.heap_pair (Kd.heap_slice 68 kE_heap) (Kd.heap_pair (Kd.heap_int .i64) (Kd.heap_int .i64)))))))))))))
theorem kR_open {w : World} {x : Rep} {cs : List Value} (h : kR.K w x cs) : ∃ A5 c5 A7 c7 A8 c8 A9 c9 A10 c10, cs = [.int .i64 x.f0, .int .i64 x.f1, .int .i64 x.f2, .int .i64 x.f3, .int .i64 x.f4, .slice A5 x.f5.length c5, .int .i64 x.f6, .slice A7 x.f7.length c7, .slice A8 x.f8.length c8, .slice A9 x.f9.length c9, .slice A10 x.f10.length c10, .int .i64 x.f11, .int .i64 x.f12] ∧ x.f5.length ≤ c5 ∧ kE.C w A5 x.f5.length x.f5 ∧ x.f7.length ≤ c7 ∧ (Kd.int .i64).C w A7 x.f7.length x.f7 ∧ x.f8.length ≤ c8 ∧ (Kd.int .i64).C w A8 x.f8.length x.f8 ∧ x.f9.length ≤ c9 ∧ (Kd.int .i64).C w A9 x.f9.length x.f9 ∧ x.f10.length ≤ c10 ∧ kE.C w A10 x.f10.length x.f10 := by
  obtain ⟨_, _, rfl, rfl, ⟨_, _, rfl, rfl, ⟨_, _, rfl, rfl, ⟨_, _, rfl, rfl, ⟨_, _, rfl, rfl, ⟨_, _, rfl, ⟨A5, c5, rfl, l5, g5⟩, ⟨_, _, rfl, rfl, ⟨_, _, rfl, ⟨A7, c7, rfl, l7, g7⟩, ⟨_, _, rfl, ⟨A8, c8, rfl, l8, g8⟩, ⟨_, _, rfl, ⟨A9, c9, rfl, l9, g9⟩, ⟨_, _, rfl, ⟨A10, c10, rfl, l10, g10⟩, ⟨_, _, rfl, rfl, rfl⟩⟩⟩⟩⟩⟩⟩⟩⟩⟩⟩⟩ := h
  exact ⟨A5, c5, A7, c7, A8, c8, A9, c9, A10, c10, rfl, l5, g5, l7, g7, l8, g8, l9, g9, l10, g10⟩
theorem kR_openM {w : World} {base : Nat} {ok : Nat → Prop} {x : Rep} {cs : List Value} (h : kR.M w base ok x cs) : ∃ v5 v7 v8 v9 v10, cs = [.int .i64 x.f0, .int .i64 x.f1, .int .i64 x.f2, .int .i64 x.f3, .int .i64 x.f4, v5, .int .i64 x.f6, v7, v8, v9, v10, .int .i64 x.f11, .int .i64 x.f12] ∧ kE.R 68 w base ok v5 x.f5 ∧ (Kd.int .i64).R 3 w base ok v7 x.f7 ∧ (Kd.int .i64).R 3 w base ok v8 x.f8 ∧ (Kd.int .i64).R 3 w base ok v9 x.f9 ∧ kE.R 68 w base ok v10 x.f10 := by
  obtain ⟨_, _, rfl, rfl, ⟨_, _, rfl, rfl, ⟨_, _, rfl, rfl, ⟨_, _, rfl, rfl, ⟨_, _, rfl, rfl, ⟨_, _, rfl, ⟨v5, rfl, g5⟩, ⟨_, _, rfl, rfl, ⟨_, _, rfl, ⟨v7, rfl, g7⟩, ⟨_, _, rfl, ⟨v8, rfl, g8⟩, ⟨_, _, rfl, ⟨v9, rfl, g9⟩, ⟨_, _, rfl, ⟨v10, rfl, g10⟩, ⟨_, _, rfl, rfl, rfl⟩⟩⟩⟩⟩⟩⟩⟩⟩⟩⟩⟩ := h
  exact ⟨v5, v7, v8, v9, v10, rfl, g5, g7, g8, g9, g10⟩
theorem kR_mk (w : World) (x : Rep) {A5 : Option Addr} {c5 : Nat} (l5 : x.f5.length ≤ c5) (g5 : kE.C w A5 x.f5.length x.f5) {A7 : Option Addr} {c7 : Nat} (l7 : x.f7.length ≤ c7) (g7 : (Kd.int .i64).C w A7 x.f7.length x.f7) {A8 : Option Addr} {c8 : Nat} (l8 : x.f8.length ≤ c8) (g8 : (Kd.int .i64).C w A8 x.f8.length x.f8) {A9 : Option Addr} {c9 : Nat} (l9 : x.f9.length ≤ c9) (g9 : (Kd.int .i64).C w A9 x.f9.length x.f9) {A10 : Option Addr} {c10 : Nat} (l10 : x.f10.length ≤ c10) (g10 : kE.C w A10 x.f10.length x.f10) : kR.K w x [.int .i64 x.f0, .int .i64 x.f1, .int .i64 x.f2, .int .i64 x.f3, .int .i64 x.f4, .slice A5 x.f5.length c5, .int .i64 x.f6, .slice A7 x.f7.length c7, .slice A8 x.f8.length c8, .slice A9 x.f9.length c9, .slice A10 x.f10.length c10, .int .i64 x.f11, .int .i64 x.f12] := ⟨[.int .i64 x.f0], [.int .i64 x.f1, .int .i64 x.f2, .int .i64 x.f3, .int .i64 x.f4, .slice A5 x.f5.length c5, .int .i64 x.f6, .slice A7 x.f7.length c7, .slice A8 x.f8.length c8, .slice A9 x.f9.length c9, .slice A10 x.f10.length c10, .int .i64 x.f11, .int .i64 x.f12], rfl, rfl, ⟨[.int .i64 x.f1], [.int .i64 x.f2, .int .i64 x.f3, .int .i64 x.f4, .slice A5 x.f5.length c5, .int .i64 x.f6, .slice A7 x.f7.length c7, .slice A8 x.f8.length c8, .slice A9 x.f9.length c9, .slice A10 x.f10.length c10, .int .i64 x.f11, .int .i64 x.f12], rfl, rfl, ⟨[.int .i64 x.f2], [.int .i64 x.f3, .int .i64 x.f4, .slice A5 x.f5.length c5, .int .i64 x.f6, .slice A7 x.f7.length c7, .slice A8 x.f8.length c8, .slice A9 x.f9.length c9, .slice A10 x.f10.length c10, .int .i64 x.f11, .int .i64 x.f12], rfl, rfl, ⟨[.int .i64 x.f3], [.int .i64 x.f4, .slice A5 x.f5.length c5, .int .i64 x.f6, .slice A7 x.f7.length c7, .slice A8 x.f8.length c8, .slice A9 x.f9.length c9, .slice A10 x.f10.length c10, .int .i64 x.f11, .int .i64 x.f12], rfl, rfl, ⟨[.int .i64 x.f4], [.slice A5 x.f5.length c5, .int .i64 x.f6, .slice A7 x.f7.length c7, .slice A8 x.f8.length c8, .slice A9 x.f9.length c9, .slice A10 x.f10.length c10, .int .i64 x.f11, .int .i64 x.f12], rfl, rfl, ⟨[.slice A5 x.f5.length c5], [.int .i64 x.f6, .slice A7 x.f7.length c7, .slice A8 x.f8.length c8, .slice A9 x.f9.length c9, .slice A10 x.f10.length c10, .int .i64 x.f11, .int .i64 x.f12], rfl, ⟨A5, c5, rfl, l5, g5⟩, ⟨[.int .i64 x.f6], [.slice A7 x.f7.length c7, .slice A8 x.f8.length c8, .slice A9 x.f9.length c9, .slice A10 x.f10.length c10, .int .i64 x.f11, .int .i64 x.f12], rfl, rfl, ⟨[.slice A7 x.f7.length c7], [.slice A8 x.f8.length c8, .slice A9 x.f9.length c9, .slice A10 x.f10.length c10, .int .i64 x.f11, .int .i64 x.f12], rfl, ⟨A7, c7, rfl, l7, g7⟩, ⟨[.slice A8 x.f8.length c8], [.slice A9 x.f9.length c9, .slice A10 x.f10.length c10, .int .i64 x.f11, .int .i64 x.f12], rfl, ⟨A8, c8, rfl, l8, g8⟩, ⟨[.slice A9 x.f9.length c9], [.slice A10 x.f10.length c10, .int .i64 x.f11, .int .i64 x.f12], rfl, ⟨A9, c9, rfl, l9, g9⟩, ⟨[.slice A10 x.f10.length c10], [.int .i64 x.f11, .int .i64 x.f12], rfl, ⟨A10, c10, rfl, l10, g10⟩, ⟨[.int .i64 x.f11], [.int .i64 x.f12], rfl, rfl, rfl⟩⟩⟩⟩⟩⟩⟩⟩⟩⟩⟩⟩
theorem kR_mkM (w : World) (base : Nat) (ok : Nat → Prop) (x : Rep) {v5 : Value} (g5 : kE.R 68 w base ok v5 x.f5) {v7 : Value} (g7 : (Kd.int .i64).R 3 w base ok v7 x.f7) {v8 : Value} (g8 : (Kd.int .i64).R 3 w base ok v8 x.f8) {v9 : Value} (g9 : (Kd.int .i64).R 3 w base ok v9 x.f9) {v10 : Value} (g10 : kE.R 68 w base ok v10 x.f10) : kR.M w base ok x [.int .i64 x.f0, .int .i64 x.f1, .int .i64 x.f2, .int .i64 x.f3, .int .i64 x.f4, v5, .int .i64 x.f6, v7, v8, v9, v10, .int .i64 x.f11, .int .i64 x.f12] := ⟨[.int .i64 x.f0], [.int .i64 x.f1, .int .i64 x.f2, .int .i64 x.f3, .int .i64 x.f4, v5, .int .i64 x.f6, v7, v8, v9, v10, .int .i64 x.f11, .int .i64 x.f12], rfl, rfl, ⟨[.int .i64 x.f1], [.int .i64 x.f2, .int .i64 x.f3, .int .i64 x.f4, v5, .int .i64 x.f6, v7, v8, v9, v10, .int .i64 x.f11, .int .i64 x.f12], rfl, rfl, ⟨[.int .i64 x.f2], [.int .i64 x.f3, .int .i64 x.f4, v5, .int .i64 x.f6, v7, v8, v9, v10, .int .i64 x.f11, .int .i64 x.f12], rfl, rfl, ⟨[.int .i64 x.f3], [.int .i64 x.f4, v5, .int .i64 x.f6, v7, v8, v9, v10, .int .i64 x.f11, .int .i64 x.f12], rfl, rfl, ⟨[.int .i64 x.f4], [v5, .int .i64 x.f6, v7, v8, v9, v10, .int .i64 x.f11, .int .i64 x.f12], rfl, rfl, ⟨[v5], [.int .i64 x.f6, v7, v8, v9, v10, .int .i64 x.f11, .int .i64 x.f12], rfl, ⟨v5, rfl, g5⟩, ⟨[.int .i64 x.f6], [v7, v8, v9, v10, .int .i64 x.f11, .int .i64 x.f12], rfl, rfl, ⟨[v7], [v8, v9, v10, .int .i64 x.f11, .int .i64 x.f12], rfl, ⟨v7, rfl, g7⟩, ⟨[v8], [v9, v10, .int .i64 x.f11, .int .i64 x.f12], rfl, ⟨v8, rfl, g8⟩, ⟨[v9], [v10, .int .i64 x.f11, .int .i64 x.f12], rfl, ⟨v9, rfl, g9⟩, ⟨[v10], [.int .i64 x.f11, .int .i64 x.f12], rfl, ⟨v10, rfl, g10⟩, ⟨[.int .i64 x.f11], [.int .i64 x.f12], rfl, rfl, rfl⟩⟩⟩⟩⟩⟩⟩⟩⟩⟩⟩⟩
theorem kR_openF {W : World} {ok : Nat → Prop} {x : Rep} {cs : List Value} (h : Kd.FK kR W ok x cs) : ∃ A5 c5 A7 c7 A8 c8 A9 c9 A10 c10, cs = [.int .i64 x.f0, .int .i64 x.f1, .int .i64 x.f2, .int .i64 x.f3, .int .i64 x.f4, .slice A5 x.f5.length c5, .int .i64 x.f6, .slice A7 x.f7.length c7, .slice A8 x.f8.length c8, .slice A9 x.f9.length c9, .slice A10 x.f10.length c10, .int .i64 x.f11, .int .i64 x.f12] ∧ x.f5.length ≤ c5 ∧ Kd.F kE W ok A5 x.f5.length x.f5 ∧ x.f7.length ≤ c7 ∧ Kd.F (Kd.int .i64) W ok A7 x.f7.length x.f7 ∧ x.f8.length ≤ c8 ∧ Kd.F (Kd.int .i64) W ok A8 x.f8.length x.f8 ∧ x.f9.length ≤ c9 ∧ Kd.F (Kd.int .i64) W ok A9 x.f9.length x.f9 ∧ x.f10.length ≤ c10 ∧ Kd.F kE W ok A10 x.f10.length x.f10 := by
  obtain ⟨A5, c5, A7, c7, A8, c8, A9, c9, A10, c10, rfl, l5, _, l7, _, l8, _, l9, _, l10, _⟩ := kR_open (Kd.FK_now h)
  exact ⟨A5, c5, A7, c7, A8, c8, A9, c9, A10, c10, rfl, l5, (fun W' hW => by obtain ⟨A5_, c5_, A7_, c7_, A8_, c8_, A9_, c9_, A10_, c10_, he, l5_, g5_, l7_, g7_, l8_, g8_, l9_, g9_, l10_, g10_⟩ := kR_open (h W' hW); injection (Option.some.inj (show some (Value.slice A5 x.f5.length c5) = some (Value.slice A5_ x.f5.length c5_) from congrArg (fun l => l[5]?) he)) with ha_ _ _; rw [ha_]; exact g5_), l7, (fun W' hW => by obtain ⟨A5_, c5_, A7_, c7_, A8_, c8_, A9_, c9_, A10_, c10_, he, l5_, g5_, l7_, g7_, l8_, g8_, l9_, g9_, l10_, g10_⟩ := kR_open (h W' hW); injection (Option.some.inj (show some (Value.slice A7 x.f7.length c7) = some (Value.slice A7_ x.f7.length c7_) from congrArg (fun l => l[7]?) he)) with ha_ _ _; rw [ha_]; exact g7_), l8, (fun W' hW => by obtain ⟨A5_, c5_, A7_, c7_, A8_, c8_, A9_, c9_, A10_, c10_, he, l5_, g5_, l7_, g7_, l8_, g8_, l9_, g9_, l10_, g10_⟩ := kR_open (h W' hW); injection (Option.some.inj (show some (Value.slice A8 x.f8.length c8) = some (Value.slice A8_ x.f8.length c8_) from congrArg (fun l => l[8]?) he)) with ha_ _ _; rw [ha_]; exact g8_), l9, (fun W' hW => by obtain ⟨A5_, c5_, A7_, c7_, A8_, c8_, A9_, c9_, A10_, c10_, he, l5_, g5_, l7_, g7_, l8_, g8_, l9_, g9_, l10_, g10_⟩ := kR_open (h W' hW); injection (Option.some.inj (show some (Value.slice A9 x.f9.length c9) = some (Value.slice A9_ x.f9.length c9_) from congrArg (fun l => l[9]?) he)) with ha_ _ _; rw [ha_]; exact g9_), l10, (fun W' hW => by obtain ⟨A5_, c5_, A7_, c7_, A8_, c8_, A9_, c9_, A10_, c10_, he, l5_, g5_, l7_, g7_, l8_, g8_, l9_, g9_, l10_, g10_⟩ := kR_open (h W' hW); injection (Option.some.inj (show some (Value.slice A10 x.f10.length c10) = some (Value.slice A10_ x.f10.length c10_) from congrArg (fun l => l[10]?) he)) with ha_ _ _; rw [ha_]; exact g10_)⟩
theorem kR_mkF (W : World) (ok : Nat → Prop) (x : Rep) {A5 : Option Addr} {c5 : Nat} (l5 : x.f5.length ≤ c5) (g5 : Kd.F kE W ok A5 x.f5.length x.f5) {A7 : Option Addr} {c7 : Nat} (l7 : x.f7.length ≤ c7) (g7 : Kd.F (Kd.int .i64) W ok A7 x.f7.length x.f7) {A8 : Option Addr} {c8 : Nat} (l8 : x.f8.length ≤ c8) (g8 : Kd.F (Kd.int .i64) W ok A8 x.f8.length x.f8) {A9 : Option Addr} {c9 : Nat} (l9 : x.f9.length ≤ c9) (g9 : Kd.F (Kd.int .i64) W ok A9 x.f9.length x.f9) {A10 : Option Addr} {c10 : Nat} (l10 : x.f10.length ≤ c10) (g10 : Kd.F kE W ok A10 x.f10.length x.f10) : Kd.FK kR W ok x [.int .i64 x.f0, .int .i64 x.f1, .int .i64 x.f2, .int .i64 x.f3, .int .i64 x.f4, .slice A5 x.f5.length c5, .int .i64 x.f6, .slice A7 x.f7.length c7, .slice A8 x.f8.length c8, .slice A9 x.f9.length c9, .slice A10 x.f10.length c10, .int .i64 x.f11, .int .i64 x.f12] := fun W2 hW => kR_mk W2 x l5 (g5 W2 hW) l7 (g7 W2 hW) l8 (g8 W2 hW) l9 (g9 W2 hW) l10 (g10 W2 hW)
def rd_Rep (xs : List Rep) (i : Int) : Rep := xs.getD i.toNat zR
theorem at_Rep {w : World} {A : Option Addr} {n : Nat} {xs : List Rep} (h : Kd.C kR w A n xs) (i : Int) (h0 : 0 ≤ i) (h1 : i < n) : ∃ ad A5 c5 A7 c7 A8 c8 A9 c9 A10 c10, A = some ad ∧ w.cell? (ad.add (i.toNat * 13)) = some (.int .i64 (rd_Rep xs i).f0) ∧ w.cell? ⟨(ad.add (i.toNat * 13)).block, (ad.add (i.toNat * 13)).off + 1, none⟩ = some (.int .i64 (rd_Rep xs i).f1) ∧ w.cell? ⟨(ad.add (i.toNat * 13)).block, (ad.add (i.toNat * 13)).off + 2, none⟩ = some (.int .i64 (rd_Rep xs i).f2) ∧ w.cell? ⟨(ad.add (i.toNat * 13)).block, (ad.add (i.toNat * 13)).off + 3, none⟩ = some (.int .i64 (rd_Rep xs i).f3) ∧ w.cell? ⟨(ad.add (i.toNat * 13)).block, (ad.add (i.toNat * 13)).off + 4, none⟩ = some (.int .i64 (rd_Rep xs i).f4) ∧ w.cell? ⟨(ad.add (i.toNat * 13)).block, (ad.add (i.toNat * 13)).off + 5, none⟩ = some (.slice A5 (rd_Rep xs i).f5.length c5) ∧ w.cell? ⟨(ad.add (i.toNat * 13)).block, (ad.add (i.toNat * 13)).off + 6, none⟩ = some (.int .i64 (rd_Rep xs i).f6) ∧ w.cell? ⟨(ad.add (i.toNat * 13)).block, (ad.add (i.toNat * 13)).off + 7, none⟩ = some (.slice A7 (rd_Rep xs i).f7.length c7) ∧ w.cell? ⟨(ad.add (i.toNat * 13)).block, (ad.add (i.toNat * 13)).off + 8, none⟩ = some (.slice A8 (rd_Rep xs i).f8.length c8) ∧ w.cell? ⟨(ad.add (i.toNat * 13)).block, (ad.add (i.toNat * 13)).off + 9, none⟩ = some (.slice A9 (rd_Rep xs i).f9.length c9) ∧ w.cell? ⟨(ad.add (i.toNat * 13)).block, (ad.add (i.toNat * 13)).off + 10, none⟩ = some (.slice A10 (rd_Rep xs i).f10.length c10) ∧ w.cell? ⟨(ad.add (i.toNat * 13)).block, (ad.add (i.toNat * 13)).off + 11, none⟩ = some (.int .i64 (rd_Rep xs i).f11) ∧ w.cell? ⟨(ad.add (i.toNat * 13)).block, (ad.add (i.toNat * 13)).off + 12, none⟩ = some (.int .i64 (rd_Rep xs i).f12) ∧ (rd_Rep xs i).f5.length ≤ c5 ∧ kE.C w A5 (rd_Rep xs i).f5.length (rd_Rep xs i).f5 ∧ (rd_Rep xs i).f7.length ≤ c7 ∧ (Kd.int .i64).C w A7 (rd_Rep xs i).f7.length (rd_Rep xs i).f7 ∧ (rd_Rep xs i).f8.length ≤ c8 ∧ (Kd.int .i64).C w A8 (rd_Rep xs i).f8.length (rd_Rep xs i).f8 ∧ (rd_Rep xs i).f9.length ≤ c9 ∧ (Kd.int .i64).C w A9 (rd_Rep xs i).f9.length (rd_Rep xs i).f9 ∧ (rd_Rep xs i).f10.length ≤ c10 ∧ kE.C w A10 (rd_Rep xs i).f10.length (rd_Rep xs i).f10 := by
  obtain ⟨ad, c, e, _, hK, hc0⟩ := Kd.C_get h zR i h0 h1
  have hc : ∀ j u, c[j]? = some u → w.cell? (ad.add (i.toNat * 13 + j)) = some u := hc0
  obtain ⟨A5, c5, A7, c7, A8, c8, A9, c9, A10, c10, rfl, l5, g5, l7, g7, l8, g8, l9, g9, l10, g10⟩ := kR_open hK
  exact ⟨ad, A5, c5, A7, c7, A8, c8, A9, c9, A10, c10, e, hc 0 _ rfl, by rw [← add_field _ _ 1 (by omega)]; exact hc 1 _ rfl, by rw [← add_field _ _ 2 (by omega)]; exact hc 2 _ rfl, by rw [← add_field _ _ 3 (by omega)]; exact hc 3 _ rfl, by rw [← add_field _ _ 4 (by omega)]; exact hc 4 _ rfl, by rw [← add_field _ _ 5 (by omega)]; exact hc 5 _ rfl, by rw [← add_field _ _ 6 (by omega)]; exact hc 6 _ rfl, by rw [← add_field _ _ 7 (by omega)]; exact hc 7 _ rfl, by rw [← add_field _ _ 8 (by omega)]; exact hc 8 _ rfl, by rw [← add_field _ _ 9 (by omega)]; exact hc 9 _ rfl, by rw [← add_field _ _ 10 (by omega)]; exact hc 10 _ rfl, by rw [← add_field _ _ 11 (by omega)]; exact hc 11 _ rfl, by rw [← add_field _ _ 12 (by omega)]; exact hc 12 _ rfl, l5, g5, l7, g7, l8, g8, l9, g9, l10, g10⟩

end Go.Proofs.YtggbjokhniigkaaGreat.Kx
