/- Texts laid together: Mem, Del, WRepsOne. No condition. -/
import Derived.WalkKit
import Derived.Lib.SliceRun
import Derived.Test.YtookpmdgoednfaaYPz1
set_option linter.unusedVariables false
set_option linter.unusedSimpArgs false
set_option maxRecDepth 100000
set_option maxHeartbeats 8000000
namespace Go.Proofs.Ytookpmdgoednfaa.Mx
open Go.RowKit YtookpmdgoednfaaW.PrintWords YtookpmdgoednfaaW.PrintLast YtookpmdgoednfaaW.PrintMore
/-- What holds of a world, told of some blocks alone. -/
structure Res where
  holds : World → (Nat → Prop) → Prop
  move : ∀ {w w' : World} {fp : Nat → Prop}, (∀ k, fp k → w'.heap[k]? = w.heap[k]?) → holds w fp → holds w' fp
  mono : ∀ {w : World} {fp fp' : Nat → Prop}, (∀ k, fp k → fp' k) → holds w fp → holds w fp'
/-- One block, known whole. -/
def blk (g : Nat) (T : TypeId) (cs : Array Value) : Res where
  holds w fp := w.heap[g]? = some (.cells cs T (0, 0)) ∧ fp g
  move hm h := ⟨(hm g h.2).trans h.1, h.2⟩
  mono hm h := ⟨h.1, hm g h.2⟩
/-- A row of elements with all that they lead to. -/
def row {α : Type} (d : Kd α) (e : Nat) (v : Value) (xs : List α) : Res where
  holds w fp := d.R e w 0 fp v xs
  move hm h := Kd.R_move h hm
  mono hm h := Kd.R_mono h hm
def emp : Res where
  holds _ _ := True
  move _ h := h
  mono _ h := h
/-- Several as one. -/
def star (l : List Res) : Res where
  holds w fp := ∃ c : Nat → Nat, ∀ (i : Nat) (r : Res), l[i]? = some r → r.holds w (fun k => fp k ∧ c k = i)
  move hm h := by
    obtain ⟨c, h⟩ := h
    exact ⟨c, fun i r hr => r.move (fun k hk => hm k hk.1) (h i r hr)⟩
  mono hm h := by
    obtain ⟨c, h⟩ := h
    exact ⟨c, fun i r hr => r.mono (fun k hk => ⟨hm k hk.1, hk.2⟩) (h i r hr)⟩
/-- The world since w0: what was there is as it was; what has come lies in resources apart. -/
structure Mem (w0 w : World) (rs : List Res) : Prop where
  os : w.os = w0.os
  tape : w.tape = w0.tape
  output : w.output = w0.output
  size : w0.heap.size ≤ w.heap.size
  old : ∀ k, k < w0.heap.size → w.heap[k]? = w0.heap[k]?
  own : ∃ c : Nat → Nat, ∀ (i : Nat) (r : Res), rs[i]? = some r → r.holds w (fun k => w0.heap.size ≤ k ∧ k < w.heap.size ∧ c k = i)
theorem Mem.nil (w : World) : Mem w w [] := ⟨rfl, rfl, rfl, Nat.le_refl _, fun _ _ => rfl, fun _ => 0, fun i r h => by simp at h⟩
theorem Mem.below {w0 w : World} {rs : List Res} (h : Mem w0 w rs) : Below w0.heap.size w0 w := ⟨h.os, h.tape, h.output, h.size, h.old⟩
theorem Mem.same {w0 w w1 : World} {rs : List Res} (h : Mem w0 w rs) (hh : w1.heap = w.heap) (ho : w1.os = w.os) (ht : w1.tape = w.tape) (hp : w1.output = w.output) : Mem w0 w1 rs := by
  obtain ⟨h1, h2, h3, h4, h5, c, h6⟩ := h
  refine ⟨ho.trans h1, ht.trans h2, hp.trans h3, by rw [hh]; exact h4, by rw [hh]; exact h5, c, fun i r hr => ?_⟩
  rw [hh]
  exact r.move (fun k _ => by rw [hh]) (h6 i r hr)
theorem Mem.drew {w0 w : World} {rs : List Res} (h : Mem w0 w rs) : Mem w0 w.drew rs := h.same rfl rfl rfl rfl
theorem Mem.drewN {w0 w : World} {rs : List Res} (h : Mem w0 w rs) (n : Nat) : Mem w0 (w.drewN n) rs := h.same rfl rfl rfl rfl
theorem Mem.drawn {w0 w w1 : World} {rs : List Res} (h : Mem w0 w rs) (hd : Drawn0 w w1) : Mem w0 w1 rs := by
  obtain ⟨n, rfl⟩ := hd.out
  exact h.drewN n
/-- What was there is as it was. -/
theorem Mem.grow {w0 w w1 : World} {rs : List Res} (h : Mem w0 w rs) (hb : Below w.heap.size w w1) : Mem w0 w1 rs := by
  obtain ⟨h1, h2, h3, h4, h5, c, h6⟩ := h
  refine ⟨hb.os.trans h1, hb.tape.trans h2, hb.output.trans h3, Nat.le_trans h4 hb.size, fun k hk => (hb.block k (by omega)).trans (h5 k hk), c, fun i r hr => ?_⟩
  refine r.mono (fun k hk => ?_) (r.move (fun k hk => ?_) (h6 i r hr))
  · exact ⟨hk.1, Nat.lt_of_lt_of_le hk.2.1 hb.size, hk.2.2⟩
  · exact hb.block k hk.2.1
/-- Something new. -/
theorem Mem.cons {w0 w w1 : World} {rs : List Res} (h : Mem w0 w rs) (hb : Below w.heap.size w w1) {r : Res} (hr : r.holds w1 (fun k => w.heap.size ≤ k ∧ k < w1.heap.size)) : Mem w0 w1 (r :: rs) := by
  obtain ⟨h1, h2, h3, h4, h5, c, h6⟩ := h
  refine ⟨hb.os.trans h1, hb.tape.trans h2, hb.output.trans h3, Nat.le_trans h4 hb.size, fun k hk => (hb.block k (by omega)).trans (h5 k hk), fun k => if k < w.heap.size then c k + 1 else 0, fun i q hq => ?_⟩
  cases i with
  | zero =>
    have : q = r := by simpa using hq.symm
    subst this
    refine q.mono (fun k hk => ⟨by omega, hk.2, ?_⟩) hr
    simp only []
    rw [if_neg (by omega)]
  | succ i =>
    have hq' : rs[i]? = some q := by simpa using hq
    refine q.mono (fun k hk => ?_) (q.move (fun k hk => hb.block k hk.2.1) (h6 i q hq'))
    refine ⟨hk.1, Nat.lt_of_lt_of_le hk.2.1 hb.size, ?_⟩
    simp only []
    rw [if_pos hk.2.1, hk.2.2]
theorem Mem.cons_emp {w0 w : World} {rs : List Res} (h : Mem w0 w rs) : Mem w0 w (emp :: rs) := h.cons (Below.refl _ _) trivial
theorem Mem.alloc {w0 w : World} {rs : List Res} (h : Mem w0 w rs) (cs : Array Value) (T : TypeId) : Mem w0 (w.alloc (.cells cs T (0, 0))) (blk w.heap.size T cs :: rs) := by
  refine h.cons (below_alloc (Below.refl _ _) _) ⟨?_, Nat.le_refl _, by simp⟩
  show (w.heap.push _)[w.heap.size]? = _
  simp
theorem Mem.allocAt {w0 w : World} {rs : List Res} (h : Mem w0 w rs) (cs : Array Value) (T : TypeId) (n : Nat) (hn : w.heap.size = n) : Mem w0 (w.alloc (.cells cs T (0, 0))) (blk n T cs :: rs) := by
  subst hn
  exact h.alloc cs T
/-- One of them is turned (and may take what is new). -/
theorem Mem.take1 {w0 w : World} {rs : List Res} (h : Mem w0 w rs) {i : Nat} {r : Res} (hi : rs[i]? = some r) :
    ∃ f : Nat → Prop, r.holds w f ∧ (∀ k, f k → w0.heap.size ≤ k ∧ k < w.heap.size) ∧
      ∀ (w1 : World) (r1 : Res), w1.os = w.os → w1.tape = w.tape → w1.output = w.output → w.heap.size ≤ w1.heap.size → (∀ k, k < w.heap.size → ¬ f k → w1.heap[k]? = w.heap[k]?) →
        r1.holds w1 (fun k => f k ∨ w.heap.size ≤ k ∧ k < w1.heap.size) → Mem w0 w1 (rs.set i r1) := by
  obtain ⟨h1, h2, h3, h4, h5, c, h6⟩ := h
  refine ⟨_, h6 i r hi, fun k hk => ⟨hk.1, hk.2.1⟩, fun w1 r1 ho ht hp hs hk hr => ?_⟩
  refine ⟨ho.trans h1, ht.trans h2, hp.trans h3, Nat.le_trans h4 hs, fun k hlt => (hk k (by omega) (fun hf => by omega)).trans (h5 k hlt), fun k => if k < w.heap.size then c k else i, fun j q hq => ?_⟩
  by_cases hj : j = i
  · subst hj
    have hlt : j < rs.length := (List.getElem?_eq_some_iff.1 hi).1
    have : q = r1 := by rw [List.getElem?_set_self hlt] at hq; exact (Option.some.inj hq).symm
    subst this
    refine q.mono (fun k hf => ?_) hr
    rcases hf with hf | hf
    · refine ⟨hf.1, by omega, ?_⟩
      simp only []
      rw [if_pos hf.2.1]
      exact hf.2.2
    · refine ⟨by omega, hf.2, ?_⟩
      simp only []
      rw [if_neg (by omega)]
  · rw [List.getElem?_set_ne (fun e => hj e.symm)] at hq
    refine q.mono (fun k hf => ?_) (q.move (fun k hf => ?_) (h6 j q hq))
    · refine ⟨hf.1, by omega, ?_⟩
      simp only []
      rw [if_pos hf.2.1]
      exact hf.2.2
    · exact hk k hf.2.1 (fun hg => hj (by rw [← hf.2.2, hg.2.2]))
/-- One of them takes another one in. -/
theorem Mem.take2 {w0 w : World} {rs : List Res} (h : Mem w0 w rs) {i j : Nat} {r q : Res} (hi : rs[i]? = some r) (hj : rs[j]? = some q) (hij : i ≠ j) :
    ∃ f g : Nat → Prop, r.holds w f ∧ q.holds w g ∧ (∀ k, f k → w0.heap.size ≤ k ∧ k < w.heap.size) ∧ (∀ k, g k → w0.heap.size ≤ k ∧ k < w.heap.size) ∧ (∀ k, f k → ¬ g k) ∧
      ∀ (w1 : World) (r1 : Res), w1.os = w.os → w1.tape = w.tape → w1.output = w.output → w.heap.size ≤ w1.heap.size → (∀ k, k < w.heap.size → ¬ f k → ¬ g k → w1.heap[k]? = w.heap[k]?) →
        r1.holds w1 (fun k => f k ∨ g k ∨ w.heap.size ≤ k ∧ k < w1.heap.size) → Mem w0 w1 ((rs.set i r1).set j emp) := by
  obtain ⟨h1, h2, h3, h4, h5, c, h6⟩ := h
  refine ⟨_, _, h6 i r hi, h6 j q hj, fun k hk => ⟨hk.1, hk.2.1⟩, fun k hk => ⟨hk.1, hk.2.1⟩, fun k hk hg => hij (by rw [← hk.2.2, hg.2.2]), fun w1 r1 ho ht hp hs hk hr => ?_⟩
  refine ⟨ho.trans h1, ht.trans h2, hp.trans h3, Nat.le_trans h4 hs, fun k hlt => (hk k (by omega) (fun hf => by omega) (fun hf => by omega)).trans (h5 k hlt), fun k => if k < w.heap.size then (if c k = j then i else c k) else i, fun l p hl => ?_⟩
  by_cases hlj : l = j
  · subst hlj
    have hlt : l < (rs.set i r1).length := by rw [List.length_set]; exact (List.getElem?_eq_some_iff.1 hj).1
    have : p = emp := by rw [List.getElem?_set_self hlt] at hl; exact (Option.some.inj hl).symm
    subst this
    trivial
  · rw [List.getElem?_set_ne (fun e => hlj e.symm)] at hl
    by_cases hli : l = i
    · subst hli
      have hlt : l < rs.length := (List.getElem?_eq_some_iff.1 hi).1
      have : p = r1 := by rw [List.getElem?_set_self hlt] at hl; exact (Option.some.inj hl).symm
      subst this
      refine p.mono (fun k hf => ?_) hr
      rcases hf with hf | hf | hf
      · refine ⟨hf.1, by omega, ?_⟩
        simp only []
        rw [if_pos hf.2.1, if_neg (by rw [hf.2.2]; exact hij)]
        exact hf.2.2
      · refine ⟨hf.1, by omega, ?_⟩
        simp only []
        rw [if_pos hf.2.1, if_pos hf.2.2]
      · refine ⟨by omega, hf.2, ?_⟩
        simp only []
        rw [if_neg (by omega)]
    · rw [List.getElem?_set_ne (fun e => hli e.symm)] at hl
      refine p.mono (fun k hf => ?_) (p.move (fun k hf => ?_) (h6 l p hl))
      · refine ⟨hf.1, by omega, ?_⟩
        simp only []
        rw [if_pos hf.2.1, if_neg (by rw [hf.2.2]; exact hlj)]
        exact hf.2.2
      · exact hk k hf.2.1 (fun hg => hli (by rw [← hf.2.2, hg.2.2])) (fun hg => hlj (by rw [← hf.2.2, hg.2.2]))
theorem Mem.imp {w0 w : World} {rs : List Res} (h : Mem w0 w rs) {i : Nat} {r : Res} (hi : rs[i]? = some r) (r1 : Res) (hr : ∀ f, r.holds w f → r1.holds w f) : Mem w0 w (rs.set i r1) := by
  obtain ⟨f, h1, _, h3⟩ := h.take1 hi
  exact h3 w r1 rfl rfl rfl (Nat.le_refl _) (fun _ _ _ => rfl) (r1.mono (fun k hk => .inl hk) (hr _ h1))
theorem Mem.hold {w0 w : World} {rs : List Res} (h : Mem w0 w rs) {i : Nat} {r : Res} (hi : rs[i]? = some r) : r.holds w (fun k => w0.heap.size ≤ k ∧ k < w.heap.size) := by
  obtain ⟨f, h1, h2, _⟩ := h.take1 hi
  exact r.mono h2 h1
theorem Mem.blk_at {w0 w : World} {rs : List Res} (h : Mem w0 w rs) (i : Nat) {g : Nat} {T : TypeId} {cs : Array Value} (hi : rs[i]? = some (blk g T cs)) : w.heap[g]? = some (.cells cs T (0, 0)) := (h.hold hi).1
theorem Mem.blk_new {w0 w : World} {rs : List Res} (h : Mem w0 w rs) (i : Nat) {g : Nat} {T : TypeId} {cs : Array Value} (hi : rs[i]? = some (blk g T cs)) : w0.heap.size ≤ g := (h.hold hi).2.1
theorem Mem.row_at {w0 w : World} {rs : List Res} {α : Type} {d : Kd α} {e : Nat} {v : Value} {xs : List α} (h : Mem w0 w rs) (i : Nat) (hi : rs[i]? = some (row d e v xs)) : ∃ A c, v = .slice A xs.length c ∧ xs.length ≤ c ∧ d.C w A xs.length xs := Kd.R_reads (h.hold hi)
theorem Mem.row_C {w0 w : World} {rs : List Res} {α : Type} {d : Kd α} {e : Nat} {A : Option Addr} {n c : Nat} {xs : List α} (h : Mem w0 w rs) (i : Nat) (hi : rs[i]? = some (row d e (.slice A n c) xs)) : d.C w A xs.length xs := (Kd.R_reads' (h.hold hi)).2.2
/-- A store into a block that is known whole. -/
theorem Mem.set {w0 w : World} {rs : List Res} (h : Mem w0 w rs) (i : Nat) {g : Nat} {T : TypeId} {cs : Array Value} (hi : rs[i]? = some (blk g T cs)) (j : Nat) (v : Value) : Mem w0 (w.setCell ⟨g, j, none⟩ v) (rs.set i (blk g T (cs.setIfInBounds j v))) := by
  obtain ⟨f, h1, h2, h3⟩ := h.take1 hi
  refine h3 _ _ rfl rfl rfl (by simp [World.setCell]) (fun k _ hf => Below.heap_setCell w _ v k (fun e => hf (e ▸ h1.2))) ⟨blk_set h1.1 j v, .inl h1.2⟩
/-- A world that grew by new blocks and writes to one row. -/
theorem Mem.grown1 {w0 w w1 : World} {rs : List Res} {α : Type} {d : Kd α} {e : Nat} {v v1 : Value} {xs xs1 : List α} (h : Mem w0 w rs) {i : Nat} (hi : rs[i]? = some (Mx.row d e v xs)) (hg : w.grownBy w1 v.ownBlock)
    (hr : ∀ f : Nat → Prop, d.R e w 0 f v xs → d.R e w1 0 (fun k => f k ∨ w.heap.size ≤ k ∧ k < w1.heap.size) v1 xs1) : Mem w0 w1 (rs.set i (Mx.row d e v1 xs1)) := by
  obtain ⟨f, h1, h2, h3⟩ := h.take1 hi
  exact h3 w1 _ hg.os hg.tape hg.output hg.size (fun k hk hf => hg.block k hk (fun he => hf (h1.1 k he.symm))) (hr f h1)
/-- Some of them, in any order, ahead of the rest. -/
theorem Mem.sel {w0 w : World} {ps F : List Res} (σ : List Nat) (n : Nat) (h : Mem w0 w (ps ++ F)) (hn : ps.length = n) (hσ : (decide σ.Nodup && σ.all (decide <| · < n)) = true) : Mem w0 w (σ.filterMap (fun i => ps[i]?) ++ F) := by
  subst hn
  simp only [Bool.and_eq_true, decide_eq_true_eq, List.all_eq_true] at hσ
  obtain ⟨hnd, hlt⟩ := hσ
  obtain ⟨h1, h2, h3, h4, h5, c, h6⟩ := h
  have hmap : σ.filterMap (fun i => ps[i]?) = σ.map (fun i => ps.getD i emp) := by
    clear hnd
    induction σ with
    | nil => rfl
    | cons a l ih =>
      have ha : ps[a]? = some (ps.getD a emp) := by
        have := hlt a (by simp)
        simp [List.getD, this]
      rw [List.filterMap_cons_some ha, ih (fun x hx => hlt x (by simp [hx])), List.map_cons]
  rw [hmap]
  refine ⟨h1, h2, h3, h4, h5, fun k => if c k < ps.length then (if c k ∈ σ then σ.idxOf (c k) else σ.length + F.length) else σ.length + (c k - ps.length), fun i r hi => ?_⟩
  by_cases hs : i < σ.length
  · rw [List.getElem?_append_left (by simpa using hs), List.getElem?_map, List.getElem?_eq_getElem hs] at hi
    simp only [Option.map_some, Option.some.injEq] at hi
    have hl := hlt σ[i] (List.getElem_mem hs)
    have hr : (ps ++ F)[σ[i]]? = some r := by
      rw [List.getElem?_append_left hl, ← hi]
      simp [List.getD, hl]
    refine r.mono (fun k hk => ⟨hk.1, hk.2.1, ?_⟩) (h6 _ r hr)
    simp only [hk.2.2]
    rw [if_pos hl, if_pos (List.getElem_mem hs)]
    exact hnd.idxOf_getElem i hs
  · rw [List.getElem?_append_right (by simpa using hs)] at hi
    simp only [List.length_map] at hi
    have hlF : i - σ.length < F.length := (List.getElem?_eq_some_iff.1 hi).1
    have hr : (ps ++ F)[ps.length + (i - σ.length)]? = some r := by
      rw [List.getElem?_append_right (by omega)]
      rw [show ps.length + (i - σ.length) - ps.length = i - σ.length by omega]
      exact hi
    refine r.mono (fun k hk => ⟨hk.1, hk.2.1, ?_⟩) (h6 _ r hr)
    simp only [hk.2.2]
    rw [if_neg (by omega)]
    omega
/-- A slice that is read, wherever it lies. -/
def Rd {α : Type} (w0 : World) (R : Res) (d : Kd α) (A : Option Addr) (xs : List α) : Prop := ∀ (w : World) (rs : List Res) (i : Nat), Mem w0 w rs → rs[i]? = some R → d.C w A xs.length xs
theorem Rd.old {α : Type} {w0 : World} {d : Kd α} {A : Option Addr} {xs : List α} (h : d.C w0 A xs.length xs) : Rd w0 emp d A xs := fun _ _ _ hM _ => Kd.C_below h hM.below
theorem Rd.row {α : Type} {w0 : World} {d : Kd α} {e : Nat} {A : Option Addr} {n c : Nat} {xs : List α} : Rd w0 (row d e (.slice A n c) xs) d A xs := fun _ _ i hM hi => hM.row_C i hi
/-- What a callee has made, beside what there was. -/
theorem Mem.trans {w0 w w1 : World} {rs ps : List Res} (h : Mem w0 w rs) (h' : Mem w w1 ps) : Mem w0 w1 (ps ++ rs) := by
  have hb := h'.below
  obtain ⟨h1, h2, h3, h4, h5, c, h6⟩ := h
  obtain ⟨g1, g2, g3, g4, g5, c', g6⟩ := h'
  refine ⟨g1.trans h1, g2.trans h2, g3.trans h3, Nat.le_trans h4 g4, fun k hk => (g5 k (by omega)).trans (h5 k hk), fun k => if k < w.heap.size then ps.length + c k else (if c' k < ps.length then c' k else ps.length + rs.length), fun i r hi => ?_⟩
  by_cases hs : i < ps.length
  · rw [List.getElem?_append_left hs] at hi
    refine r.mono (fun k hk => ⟨by omega, hk.2.1, ?_⟩) (g6 i r hi)
    simp only []
    rw [if_neg (by omega), hk.2.2, if_pos hs]
  · rw [List.getElem?_append_right (by omega)] at hi
    refine r.mono (fun k hk => ⟨hk.1, by omega, ?_⟩) (r.move (fun k hk => g5 k hk.2.1) (h6 _ r hi))
    simp only []
    rw [if_pos hk.2.1, hk.2.2]
    omega
/-- A block just laid out is a row. -/
theorem Mem.lit {w0 w : World} {rs : List Res} {α : Type} (h : Mem w0 w rs) (i : Nat) (d : Kd α) {e : TypeId} {g : Nat} {cs : Array Value} (xs : List α) (hi : rs[i]? = some (blk g e cs)) (hr : Reps (fun x c => ∀ w, d.M w 0 (fun _ => False) x c) d.sz xs cs.toList) (hn : xs.length ≤ 9223372036854775807) :
    Mem w0 w (rs.set i (Mx.row d e (.slice (some ⟨g, 0, none⟩) xs.length xs.length) xs)) := by
  refine h.imp hi _ (fun f hf => ?_)
  refine ⟨fun k hk => ?_, cs.toList, ⟨hr.1, .inr ⟨g, xs.length, cs, rfl, Nat.zero_le _, hf.1, Nat.le_refl _, by unfold maxLen; omega, by have := hr.1; simpa using this, ?_⟩⟩, hr.imp_ (fun p c hp => d.M_mono (fun _ hk => hk.elim) (hp w))⟩
  · have : g = k := by simpa [Value.ownBlock] using hk
    subst this
    exact hf.2
  · rw [List.take_of_length_le]
    rw [hr.1]
    exact Nat.le_refl _
section
variable {P : Program} {ops : Array Oper} {rest : List Oper} {o : Oper} {a : Act} {Q : Exit → Act → World → Prop} {Kc : Act → World → Prop} {α : Type}
/-- append(v, ys...), the elements lead to nothing. -/
theorem Mem.app_step (d : Kd α) {Rr : α → List Value → Prop} {w0 W : World} {rs : List Res} (hM : Mem w0 W rs) (i : Nat) (v : Value) (xs ys : List α) (hw : Region.wanted o (yielded ops a.tmps) = true) (s x : Operand) (t e : TypeId) (z : Value) (bytes : Nat)
    (ho : o.op = .call { callee := .builtin .append, args := #[s, x], argTypes := #[t, t] })
    (ht : P.underlying t = some (.slice e)) (hinfo : (P.info? e).map (fun i => (i.zero, i.size, i.bytes)) = some (some z, d.sz, bytes)) (hz : z.cells.size = d.sz) (hs0 : 0 < d.sz) (hb0 : 0 < bytes)
    (A : Option Addr) (m c : Nat) (hs : a.eval s = v) (hx : a.eval x = .slice A m c)
    (hi : rs[i]? = some (Mx.row d e v xs)) (HR : ReadsRow Rr d.sz W A m ys) (hKM : ∀ x cs, Rr x cs → d.M W 0 (fun _ => False) x cs) (hl : (xs.length + m) * bytes ≤ 140737488355328)
    (h : ∀ v1 w1, Mem w0 w1 (rs.set i (Mx.row d e v1 (xs ++ ys))) → Kc (a.put o.dst v1) w1) :
    if Region.wanted o (yielded ops a.tmps) = true then Oper.wp P o a W Kc Q else Kc (a.put o.dst undef) W := by
  obtain ⟨f, h1, h2, h3⟩ := hM.take1 hi
  refine Kd.R_append_rows_step d (w0 := W) 0 hw s x t e z bytes ho ht hinfo hz hs0 hb0 v xs ys A m c (fun k => f k ∨ W.heap.size ≤ k) (fun _ => False) hs hx (Kd.R_mono h1 (fun _ hk => .inl hk)) HR hKM (fun _ hk => hk.elim) (fun _ hk => .inr hk) (Below.refl _ _) (Nat.zero_le _) hl ?_
  intro v1 w1 hr hb hg _
  refine h v1 w1 (h3 w1 _ hg.os hg.tape hg.output hg.size (fun k hk hf => hg.block k hk (fun he => hf (h1.1 k he.symm))) ?_)
  exact Kd.R_mono (Kd.R_bound hr) (fun k hk => hk.1.imp id (fun hh => ⟨hh, hk.2.2.1⟩))
theorem Mem.app (d : Kd α) {Rr : α → List Value → Prop} {w0 W : World} {rs : List Res} (hM : Mem w0 W rs) (i : Nat) (v : Value) (xs ys : List α) (hgd : o.guard = none) (s x : Operand) (t e : TypeId) (z : Value) (bytes : Nat)
    (ho : o.op = .call { callee := .builtin .append, args := #[s, x], argTypes := #[t, t] })
    (ht : P.underlying t = some (.slice e)) (hinfo : (P.info? e).map (fun i => (i.zero, i.size, i.bytes)) = some (some z, d.sz, bytes)) (hz : z.cells.size = d.sz) (hs0 : 0 < d.sz) (hb0 : 0 < bytes)
    (A : Option Addr) (m c : Nat) (hs : a.eval s = v) (hx : a.eval x = .slice A m c)
    (hi : rs[i]? = some (Mx.row d e v xs)) (HR : ReadsRow Rr d.sz W A m ys) (hKM : ∀ x cs, Rr x cs → d.M W 0 (fun _ => False) x cs) (hl : (xs.length + m) * bytes ≤ 140737488355328)
    (h : ∀ v1 w1, Mem w0 w1 (rs.set i (Mx.row d e v1 (xs ++ ys))) → wpList P ops Q rest (a.put o.dst v1) w1) : wpList P ops Q (o :: rest) a W := by
  obtain ⟨f, h1, h2, h3⟩ := hM.take1 hi
  refine Kd.R_append_rows d (w0 := W) 0 hgd s x t e z bytes ho ht hinfo hz hs0 hb0 v xs ys A m c (fun k => f k ∨ W.heap.size ≤ k) (fun _ => False) hs hx (Kd.R_mono h1 (fun _ hk => .inl hk)) HR hKM (fun _ hk => hk.elim) (fun _ hk => .inr hk) (Below.refl _ _) (Nat.zero_le _) hl ?_
  intro v1 w1 hr hb hg _
  refine h v1 w1 (h3 w1 _ hg.os hg.tape hg.output hg.size (fun k hk hf => hg.block k hk (fun he => hf (h1.1 k he.symm))) ?_)
  exact Kd.R_mono (Kd.R_bound hr) (fun k hk => hk.1.imp id (fun hh => ⟨hh, hk.2.2.1⟩))
/-- A literal row of one element. -/
theorem reads_one {d : Kd α} {W : World} {g : Nat} {e : TypeId} {cs : List Value} (p : α) (hb : W.heap[g]? = some (.cells cs.toArray e (0, 0))) (hcs : cs.length = d.sz) : ReadsRow (fun x c => x = p ∧ c = cs) d.sz W (some ⟨g, 0, none⟩) 1 [p] := by
  refine ⟨rfl, by omega, fun _ => ⟨_, rfl, fun j q hj => ?_⟩⟩
  cases j with
  | zero =>
    obtain rfl : p = q := by simpa using hj
    refine ⟨cs, hcs, ⟨rfl, rfl⟩, fun k u hu => ?_⟩
    rw [Nat.zero_mul, Nat.zero_add, add_plain, blk_cell hb]
    simpa using hu
  | succ j => simp at hj
end
end Go.Proofs.Ytookpmdgoednfaa.Mx
namespace Go.Proofs.Ytookpmdgoednfaa.Mx
open Go.RowKit YtookpmdgoednfaaW.PrintWords YtookpmdgoednfaaW.PrintLast YtookpmdgoednfaaW.PrintMore
variable {P : Program}
theorem zeroCells_one (z : Value) : (Builtin.zeroCells z.cells 1).toList = z.cells.toList := by
  unfold Builtin.zeroCells
  apply List.ext_getElem?
  intro i
  by_cases h : i < z.cells.size
  · simp [h, Nat.mod_eq_of_lt h]
  · simp [h]
theorem run_clear_one (w : World) (t e ty : TypeId) (z : Value) (ht : P.underlying t = some (.slice e)) (hv : ∀ w, (zeroValue e).run P w = .ok z w) (h1 : ∀ v ∈ z.cells.toList, v.oneCell' = true) (b o c : Nat)
    (hc : ∀ j, j < z.cells.size → (w.cell? ⟨b, o + j, none⟩).isSome = true) (hf : ∀ j, j < z.cells.size → w.frozen? ⟨b, o + j, none⟩ = false) :
    (Builtin.clear_ #[t] ty #[.slice (some ⟨b, o, none⟩) 1 c]).run P w = .ok (.tuple #[]) (w.setCells b o z.cells.toList) := by
  have hst := run_storeCells_cells (P := P) b o z.cells.toList 0 w (by simpa using hc) (by simpa using hf) h1
  simp only [Nat.add_zero] at hst
  simp [Builtin.clear_, run_underlying ht, hv, zeroCells_one, hst]
/-- What lies behind a row's elements may be set. -/
theorem R_tail {α : Type} (d : Kd α) {W : World} {base e g n c : Nat} {ok : Nat → Prop} {xs : List α} (HO : d.R e W base ok (.slice (some ⟨g, 0, none⟩) n c) xs) (hn : n < c) (zs : List Value) (hz : zs.length = d.sz) :
    (∀ j, j < d.sz → (W.cell? ⟨g, n * d.sz + j, none⟩).isSome = true ∧ W.frozen? ⟨g, n * d.sz + j, none⟩ = false) ∧
    d.R e (W.setCells g (n * d.sz) zs) base ok (.slice (some ⟨g, 0, none⟩) n c) xs ∧ W.grownBy (W.setCells g (n * d.sz) zs) (some g) := by
  obtain ⟨hnx, hnc, _⟩ := Kd.R_reads' HO
  obtain ⟨hok, inner, hown, hr⟩ := HO
  have hin : inner.length = n * d.sz := by rw [hr.1, hnx]
  rcases hown.2 with ⟨hv, _⟩ | ⟨g', cap', cur, hv, hb, hh, hl, hcm, hcs, htake⟩
  · cases hv
  injection hv with ha _ hc
  injection ha with ha
  injection ha with hg
  subst hg; subst hc
  have hsz : (n + 1) * d.sz ≤ c * d.sz := Nat.mul_le_mul_right _ hn
  have hsz2 : (n + 1) * d.sz = n * d.sz + d.sz := Nat.succ_mul _ _
  have hfit : n * d.sz + zs.length ≤ cur.size := by omega
  obtain ⟨cur', h3, h4, h5⟩ := setCells_row zs (n * d.sz) W cur hh hfit
  obtain ⟨s1, s2, s3, s4⟩ := setCells_same g zs (n * d.sz) W
  have hfar : ∀ k', k' ≠ g → (W.setCells g (n * d.sz) zs).heap[k']? = W.heap[k']? := fun k' hk' => setCells_far zs _ k' hk'
  have hgo : some g = (Value.slice (some ⟨g, 0, none⟩) n c).ownBlock := by simp [Value.ownBlock]
  refine ⟨fun j hj => ⟨?_, blk_frozen hh _⟩, ⟨hok, inner, ⟨hown.1, .inr ⟨g, c, cur', by rw [hnx], hb, h3, hl, hcm, by rw [h4, hcs], ?_⟩⟩, ?_⟩, ⟨s1, s2, s3, by rw [s4]; exact Nat.le_refl _, fun k' _ hk' => hfar k' (fun he => hk' (by rw [he]))⟩⟩
  · rw [cell_of_row W g _ cur e (0, 0) hh]
    simp
    omega
  · rw [h5, ← htake, ← hnx, List.append_assoc, List.take_append_of_le_length (by rw [List.length_take, Array.length_toList]; omega), List.take_take, Nat.min_self]
  · exact hr.imp_ (fun p q hp => d.M_move (fun k' hk' => hfar k' (fun he => hk'.2 (by rw [← hgo, he]))) hp)
section
variable {ops : Array Oper} {rest : List Oper} {o : Oper} {a : Act} {Q : Exit → Act → World → Prop} {Kc : Act → World → Prop}
theorem Mem.delete_step {α : Type} (d : Kd α) {w0 W : World} {rs : List Res} (hM : Mem w0 W rs) (i : Nat) (hw : Region.wanted o (yielded ops a.tmps) = true) (s x : Operand) (t e : TypeId) (ho : o.op = .call { callee := .builtin .append, args := #[s, x], argTypes := #[t, t] })
    (ht : P.underlying t = some (.slice e)) (hinfo : (P.info? e).map (·.size) = some d.sz) {g n c k m c2 : Nat} {A : Option Addr} {xs : List α}
    (hs : a.eval s = .slice (some ⟨g, 0, none⟩) k c) (hx : a.eval x = .slice A m c2) (hA : A = if c = k + 1 then some ⟨g, 0, none⟩ else (some (⟨g, 0, none⟩ : Addr)).map (·.add ((k + 1) * d.sz))) (hm : m = n - (k + 1))
    (hi : rs[i]? = some (Mx.row d e (.slice (some ⟨g, 0, none⟩) n c) xs)) (hk : k < n)
    (h : ∀ w1, Mem w0 w1 (rs.set i (Mx.row d e (.slice (some ⟨g, 0, none⟩) (n - 1) c) (xs.eraseIdx k))) → Kc (a.put o.dst (.slice (some ⟨g, 0, none⟩) (n - 1) c)) w1) :
    if Region.wanted o (yielded ops a.tmps) = true then Oper.wp P o a W Kc Q else Kc (a.put o.dst undef) W := by
  obtain ⟨f, h1, h2, h3⟩ := hM.take1 hi
  refine Kd.R_delete_step d (w0 := W) 0 hw s x t e ho ht hinfo hs hx hA hm h1 hk (Below.refl _ _) (Nat.zero_le _) ?_
  intro w1 hr _ hg
  refine h w1 (h3 w1 _ hg.os hg.tape hg.output hg.size (fun k hk hf => hg.block k hk (fun he => hf (h1.1 k (by simpa [Value.ownBlock] using he.symm)))) ?_)
  exact Kd.R_mono hr (fun _ hk => .inl hk)
theorem Mem.clear_run {α : Type} (d : Kd α) {w0 W : World} {rs : List Res} (hM : Mem w0 W rs) (i : Nat) (t e ty : TypeId) (z : Value) (ht : P.underlying t = some (.slice e)) (hv : ∀ w, (zeroValue e).run P w = .ok z w) (h1 : ∀ v ∈ z.cells.toList, v.oneCell' = true) (hz : z.cells.size = d.sz) {g n c c2 : Nat} {xs : List α}
    (hi : rs[i]? = some (Mx.row d e (.slice (some ⟨g, 0, none⟩) n c) xs)) (hn : n < c) (off : Nat) (ho : off = n * d.sz) :
    ∃ w1, (Builtin.clear_ #[t] ty #[.slice (some ⟨g, off, none⟩) 1 c2]).run P W = .ok (.tuple #[]) w1 ∧ Mem w0 w1 rs := by
  subst ho
  obtain ⟨hc, _, hg⟩ := R_tail d (hM.hold hi) hn z.cells.toList (by simpa using hz)
  refine ⟨_, run_clear_one W t e ty z ht hv h1 g _ c2 (fun j hj => (hc j (by omega)).1) (fun j hj => (hc j (by omega)).2), ?_⟩
  have := hM.grown1 hi (v1 := .slice (some ⟨g, 0, none⟩) n c) (xs1 := xs) (w1 := W.setCells g (n * d.sz) z.cells.toList) (by simpa [Value.ownBlock] using hg) (fun f hf => Kd.R_mono (R_tail d hf hn z.cells.toList (by simpa using hz)).2.1 (fun _ hk => .inl hk))
  have e : rs.set i (Mx.row d e (.slice (some ⟨g, 0, none⟩) n c) xs) = rs := by
    apply List.ext_getElem?
    intro j
    by_cases h : j = i
    · subst h
      rw [List.getElem?_set_self (List.getElem?_eq_some_iff.1 hi).1, hi]
    · rw [List.getElem?_set_ne (fun he => h he.symm)]
  rw [e] at this
  exact this
end
end Go.Proofs.Ytookpmdgoednfaa.Mx
-- PRINTED BY print.sh 35421559b90ae4d0a3588c463048766b98c2df88dd9212a6774a882060cdf62d: not written by this session
/-! ### 55. Reps told from the front, no append: for rows of one-cell elements and of wider ones -/
namespace Go.Proofs.YtookpmdgoednfaaW.PrintWords
/-- One cell an element. -/
theorem Reps.one {α : Type} {R : α → List Value → Prop} {ps : List α} {cs : List Value} {p : α} {v : Value} (hp : R p [v]) (h : Reps R 1 ps cs) : Reps R 1 (p :: ps) (v :: cs) := by
  refine ⟨by simp [h.1], fun j q hq => ?_⟩
  cases j with
  | zero =>
    simp only [List.getElem?_cons_zero, Option.some.injEq] at hq
    subst hq
    simpa using hp
  | succ j =>
    simp only [List.getElem?_cons_succ] at hq
    have h1 := h.2 j q hq
    simpa [Nat.mul_one] using h1
/-- More cells an element: told apart by the cells' list. -/
theorem Reps.front {α : Type} {R : α → List Value → Prop} {size : Nat} {ps : List α} {cs c all : List Value} {p : α} (hp : R p c) (hc : c.length = size) (h : Reps R size ps cs) (ha : c ++ cs = all) : Reps R size (p :: ps) all := by
  subst ha
  refine ⟨by rw [List.length_append, hc, h.1, List.length_cons, Nat.succ_mul, Nat.add_comm], fun j q hq => ?_⟩
  cases j with
  | zero =>
    simp only [List.getElem?_cons_zero, Option.some.injEq] at hq
    subst hq
    rw [Nat.zero_mul, List.drop_zero, List.take_append_of_le_length (by omega), List.take_of_length_le (by omega)]
    exact hp
  | succ j =>
    simp only [List.getElem?_cons_succ] at hq
    have h1 := h.2 j q hq
    rw [Nat.succ_mul, List.drop_append, List.drop_of_length_le (by rw [hc]; exact Nat.le_add_left _ _), List.nil_append, hc, Nat.add_sub_cancel]
    exact h1
theorem Reps.c2 {α : Type} {R : α → List Value → Prop} {ps : List α} {cs : List Value} {p : α} {va vb : Value} (hp : R p [va, vb]) (h : Reps R 2 ps cs) : Reps R 2 (p :: ps) (va :: vb :: cs) := Reps.front hp rfl h rfl
theorem Reps.c3 {α : Type} {R : α → List Value → Prop} {ps : List α} {cs : List Value} {p : α} {va vb vc : Value} (hp : R p [va, vb, vc]) (h : Reps R 3 ps cs) : Reps R 3 (p :: ps) (va :: vb :: vc :: cs) := Reps.front hp rfl h rfl
theorem Reps.c4 {α : Type} {R : α → List Value → Prop} {ps : List α} {cs : List Value} {p : α} {va vb vc vd : Value} (hp : R p [va, vb, vc, vd]) (h : Reps R 4 ps cs) : Reps R 4 (p :: ps) (va :: vb :: vc :: vd :: cs) := Reps.front hp rfl h rfl
theorem Reps.c5 {α : Type} {R : α → List Value → Prop} {ps : List α} {cs : List Value} {p : α} {va vb vc vd ve : Value} (hp : R p [va, vb, vc, vd, ve]) (h : Reps R 5 ps cs) : Reps R 5 (p :: ps) (va :: vb :: vc :: vd :: ve :: cs) := Reps.front hp rfl h rfl
theorem Reps.c6 {α : Type} {R : α → List Value → Prop} {ps : List α} {cs : List Value} {p : α} {va vb vc vd ve vf : Value} (hp : R p [va, vb, vc, vd, ve, vf]) (h : Reps R 6 ps cs) : Reps R 6 (p :: ps) (va :: vb :: vc :: vd :: ve :: vf :: cs) := Reps.front hp rfl h rfl
theorem Reps.c7 {α : Type} {R : α → List Value → Prop} {ps : List α} {cs : List Value} {p : α} {va vb vc vd ve vf vg : Value} (hp : R p [va, vb, vc, vd, ve, vf, vg]) (h : Reps R 7 ps cs) : Reps R 7 (p :: ps) (va :: vb :: vc :: vd :: ve :: vf :: vg :: cs) := Reps.front hp rfl h rfl
theorem Reps.c8 {α : Type} {R : α → List Value → Prop} {ps : List α} {cs : List Value} {p : α} {va vb vc vd ve vf vg vh : Value} (hp : R p [va, vb, vc, vd, ve, vf, vg, vh]) (h : Reps R 8 ps cs) : Reps R 8 (p :: ps) (va :: vb :: vc :: vd :: ve :: vf :: vg :: vh :: cs) := Reps.front hp rfl h rfl
theorem Reps.c9 {α : Type} {R : α → List Value → Prop} {ps : List α} {cs : List Value} {p : α} {va vb vc vd ve vf vg vh vi : Value} (hp : R p [va, vb, vc, vd, ve, vf, vg, vh, vi]) (h : Reps R 9 ps cs) : Reps R 9 (p :: ps) (va :: vb :: vc :: vd :: ve :: vf :: vg :: vh :: vi :: cs) := Reps.front hp rfl h rfl
theorem Reps.c10 {α : Type} {R : α → List Value → Prop} {ps : List α} {cs : List Value} {p : α} {va vb vc vd ve vf vg vh vi vj : Value} (hp : R p [va, vb, vc, vd, ve, vf, vg, vh, vi, vj]) (h : Reps R 10 ps cs) : Reps R 10 (p :: ps) (va :: vb :: vc :: vd :: ve :: vf :: vg :: vh :: vi :: vj :: cs) := Reps.front hp rfl h rfl
end Go.Proofs.YtookpmdgoednfaaW.PrintWords
