/- Texts laid together: Mem, Ty. No condition. -/
import Derived.WalkKit
import Derived.Test.YtggbjokhniigkaaYGz1
set_option linter.unusedVariables false
set_option linter.unusedSimpArgs false
set_option maxRecDepth 100000
set_option maxHeartbeats 8000000
namespace Go.Proofs.Ytggbjokhniigkaa.Mx
open Go.RowKit YtggbjokhniigkaaW.PrintWords YtggbjokhniigkaaW.PrintLast YtggbjokhniigkaaW.PrintMore
theorem add_zero_ (ad : Addr) : ad.add 0 = ad := by unfold Addr.add; simp
theorem add_succ_ (ad : Addr) (j : Nat) : ad.add (j + 1) = ⟨ad.block, ad.off + (j + 1), none⟩ := by unfold Addr.add; simp
/-- What holds of a world, told of some blocks alone. -/
structure Res where
  holds : World → (Nat → Prop) → Prop
  move : ∀ {w w' : World} {fp : Nat → Prop}, (∀ k, fp k → w'.heap[k]? = w.heap[k]?) → holds w fp → holds w' fp
  mono : ∀ {w : World} {fp fp' : Nat → Prop}, (∀ k, fp k → fp' k) → holds w fp → holds w fp'
/-- One block, known whole. -/
def blk (g : Nat) (T : TypeId) (cs : Array Value) : Res where
  holds w fp := w.heap[g]? = some (.cells cs T (0, 0)) ∧ fp g
  move hm h := ⟨(hm g h.2).trans h.1, h.2⟩
  mono hm h := ⟨h.1, hm g h.2⟩
/-- A row of elements with all that they lead to. -/
def row {α : Type} (d : Kd α) (e : Nat) (v : Value) (xs : List α) : Res where
  holds w fp := d.R e w 0 fp v xs
  move hm h := Kd.R_move h hm
  mono hm h := Kd.R_mono h hm
/-- An element's cells with all that they lead to. -/
def el {α : Type} (d : Kd α) (x : α) (cs : List Value) : Res where
  holds w fp := d.M w 0 fp x cs
  move hm h := d.M_move hm h
  mono hm h := d.M_mono hm h
def emp : Res where
  holds _ _ := True
  move _ h := h
  mono _ h := h
/-- The world since w0: what was there is as it was; what has come lies in resources apart. -/
structure Mem (w0 w : World) (rs : List Res) : Prop where
  os : w.os = w0.os
  tape : w.tape = w0.tape
  output : w.output = w0.output
  size : w0.heap.size ≤ w.heap.size
  old : ∀ k, k < w0.heap.size → w.heap[k]? = w0.heap[k]?
  own : ∃ c : Nat → Nat, ∀ (i : Nat) (r : Res), rs[i]? = some r → r.holds w (fun k => w0.heap.size ≤ k ∧ k < w.heap.size ∧ c k = i)
theorem Mem.nil (w : World) : Mem w w [] := ⟨rfl, rfl, rfl, Nat.le_refl _, fun _ _ => rfl, fun _ => 0, fun i r h => by simp at h⟩
theorem Mem.below {w0 w : World} {rs : List Res} (h : Mem w0 w rs) : Below w0.heap.size w0 w := ⟨h.os, h.tape, h.output, h.size, h.old⟩
theorem Mem.same {w0 w w1 : World} {rs : List Res} (h : Mem w0 w rs) (hh : w1.heap = w.heap) (ho : w1.os = w.os) (ht : w1.tape = w.tape) (hp : w1.output = w.output) : Mem w0 w1 rs := by
  obtain ⟨h1, h2, h3, h4, h5, c, h6⟩ := h
  refine ⟨ho.trans h1, ht.trans h2, hp.trans h3, by rw [hh]; exact h4, by rw [hh]; exact h5, c, fun i r hr => ?_⟩
  rw [hh]
  exact r.move (fun k _ => by rw [hh]) (h6 i r hr)
theorem Mem.drew {w0 w : World} {rs : List Res} (h : Mem w0 w rs) : Mem w0 w.drew rs := h.same rfl rfl rfl rfl
theorem Mem.drewN {w0 w : World} {rs : List Res} (h : Mem w0 w rs) (n : Nat) : Mem w0 (w.drewN n) rs := h.same rfl rfl rfl rfl
theorem Mem.drawn {w0 w w1 : World} {rs : List Res} (h : Mem w0 w rs) (hd : Drawn0 w w1) : Mem w0 w1 rs := by
  obtain ⟨n, rfl⟩ := hd.out
  exact h.drewN n
/-- What was there is as it was. -/
theorem Mem.grow {w0 w w1 : World} {rs : List Res} (h : Mem w0 w rs) (hb : Below w.heap.size w w1) : Mem w0 w1 rs := by
  obtain ⟨h1, h2, h3, h4, h5, c, h6⟩ := h
  refine ⟨hb.os.trans h1, hb.tape.trans h2, hb.output.trans h3, Nat.le_trans h4 hb.size, fun k hk => (hb.block k (by omega)).trans (h5 k hk), c, fun i r hr => ?_⟩
  refine r.mono (fun k hk => ?_) (r.move (fun k hk => ?_) (h6 i r hr))
  · exact ⟨hk.1, Nat.lt_of_lt_of_le hk.2.1 hb.size, hk.2.2⟩
  · exact hb.block k hk.2.1
/-- Something new. -/
theorem Mem.cons {w0 w w1 : World} {rs : List Res} (h : Mem w0 w rs) (hb : Below w.heap.size w w1) {r : Res} (hr : r.holds w1 (fun k => w.heap.size ≤ k ∧ k < w1.heap.size)) : Mem w0 w1 (r :: rs) := by
  obtain ⟨h1, h2, h3, h4, h5, c, h6⟩ := h
  refine ⟨hb.os.trans h1, hb.tape.trans h2, hb.output.trans h3, Nat.le_trans h4 hb.size, fun k hk => (hb.block k (by omega)).trans (h5 k hk), fun k => if k < w.heap.size then c k + 1 else 0, fun i q hq => ?_⟩
  cases i with
  | zero =>
    have : q = r := by simpa using hq.symm
    subst this
    refine q.mono (fun k hk => ⟨by omega, hk.2, ?_⟩) hr
    simp only []
    rw [if_neg (by omega)]
  | succ i =>
    have hq' : rs[i]? = some q := by simpa using hq
    refine q.mono (fun k hk => ?_) (q.move (fun k hk => hb.block k hk.2.1) (h6 i q hq'))
    refine ⟨hk.1, Nat.lt_of_lt_of_le hk.2.1 hb.size, ?_⟩
    simp only []
    rw [if_pos hk.2.1, hk.2.2]
theorem Mem.cons_emp {w0 w : World} {rs : List Res} (h : Mem w0 w rs) : Mem w0 w (emp :: rs) := h.cons (Below.refl _ _) trivial
theorem Mem.alloc {w0 w : World} {rs : List Res} (h : Mem w0 w rs) (cs : Array Value) (T : TypeId) : Mem w0 (w.alloc (.cells cs T (0, 0))) (blk w.heap.size T cs :: rs) := by
  refine h.cons (below_alloc (Below.refl _ _) _) ⟨?_, Nat.le_refl _, by simp⟩
  show (w.heap.push _)[w.heap.size]? = _
  simp
theorem Mem.allocAt {w0 w : World} {rs : List Res} (h : Mem w0 w rs) (cs : Array Value) (T : TypeId) (n : Nat) (hn : w.heap.size = n) : Mem w0 (w.alloc (.cells cs T (0, 0))) (blk n T cs :: rs) := by
  subst hn
  exact h.alloc cs T
/-- One of them is turned (and may take what is new). -/
theorem Mem.take1 {w0 w : World} {rs : List Res} (h : Mem w0 w rs) {i : Nat} {r : Res} (hi : rs[i]? = some r) :
    ∃ f : Nat → Prop, r.holds w f ∧ (∀ k, f k → w0.heap.size ≤ k ∧ k < w.heap.size) ∧
      ∀ (w1 : World) (r1 : Res), w1.os = w.os → w1.tape = w.tape → w1.output = w.output → w.heap.size ≤ w1.heap.size → (∀ k, k < w.heap.size → ¬ f k → w1.heap[k]? = w.heap[k]?) →
        r1.holds w1 (fun k => f k ∨ w.heap.size ≤ k ∧ k < w1.heap.size) → Mem w0 w1 (rs.set i r1) := by
  obtain ⟨h1, h2, h3, h4, h5, c, h6⟩ := h
  refine ⟨_, h6 i r hi, fun k hk => ⟨hk.1, hk.2.1⟩, fun w1 r1 ho ht hp hs hk hr => ?_⟩
  refine ⟨ho.trans h1, ht.trans h2, hp.trans h3, Nat.le_trans h4 hs, fun k hlt => (hk k (by omega) (fun hf => by omega)).trans (h5 k hlt), fun k => if k < w.heap.size then c k else i, fun j q hq => ?_⟩
  by_cases hj : j = i
  · subst hj
    have hlt : j < rs.length := (List.getElem?_eq_some_iff.1 hi).1
    have : q = r1 := by rw [List.getElem?_set_self hlt] at hq; exact (Option.some.inj hq).symm
    subst this
    refine q.mono (fun k hf => ?_) hr
    rcases hf with hf | hf
    · refine ⟨hf.1, by omega, ?_⟩
      simp only []
      rw [if_pos hf.2.1]
      exact hf.2.2
    · refine ⟨by omega, hf.2, ?_⟩
      simp only []
      rw [if_neg (by omega)]
  · rw [List.getElem?_set_ne (fun e => hj e.symm)] at hq
    refine q.mono (fun k hf => ?_) (q.move (fun k hf => ?_) (h6 j q hq))
    · refine ⟨hf.1, by omega, ?_⟩
      simp only []
      rw [if_pos hf.2.1]
      exact hf.2.2
    · exact hk k hf.2.1 (fun hg => hj (by rw [← hf.2.2, hg.2.2]))
/-- One of them takes another one in. -/
theorem Mem.take2 {w0 w : World} {rs : List Res} (h : Mem w0 w rs) {i j : Nat} {r q : Res} (hi : rs[i]? = some r) (hj : rs[j]? = some q) (hij : i ≠ j) :
    ∃ f g : Nat → Prop, r.holds w f ∧ q.holds w g ∧ (∀ k, f k → w0.heap.size ≤ k ∧ k < w.heap.size) ∧ (∀ k, g k → w0.heap.size ≤ k ∧ k < w.heap.size) ∧ (∀ k, f k → ¬ g k) ∧
      ∀ (w1 : World) (r1 : Res), w1.os = w.os → w1.tape = w.tape → w1.output = w.output → w.heap.size ≤ w1.heap.size → (∀ k, k < w.heap.size → ¬ f k → ¬ g k → w1.heap[k]? = w.heap[k]?) →
        r1.holds w1 (fun k => f k ∨ g k ∨ w.heap.size ≤ k ∧ k < w1.heap.size) → Mem w0 w1 ((rs.set i r1).set j emp) := by
  obtain ⟨h1, h2, h3, h4, h5, c, h6⟩ := h
  refine ⟨_, _, h6 i r hi, h6 j q hj, fun k hk => ⟨hk.1, hk.2.1⟩, fun k hk => ⟨hk.1, hk.2.1⟩, fun k hk hg => hij (by rw [← hk.2.2, hg.2.2]), fun w1 r1 ho ht hp hs hk hr => ?_⟩
  refine ⟨ho.trans h1, ht.trans h2, hp.trans h3, Nat.le_trans h4 hs, fun k hlt => (hk k (by omega) (fun hf => by omega) (fun hf => by omega)).trans (h5 k hlt), fun k => if k < w.heap.size then (if c k = j then i else c k) else i, fun l p hl => ?_⟩
  by_cases hlj : l = j
  · subst hlj
    have hlt : l < (rs.set i r1).length := by rw [List.length_set]; exact (List.getElem?_eq_some_iff.1 hj).1
    have : p = emp := by rw [List.getElem?_set_self hlt] at hl; exact (Option.some.inj hl).symm
    subst this
    trivial
  · rw [List.getElem?_set_ne (fun e => hlj e.symm)] at hl
    by_cases hli : l = i
    · subst hli
      have hlt : l < rs.length := (List.getElem?_eq_some_iff.1 hi).1
      have : p = r1 := by rw [List.getElem?_set_self hlt] at hl; exact (Option.some.inj hl).symm
      subst this
      refine p.mono (fun k hf => ?_) hr
      rcases hf with hf | hf | hf
      · refine ⟨hf.1, by omega, ?_⟩
        simp only []
        rw [if_pos hf.2.1, if_neg (by rw [hf.2.2]; exact hij)]
        exact hf.2.2
      · refine ⟨hf.1, by omega, ?_⟩
        simp only []
        rw [if_pos hf.2.1, if_pos hf.2.2]
      · refine ⟨by omega, hf.2, ?_⟩
        simp only []
        rw [if_neg (by omega)]
    · rw [List.getElem?_set_ne (fun e => hli e.symm)] at hl
      refine p.mono (fun k hf => ?_) (p.move (fun k hf => ?_) (h6 l p hl))
      · refine ⟨hf.1, by omega, ?_⟩
        simp only []
        rw [if_pos hf.2.1, if_neg (by rw [hf.2.2]; exact hlj)]
        exact hf.2.2
      · exact hk k hf.2.1 (fun hg => hli (by rw [← hf.2.2, hg.2.2])) (fun hg => hlj (by rw [← hf.2.2, hg.2.2]))
theorem Mem.imp {w0 w : World} {rs : List Res} (h : Mem w0 w rs) {i : Nat} {r : Res} (hi : rs[i]? = some r) (r1 : Res) (hr : ∀ f, r.holds w f → r1.holds w f) : Mem w0 w (rs.set i r1) := by
  obtain ⟨f, h1, _, h3⟩ := h.take1 hi
  exact h3 w r1 rfl rfl rfl (Nat.le_refl _) (fun _ _ _ => rfl) (r1.mono (fun k hk => .inl hk) (hr _ h1))
theorem Mem.hold {w0 w : World} {rs : List Res} (h : Mem w0 w rs) {i : Nat} {r : Res} (hi : rs[i]? = some r) : r.holds w (fun k => w0.heap.size ≤ k ∧ k < w.heap.size) := by
  obtain ⟨f, h1, h2, _⟩ := h.take1 hi
  exact r.mono h2 h1
theorem Mem.blk_at {w0 w : World} {rs : List Res} (h : Mem w0 w rs) (i : Nat) {g : Nat} {T : TypeId} {cs : Array Value} (hi : rs[i]? = some (blk g T cs)) : w.heap[g]? = some (.cells cs T (0, 0)) := (h.hold hi).1
theorem Mem.row_at {w0 w : World} {rs : List Res} {α : Type} {d : Kd α} {e : Nat} {v : Value} {xs : List α} (h : Mem w0 w rs) (i : Nat) (hi : rs[i]? = some (row d e v xs)) : ∃ A c, v = .slice A xs.length c ∧ xs.length ≤ c ∧ d.C w A xs.length xs := Kd.R_reads (h.hold hi)
theorem Mem.row_C {w0 w : World} {rs : List Res} {α : Type} {d : Kd α} {e : Nat} {A : Option Addr} {n c : Nat} {xs : List α} (h : Mem w0 w rs) (i : Nat) (hi : rs[i]? = some (row d e (.slice A n c) xs)) : d.C w A xs.length xs := (Kd.R_reads' (h.hold hi)).2.2
/-- A store into a block that is known whole. -/
theorem Mem.set {w0 w : World} {rs : List Res} (h : Mem w0 w rs) (i : Nat) {g : Nat} {T : TypeId} {cs : Array Value} (hi : rs[i]? = some (blk g T cs)) (j : Nat) (v : Value) : Mem w0 (w.setCell ⟨g, j, none⟩ v) (rs.set i (blk g T (cs.setIfInBounds j v))) := by
  obtain ⟨f, h1, h2, h3⟩ := h.take1 hi
  refine h3 _ _ rfl rfl rfl (by simp [World.setCell]) (fun k _ hf => Below.heap_setCell w _ v k (fun e => hf (e ▸ h1.2))) ⟨blk_set h1.1 j v, .inl h1.2⟩
/-- All cells of a block that is known whole. -/
theorem Mem.setRow {w0 w : World} {rs : List Res} (h : Mem w0 w rs) (i : Nat) {g : Nat} {T : TypeId} {cs : Array Value} (hi : rs[i]? = some (blk g T cs)) (vs : List Value) (hn : vs.length = cs.size) : Mem w0 (w.setCells g 0 vs) (rs.set i (blk g T vs.toArray)) := by
  obtain ⟨f, h1, h2, h3⟩ := h.take1 hi
  obtain ⟨e1, e2, e3, e4⟩ := setCells_same g vs 0 w
  refine h3 _ _ e1 e2 e3 (Nat.le_of_eq e4.symm) (fun k _ hf => setCells_far vs 0 k (fun e => hf (e ▸ h1.2))) ⟨?_, .inl h1.2⟩
  obtain ⟨cur', g1, g2, g3⟩ := setCells_row vs 0 w cs h1.1 (by omega)
  have : cur' = vs.toArray := by
    apply Array.toList_inj.1
    rw [g3, hn]
    simp
  rw [← this]
  exact g1
/-- A world that grew by new blocks and writes to one row. -/
theorem Mem.grown1 {w0 w w1 : World} {rs : List Res} {α : Type} {d : Kd α} {e : Nat} {v v1 : Value} {xs xs1 : List α} (h : Mem w0 w rs) {i : Nat} (hi : rs[i]? = some (Mx.row d e v xs)) (hg : w.grownBy w1 v.ownBlock)
    (hr : ∀ f : Nat → Prop, d.R e w 0 f v xs → d.R e w1 0 (fun k => f k ∨ w.heap.size ≤ k ∧ k < w1.heap.size) v1 xs1) : Mem w0 w1 (rs.set i (Mx.row d e v1 xs1)) := by
  obtain ⟨f, h1, h2, h3⟩ := h.take1 hi
  exact h3 w1 _ hg.os hg.tape hg.output hg.size (fun k hk hf => hg.block k hk (fun he => hf (h1.1 k he.symm))) (hr f h1)
/-- A row of numbers that is not empty: where it lies, what its cells hold, what a store leaves. -/
theorem Mem.int_form {w0 w : World} {rs : List Res} {k : IntKind} {e : Nat} {v : Value} {xs : List Int} (h : Mem w0 w rs) (i : Nat) (hi : rs[i]? = some (Mx.row (Kd.int k) e v xs)) (hp : 0 < xs.length) : ∃ g cap, v = .slice (some ⟨g, 0, none⟩) xs.length cap ∧ g < w.heap.size := by
  obtain ⟨g, cap, hv, _, hl, _⟩ := Kd.R_form (h.hold hi) hp
  exact ⟨g, cap, hv, hl⟩
theorem Mem.int_cell {w0 w : World} {rs : List Res} {k : IntKind} {e g cap : Nat} {xs : List Int} (h : Mem w0 w rs) (i : Nat) (hi : rs[i]? = some (Mx.row (Kd.int k) e (.slice (some ⟨g, 0, none⟩) xs.length cap) xs)) (j : Int) (h0 : 0 ≤ j) (h1 : j < xs.length) : w.cell? ⟨g, j.toNat, none⟩ = some (.int k (rd xs j)) ∧ w.frozen? ⟨g, j.toNat, none⟩ = false := Kd.R_cell 0 (h.hold hi) j h0 h1
theorem Mem.int_put {w0 w : World} {rs : List Res} {k : IntKind} {e g cap : Nat} {xs : List Int} (h : Mem w0 w rs) (i : Nat) (hi : rs[i]? = some (Mx.row (Kd.int k) e (.slice (some ⟨g, 0, none⟩) xs.length cap) xs)) (j x : Int) : Mem w0 (w.setCell ⟨g, j.toNat, none⟩ (.int k x)) (rs.set i (Mx.row (Kd.int k) e (.slice (some ⟨g, 0, none⟩) xs.length cap) (xs.set j.toNat x))) := by
  refine h.grown1 hi (v1 := .slice (some ⟨g, 0, none⟩) xs.length cap) ?_ (fun f hf => ?_)
  · exact (Kd.R_put (h.hold hi) j x).2
  · exact Kd.R_mono (Kd.R_put hf j x).1 (fun _ hk => .inl hk)
/-- Some of them, in any order, ahead of the rest. -/
theorem Mem.sel {w0 w : World} {ps F : List Res} (σ : List Nat) (n : Nat) (h : Mem w0 w (ps ++ F)) (hn : ps.length = n) (hσ : (decide σ.Nodup && σ.all (decide <| · < n)) = true) : Mem w0 w (σ.filterMap (fun i => ps[i]?) ++ F) := by
  subst hn
  simp only [Bool.and_eq_true, decide_eq_true_eq, List.all_eq_true] at hσ
  obtain ⟨hnd, hlt⟩ := hσ
  obtain ⟨h1, h2, h3, h4, h5, c, h6⟩ := h
  have hmap : σ.filterMap (fun i => ps[i]?) = σ.map (fun i => ps.getD i emp) := by
    clear hnd
    induction σ with
    | nil => rfl
    | cons a l ih =>
      have ha : ps[a]? = some (ps.getD a emp) := by
        have := hlt a (by simp)
        simp [List.getD, this]
      rw [List.filterMap_cons_some ha, ih (fun x hx => hlt x (by simp [hx])), List.map_cons]
  rw [hmap]
  refine ⟨h1, h2, h3, h4, h5, fun k => if c k < ps.length then (if c k ∈ σ then σ.idxOf (c k) else σ.length + F.length) else σ.length + (c k - ps.length), fun i r hi => ?_⟩
  by_cases hs : i < σ.length
  · rw [List.getElem?_append_left (by simpa using hs), List.getElem?_map, List.getElem?_eq_getElem hs] at hi
    simp only [Option.map_some, Option.some.injEq] at hi
    have hl := hlt σ[i] (List.getElem_mem hs)
    have hr : (ps ++ F)[σ[i]]? = some r := by
      rw [List.getElem?_append_left hl, ← hi]
      simp [List.getD, hl]
    refine r.mono (fun k hk => ⟨hk.1, hk.2.1, ?_⟩) (h6 _ r hr)
    simp only [hk.2.2]
    rw [if_pos hl, if_pos (List.getElem_mem hs)]
    exact hnd.idxOf_getElem i hs
  · rw [List.getElem?_append_right (by simpa using hs)] at hi
    simp only [List.length_map] at hi
    have hlF : i - σ.length < F.length := (List.getElem?_eq_some_iff.1 hi).1
    have hr : (ps ++ F)[ps.length + (i - σ.length)]? = some r := by
      rw [List.getElem?_append_right (by omega)]
      rw [show ps.length + (i - σ.length) - ps.length = i - σ.length by omega]
      exact hi
    refine r.mono (fun k hk => ⟨hk.1, hk.2.1, ?_⟩) (h6 _ r hr)
    simp only [hk.2.2]
    rw [if_neg (by omega)]
    omega
/-- A slice that is read, wherever it lies. -/
def Rd {α : Type} (w0 : World) (R : Res) (d : Kd α) (A : Option Addr) (xs : List α) : Prop := ∀ (w : World) (rs : List Res) (i : Nat), Mem w0 w rs → rs[i]? = some R → d.C w A xs.length xs
theorem Rd.old {α : Type} {w0 : World} {d : Kd α} {A : Option Addr} {xs : List α} (h : d.C w0 A xs.length xs) : Rd w0 emp d A xs := fun _ _ _ hM _ => Kd.C_below h hM.below
theorem Rd.row {α : Type} {w0 : World} {d : Kd α} {e : Nat} {A : Option Addr} {n c : Nat} {xs : List α} : Rd w0 (row d e (.slice A n c) xs) d A xs := fun _ _ i hM hi => hM.row_C i hi
/-- A row of a callee's making. -/
theorem Mem.fresh {w0 w w1 : World} {rs : List Res} {α : Type} {d : Kd α} {e : Nat} {v : Value} {xs : List α} {ok : Nat → Prop} (h : Mem w0 w rs) (hb : Below w.heap.size w w1) (hr : d.R e w1 w.heap.size ok v xs) : Mem w0 w1 (Mx.row d e v xs :: rs) :=
  h.cons hb (Kd.R_mono (Kd.R_lower (Kd.R_bound hr) (Nat.zero_le _)) (fun _ hk => ⟨hk.2.1, hk.2.2.1⟩))
/-- What a callee has made, beside what there was. -/
theorem Mem.trans {w0 w w1 : World} {rs ps : List Res} (h : Mem w0 w rs) (h' : Mem w w1 ps) : Mem w0 w1 (ps ++ rs) := by
  have hb := h'.below
  obtain ⟨h1, h2, h3, h4, h5, c, h6⟩ := h
  obtain ⟨g1, g2, g3, g4, g5, c', g6⟩ := h'
  refine ⟨g1.trans h1, g2.trans h2, g3.trans h3, Nat.le_trans h4 g4, fun k hk => (g5 k (by omega)).trans (h5 k hk), fun k => if k < w.heap.size then ps.length + c k else (if c' k < ps.length then c' k else ps.length + rs.length), fun i r hi => ?_⟩
  by_cases hs : i < ps.length
  · rw [List.getElem?_append_left hs] at hi
    refine r.mono (fun k hk => ⟨by omega, hk.2.1, ?_⟩) (g6 i r hi)
    simp only []
    rw [if_neg (by omega), hk.2.2, if_pos hs]
  · rw [List.getElem?_append_right (by omega)] at hi
    refine r.mono (fun k hk => ⟨hk.1, by omega, ?_⟩) (r.move (fun k hk => g5 k hk.2.1) (h6 _ r hi))
    simp only []
    rw [if_pos hk.2.1, hk.2.2]
    omega
/-- A block just laid out is a row. -/
theorem Mem.lit {w0 w : World} {rs : List Res} {α : Type} (h : Mem w0 w rs) (i : Nat) (d : Kd α) {e : TypeId} {g : Nat} {cs : Array Value} (xs : List α) (hi : rs[i]? = some (blk g e cs)) (hr : Reps (fun x c => ∀ w, d.M w 0 (fun _ => False) x c) d.sz xs cs.toList) (hn : xs.length ≤ 9223372036854775807) :
    Mem w0 w (rs.set i (Mx.row d e (.slice (some ⟨g, 0, none⟩) xs.length xs.length) xs)) := by
  refine h.imp hi _ (fun f hf => ?_)
  refine ⟨fun k hk => ?_, cs.toList, ⟨hr.1, .inr ⟨g, xs.length, cs, rfl, Nat.zero_le _, hf.1, Nat.le_refl _, by unfold maxLen; omega, by have := hr.1; simpa using this, ?_⟩⟩, hr.imp_ (fun p c hp => d.M_mono (fun _ hk => hk.elim) (hp w))⟩
  · have : g = k := by simpa [Value.ownBlock] using hk
    subst this
    exact hf.2
  · rw [List.take_of_length_le]
    rw [hr.1]
    exact Nat.le_refl _
section
variable {P : Program} {ops : Array Oper} {rest : List Oper} {o : Oper} {a : Act} {Q : Exit → Act → World → Prop} {Kc : Act → World → Prop} {α : Type}
/-- append(v, ys...), the elements lead to nothing. -/
theorem Mem.app_step (d : Kd α) {Rr : α → List Value → Prop} {w0 W : World} {rs : List Res} (hM : Mem w0 W rs) (i : Nat) (v : Value) (xs ys : List α) (hw : Region.wanted o (yielded ops a.tmps) = true) (s x : Operand) (t e : TypeId) (z : Value) (bytes : Nat)
    (ho : o.op = .call { callee := .builtin .append, args := #[s, x], argTypes := #[t, t] })
    (ht : P.underlying t = some (.slice e)) (hinfo : (P.info? e).map (fun i => (i.zero, i.size, i.bytes)) = some (some z, d.sz, bytes)) (hz : z.cells.size = d.sz) (hs0 : 0 < d.sz) (hb0 : 0 < bytes)
    (A : Option Addr) (m c : Nat) (hs : a.eval s = v) (hx : a.eval x = .slice A m c)
    (hi : rs[i]? = some (Mx.row d e v xs)) (HR : ReadsRow Rr d.sz W A m ys) (hKM : ∀ x cs, Rr x cs → d.M W 0 (fun _ => False) x cs) (hl : (xs.length + m) * bytes ≤ 140737488355328)
    (h : ∀ v1 w1, Mem w0 w1 (rs.set i (Mx.row d e v1 (xs ++ ys))) → Kc (a.put o.dst v1) w1) :
    if Region.wanted o (yielded ops a.tmps) = true then Oper.wp P o a W Kc Q else Kc (a.put o.dst undef) W := by
  obtain ⟨f, h1, h2, h3⟩ := hM.take1 hi
  refine Kd.R_append_rows_step d (w0 := W) 0 hw s x t e z bytes ho ht hinfo hz hs0 hb0 v xs ys A m c (fun k => f k ∨ W.heap.size ≤ k) (fun _ => False) hs hx (Kd.R_mono h1 (fun _ hk => .inl hk)) HR hKM (fun _ hk => hk.elim) (fun _ hk => .inr hk) (Below.refl _ _) (Nat.zero_le _) hl ?_
  intro v1 w1 hr hb hg _
  refine h v1 w1 (h3 w1 _ hg.os hg.tape hg.output hg.size (fun k hk hf => hg.block k hk (fun he => hf (h1.1 k he.symm))) ?_)
  exact Kd.R_mono (Kd.R_bound hr) (fun k hk => hk.1.imp id (fun hh => ⟨hh, hk.2.2.1⟩))
theorem Mem.app (d : Kd α) {Rr : α → List Value → Prop} {w0 W : World} {rs : List Res} (hM : Mem w0 W rs) (i : Nat) (v : Value) (xs ys : List α) (hgd : o.guard = none) (s x : Operand) (t e : TypeId) (z : Value) (bytes : Nat)
    (ho : o.op = .call { callee := .builtin .append, args := #[s, x], argTypes := #[t, t] })
    (ht : P.underlying t = some (.slice e)) (hinfo : (P.info? e).map (fun i => (i.zero, i.size, i.bytes)) = some (some z, d.sz, bytes)) (hz : z.cells.size = d.sz) (hs0 : 0 < d.sz) (hb0 : 0 < bytes)
    (A : Option Addr) (m c : Nat) (hs : a.eval s = v) (hx : a.eval x = .slice A m c)
    (hi : rs[i]? = some (Mx.row d e v xs)) (HR : ReadsRow Rr d.sz W A m ys) (hKM : ∀ x cs, Rr x cs → d.M W 0 (fun _ => False) x cs) (hl : (xs.length + m) * bytes ≤ 140737488355328)
    (h : ∀ v1 w1, Mem w0 w1 (rs.set i (Mx.row d e v1 (xs ++ ys))) → wpList P ops Q rest (a.put o.dst v1) w1) : wpList P ops Q (o :: rest) a W := by
  obtain ⟨f, h1, h2, h3⟩ := hM.take1 hi
  refine Kd.R_append_rows d (w0 := W) 0 hgd s x t e z bytes ho ht hinfo hz hs0 hb0 v xs ys A m c (fun k => f k ∨ W.heap.size ≤ k) (fun _ => False) hs hx (Kd.R_mono h1 (fun _ hk => .inl hk)) HR hKM (fun _ hk => hk.elim) (fun _ hk => .inr hk) (Below.refl _ _) (Nat.zero_le _) hl ?_
  intro v1 w1 hr hb hg _
  refine h v1 w1 (h3 w1 _ hg.os hg.tape hg.output hg.size (fun k hk hf => hg.block k hk (fun he => hf (h1.1 k he.symm))) ?_)
  exact Kd.R_mono (Kd.R_bound hr) (fun k hk => hk.1.imp id (fun hh => ⟨hh, hk.2.2.1⟩))
/-- A literal row of one element. -/
theorem reads_one {d : Kd α} {W : World} {g : Nat} {e : TypeId} {cs : List Value} (p : α) (hb : W.heap[g]? = some (.cells cs.toArray e (0, 0))) (hcs : cs.length = d.sz) : ReadsRow (fun x c => x = p ∧ c = cs) d.sz W (some ⟨g, 0, none⟩) 1 [p] := by
  refine ⟨rfl, by omega, fun _ => ⟨_, rfl, fun j q hj => ?_⟩⟩
  cases j with
  | zero =>
    obtain rfl : p = q := by simpa using hj
    refine ⟨cs, hcs, ⟨rfl, rfl⟩, fun k u hu => ?_⟩
    rw [Nat.zero_mul, Nat.zero_add, add_plain, blk_cell hb]
    simpa using hu
  | succ j => simp at hj
/-- append(v, p), the element's own rows told as a resource. -/
theorem Mem.app1_step (d : Kd α) {w0 W : World} {rs : List Res} (hM : Mem w0 W rs) (i j b : Nat) (v : Value) (xs : List α) (p : α) (cs : List Value) (g c : Nat) (hij : i ≠ j) (hw : Region.wanted o (yielded ops a.tmps) = true) (s x : Operand) (t e : TypeId) (z : Value) (bytes : Nat)
    (ho : o.op = .call { callee := .builtin .append, args := #[s, x], argTypes := #[t, t] })
    (ht : P.underlying t = some (.slice e)) (hinfo : (P.info? e).map (fun i => (i.zero, i.size, i.bytes)) = some (some z, d.sz, bytes)) (hz : z.cells.size = d.sz) (hs0 : 0 < d.sz) (hb0 : 0 < bytes)
    (hs : a.eval s = v) (hx : a.eval x = .slice (some ⟨g, 0, none⟩) 1 c)
    (hi : rs[i]? = some (Mx.row d e v xs)) (hj : rs[j]? = some (Mx.el d p cs)) (hb : rs[b]? = some (Mx.blk g e cs.toArray)) (hl : (xs.length + 1) * bytes ≤ 140737488355328)
    (h : ∀ v1 w1, Mem w0 w1 ((rs.set i (Mx.row d e v1 (xs ++ [p]))).set j emp) → Kc (a.put o.dst v1) w1) :
    if Region.wanted o (yielded ops a.tmps) = true then Oper.wp P o a W Kc Q else Kc (a.put o.dst undef) W := by
  have hblk := hM.blk_at b hb
  obtain ⟨f, q, h1, hq, h2, h2q, hd, h3⟩ := hM.take2 hi hj hij
  have hK := d.K_of_M hq
  refine Kd.R_append_rows_step d (w0 := W) 0 hw s x t e z bytes ho ht hinfo hz hs0 hb0 v xs [p] (some ⟨g, 0, none⟩) 1 c (fun k => f k ∨ q k ∨ W.heap.size ≤ k) q hs hx (Kd.R_mono h1 (fun _ hk => .inl hk)) (reads_one p hblk (d.K_len hK)) (fun x' cs' hx' => by obtain ⟨rfl, rfl⟩ := hx'; exact hq) (fun k hk => ⟨.inr (.inl hk), fun he => hd k (h1.1 k he.symm) hk⟩) (fun _ hk => .inr (.inr hk)) (Below.refl _ _) (Nat.zero_le _) hl ?_
  intro v1 w1 hr hb1 hg _
  refine h v1 w1 (h3 w1 _ hg.os hg.tape hg.output hg.size (fun k hk hf _ => hg.block k hk (fun he => hf (h1.1 k he.symm))) ?_)
  exact Kd.R_mono (Kd.R_bound hr) (fun k hk => hk.1.imp id (fun hh => hh.imp id (fun hh => ⟨hh, hk.2.2.1⟩)))
end
end Go.Proofs.Ytggbjokhniigkaa.Mx
namespace Go.Proofs.Ytggbjokhniigkaa.Ty
structure Entry where
  f0 : Int
  f1 : ByteArray
structure Msg where
  f0 : Int
  f1 : Int
  f2 : Int
  f3 : Int
  f4 : Int
  f5 : Int
  f6 : Int
  f7 : (List Entry)
structure Rep where
  f0 : Int
  f1 : Int
  f2 : Int
  f3 : Int
  f4 : Int
  f5 : (List Entry)
  f6 : Int
  f7 : (List Int)
  f8 : (List Int)
  f9 : (List Int)
  f10 : (List Entry)
  f11 : Int
  f12 : Int
/-! ### what may be -/
def maxTime : Int := 1099511627776
def below (n : Int) : Bool := decide (0 ≤ n) && decide (n < maxTime)
def size (n : Int) : Bool := decide (n = 1) || decide (n = 3) || decide (n = 5)
/-- From 'last' on the times rise. -/
def rises : Int → List Entry → Bool
  | _, [] => true
  | last, e :: l => decide (last < e.f0) && decide (e.f0 < maxTime) && decide (e.f1.size ≤ 20000) && rises e.f0 l
def log (l : List Entry) : Bool := rises 0 l && decide (l.length ≤ 1000)
def idsFrom (n : Int) : Int → List Int → Bool
  | _, [] => true
  | last, x :: l => decide (last < x) && decide (x < n) && idsFrom n x l
def ids (l : List Int) (n : Int) : Bool := idsFrom n (-1) l
def may (r : Rep) : Bool :=
  size r.f1 && decide (0 ≤ r.f0) && decide (r.f0 < r.f1) && below r.f2 && below r.f3 && decide (r.f3 ≤ r.f2) && decide (0 ≤ r.f4) && decide (r.f4 ≤ 2) && !(decide (r.f4 = 0) && decide (r.f3 ≠ r.f2)) &&
  log r.f5 && decide (0 ≤ r.f6) && decide (r.f6 ≤ (r.f5.length : Int)) && decide ((r.f7.length : Int) = r.f1) && r.f7.all (fun n => decide (0 ≤ n) && decide (n ≤ (r.f5.length : Int))) &&
  ids r.f8 r.f1 && ids r.f9 r.f1 && log r.f10 && decide (-1 ≤ r.f11) && decide (r.f11 < maxTime) && decide (0 ≤ r.f12) && decide (r.f12 ≤ (r.f10.length : Int))
def mayP (r : Rep) : Prop :=
  size r.f1 = true ∧ 0 ≤ r.f0 ∧ r.f0 < r.f1 ∧ below r.f2 = true ∧ below r.f3 = true ∧ r.f3 ≤ r.f2 ∧ 0 ≤ r.f4 ∧ r.f4 ≤ 2 ∧ (r.f4 = 0 → r.f3 = r.f2) ∧
  log r.f5 = true ∧ 0 ≤ r.f6 ∧ r.f6 ≤ (r.f5.length : Int) ∧ (r.f7.length : Int) = r.f1 ∧ (∀ n ∈ r.f7, 0 ≤ n ∧ n ≤ (r.f5.length : Int)) ∧
  ids r.f8 r.f1 = true ∧ ids r.f9 r.f1 = true ∧ log r.f10 = true ∧ -1 ≤ r.f11 ∧ r.f11 < maxTime ∧ 0 ≤ r.f12 ∧ r.f12 ≤ (r.f10.length : Int)
theorem may_iff (r : Rep) : may r = true ↔ mayP r := by
  unfold may mayP
  simp only [Bool.and_eq_true, decide_eq_true_eq, Bool.not_eq_true', Bool.and_eq_false_iff, decide_eq_false_iff_not, List.all_eq_true, Classical.not_not, and_assoc]
  constructor
  · rintro ⟨a1, a2, a3, a4, a5, a6, a7, a8, a9, a10⟩
    exact ⟨a1, a2, a3, a4, a5, a6, a7, a8, fun h => a9.elim (fun h' => absurd h h') id, a10⟩
  · rintro ⟨a1, a2, a3, a4, a5, a6, a7, a8, a9, a10⟩
    refine ⟨a1, a2, a3, a4, a5, a6, a7, a8, ?_, a10⟩
    by_cases h : r.f4 = 0
    · exact .inr (a9 h)
    · exact .inl h
theorem may_false (r : Rep) (h : mayP r → False) : may r = false := by
  cases e : may r
  · rfl
  · exact (h ((may_iff r).1 e)).elim
/-! ### what is sent -/
/-- A message to all others: from i on. -/
def allFrom (id n view : Int) (m : Msg) : Nat → Int → List Msg
  | 0, _ => []
  | k + 1, i => if i < n then (if i = id then allFrom id n view m k (i + 1) else { m with f1 := id, f2 := i, f3 := view } :: allFrom id n view m k (i + 1)) else []
def toAll (r : Rep) (m : Msg) : List Msg := allFrom r.f0 r.f1 r.f2 m r.f1.toNat 0
def toOne (r : Rep) (to_ : Int) (m : Msg) : Msg := { m with f1 := r.f0, f2 := to_, f3 := r.f2 }
def m0 : Msg := ⟨0, 0, 0, 0, 0, 0, 0, []⟩
/-! ### how it turns -/
def clear (r : Rep) : Rep := { r with f8 := [], f9 := [], f10 := [], f11 := -1, f12 := 0 }
def acked (r : Rep) : Rep := { r with f7 := (List.replicate r.f1.toNat 0).set r.f0.toNat (r.f5.length : Int) }
def raise (r : Rep) (n : Int) : Rep := { r with f6 := max r.f6 (min n (r.f5.length : Int)) }
def normal (r : Rep) (view : Int) (l : List Entry) (commit : Int) : Rep :=
  acked { clear r with f2 := view, f3 := view, f4 := 0, f5 := l, f6 := if r.f1 = 1 then (l.length : Int) else min (max r.f6 commit) (l.length : Int) }
def change (r : Rep) (view : Int) : Rep := { clear r with f2 := view, f4 := 1, f8 := [r.f0] }
def lastTime (l : List Entry) : Int := match l.getLast? with | some e => e.f0 | none => 0
def nextTime (l : List Entry) (time : Int) : Int := if l.length = 0 then max time 1 else max (max time 1) (lastTime l + 1)
/-- An entry more. -/
def proposed (r : Rep) (e : Entry) : Rep := { r with f5 := r.f5 ++ [e], f7 := r.f7.set r.f0.toNat ((r.f5.length : Int) + 1), f6 := if r.f1 = 1 then (r.f5.length : Int) + 1 else r.f6 }
def propose (r : Rep) (time : Int) (data : ByteArray) : Rep × List Msg × Int × Int :=
  if may r && below time && decide (data.size ≤ 20000) then
    if r.f4 = 0 ∧ r.f2 % r.f1 = r.f0 then
      if r.f5.length = 1000 ∨ maxTime ≤ nextTime r.f5 time then (r, [], 0, 4)
      else
        let s := proposed r ⟨nextTime r.f5 time, data⟩
        (s, toAll s ⟨1, 0, 0, 0, (r.f5.length : Int) + 1, s.f6, 0, [⟨nextTime r.f5 time, data⟩]⟩, (r.f5.length : Int) + 1, 0)
    else (r, [], 0, 17)
  else (r, [], 0, 1)
end Go.Proofs.Ytggbjokhniigkaa.Ty
