/- Rows of elements that lead to nothing, known whole as blocks, cell by cell; what is copied within a block, and into it. -/
import Derived.Test.YtookpmdgoednfaaDel
import Derived.Test.YtookpmdgoednfaaWRepsOne
import Derived.Laws.IdiomCopy
import Derived.Shelf.Spec.SlicesInsert
namespace Go.Proofs.Ytookpmdgoednfaa.Mx
open Go.RowKit Go.Proofs.YtookpmdgoednfaaW.PrintWords Go.Proofs.YtookpmdgoednfaaW.PrintLast Go.Proofs.YtookpmdgoednfaaW.PrintMore
set_option linter.unusedVariables false
/-- A kind whose elements are their cells alone. -/
structure Flat {α : Type} (d : Kd α) (enc : α → List Value) : Prop where
  out_ : ∀ {w : World} {base : Nat} {ok : Nat → Prop} {x : α} {cs : List Value}, d.M w base ok x cs → cs = enc x
  mk_ : ∀ (w : World) (base : Nat) (ok : Nat → Prop) (x : α), d.M w base ok x (enc x)
  rd_ : ∀ {w : World} {x : α} {cs : List Value}, d.K w x cs → cs = enc x
theorem Flat.len {α : Type} {d : Kd α} {enc : α → List Value} (h : Flat d enc) (w : World) (x : α) : (enc x).length = d.sz := d.K_len (d.K_of_M (h.mk_ w 0 (fun _ => True) x))
theorem Flat.one {α : Type} {d : Kd α} {enc : α → List Value} (h : Flat d enc) (w : World) (x : α) : ∀ u ∈ enc x, u.oneCell' = true := d.K_one (d.K_of_M (h.mk_ w 0 (fun _ => True) x))
theorem flat_len {α : Type} {enc : α → List Value} {sz : Nat} (hl : ∀ x, (enc x).length = sz) : ∀ (xs : List α), (xs.flatMap enc).length = xs.length * sz
  | [] => by simp
  | x :: xs => by rw [List.flatMap_cons, List.length_append, flat_len hl xs, hl, List.length_cons, Nat.succ_mul, Nat.add_comm]
theorem flat_take {α : Type} {enc : α → List Value} {sz : Nat} (hl : ∀ x, (enc x).length = sz) (xs : List α) (k : Nat) : (xs.flatMap enc).take (k * sz) = (xs.take k).flatMap enc := by
  induction xs generalizing k with
  | nil => simp
  | cons x xs ih =>
    cases k with
    | zero => simp
    | succ k =>
      rw [List.flatMap_cons, List.take_succ_cons, List.flatMap_cons, ← ih k, List.take_append, hl, Nat.succ_mul, Nat.add_sub_cancel, List.take_of_length_le (by rw [hl]; omega)]
theorem flat_drop {α : Type} {enc : α → List Value} {sz : Nat} (hl : ∀ x, (enc x).length = sz) (xs : List α) (k : Nat) : (xs.flatMap enc).drop (k * sz) = (xs.drop k).flatMap enc := by
  induction xs generalizing k with
  | nil => simp
  | cons x xs ih =>
    cases k with
    | zero => simp
    | succ k =>
      rw [List.flatMap_cons, List.drop_succ_cons, ← ih k, List.drop_append, hl, Nat.succ_mul, Nat.add_sub_cancel, List.drop_eq_nil_of_le (by rw [hl]; omega), List.nil_append]
theorem reps_flat {α : Type} {R : α → List Value → Prop} {enc : α → List Value} {sz : Nat} (hl : ∀ x, (enc x).length = sz) (hR : ∀ x cs, R x cs → cs = enc x) : ∀ (xs : List α) (inner : List Value), Reps R sz xs inner → inner = xs.flatMap enc
  | [], inner, h => by
    have := h.1
    simp at this
    rw [this]
    simp
  | x :: xs, inner, h => by
    have h0 := hR x _ (by have := h.2 0 x rfl; rwa [Nat.zero_mul, List.drop_zero] at this)
    have h1 : Reps R sz xs (inner.drop sz) := by
      refine ⟨by rw [List.length_drop, h.1, List.length_cons, Nat.succ_mul, Nat.add_sub_cancel], fun j p hj => ?_⟩
      have := h.2 (j + 1) p (by simpa using hj)
      rw [Nat.succ_mul, Nat.add_comm] at this
      rwa [List.drop_drop]
    rw [List.flatMap_cons, ← h0, ← reps_flat hl hR xs _ h1, List.take_append_drop]
theorem flat_reps {α : Type} {R : α → List Value → Prop} {enc : α → List Value} {sz : Nat} (hl : ∀ x, (enc x).length = sz) (hR : ∀ x, R x (enc x)) : ∀ (xs : List α), Reps R sz xs (xs.flatMap enc)
  | [] => by simpa using Reps.none R sz
  | x :: xs => Reps.front (hR x) (hl x) (flat_reps hl hR xs) (by rw [List.flatMap_cons])
section
variable {α : Type} {d : Kd α} {enc : α → List Value} {w0 w : World} {rs : List Res}
/-- A row, known whole. -/
theorem Mem.row_blk (hF : Flat d enc) (h : Mem w0 w rs) (i : Nat) {e g n c : Nat} {xs : List α} (hi : rs[i]? = some (Mx.row d e (.slice (some ⟨g, 0, none⟩) n c) xs)) :
    ∃ cs : Array Value, cs.size = c * d.sz ∧ cs.toList.take (n * d.sz) = xs.flatMap enc ∧ n = xs.length ∧ n ≤ c ∧ c ≤ maxLen ∧ Mem w0 w (rs.set i (Mx.blk g e cs)) := by
  have hh := h.hold hi
  have hnx := (Kd.R_reads' hh).1
  obtain ⟨hok, inner, hown, hr⟩ := hh
  rcases hown.2 with ⟨hv, _⟩ | ⟨g', cap', cur, hv, hb, hheap, hl, hcm, hcs, htake⟩
  · cases hv
  injection hv with ha _ hc
  injection ha with ha
  injection ha with hg
  subst hg; subst hc
  refine ⟨cur, hcs, ?_, hnx, by omega, hcm, h.imp hi _ (fun f hf => ⟨hheap, hf.1 g (by simp [Value.ownBlock])⟩)⟩
  have e1 := reps_flat (hF.len w) (fun x cs hx => hF.out_ hx) xs inner hr
  rw [← e1, ← htake, hnx]
/-- A block that holds a row's cells is the row. -/
theorem Mem.blk_row (hF : Flat d enc) (h : Mem w0 w rs) (i : Nat) {e g c : Nat} {cs : Array Value} (xs : List α) (hi : rs[i]? = some (Mx.blk g e cs)) (hs : cs.size = c * d.sz) (ht : cs.toList.take (xs.length * d.sz) = xs.flatMap enc) (hn : xs.length ≤ c) (hc : c ≤ maxLen) :
    Mem w0 w (rs.set i (Mx.row d e (.slice (some ⟨g, 0, none⟩) xs.length c) xs)) := by
  refine h.imp hi _ (fun f hf => ⟨fun k hk => ?_, xs.flatMap enc, ⟨flat_len (hF.len w) xs, .inr ⟨g, c, cs, rfl, Nat.zero_le _, hf.1, hn, hc, hs, ?_⟩⟩, flat_reps (hF.len w) (fun x => hF.mk_ _ _ _ x) xs⟩)
  · have : g = k := by simpa [Value.ownBlock] using hk
    subst this
    exact hf.2
  · exact ht
/-- Some of a block's cells are set. -/
theorem Mem.setRange (h : Mem w0 w rs) (i : Nat) {g T : Nat} {cs : Array Value} (hi : rs[i]? = some (Mx.blk g T cs)) (o : Nat) (vs : List Value) (hfit : o + vs.length ≤ cs.size) :
    ∃ cs' : Array Value, cs'.toList = cs.toList.take o ++ vs ++ cs.toList.drop (o + vs.length) ∧ cs'.size = cs.size ∧ Mem w0 (w.setCells g o vs) (rs.set i (Mx.blk g T cs')) := by
  obtain ⟨cur', g1, g2, g3⟩ := setCells_row vs o w cs (h.blk_at i hi) hfit
  obtain ⟨f, h1, h2, h3⟩ := h.take1 hi
  obtain ⟨e1, e2, e3, e4⟩ := setCells_same g vs o w
  exact ⟨cur', g3, g2, h3 _ _ e1 e2 e3 (Nat.le_of_eq e4.symm) (fun k _ hf => setCells_far vs o k (fun e => hf (e ▸ h1.2))) ⟨g1, .inl h1.2⟩⟩
end
/-- 'copy': all is read ahead of what is written; elements of k cells. -/
theorem run_copyK {P : Program} (w : World) (dT sT ty elem : TypeId) (b o dLen dCap : Nat) (a : Addr) (sLen sCap k m : Nat) (cs : List Value)
    (hu : P.underlying dT = some (.slice elem)) (hs : (P.info? elem).map (·.size) = some k) (hm : Nat.min sLen dLen = m) (hn : cs.length = m * k)
    (hsrc : ∀ j v, cs[j]? = some v → w.cell? (a.add j) = some v) (hc : ∀ j, j < cs.length → (w.cell? ⟨b, o + j, none⟩).isSome = true) (hf : ∀ j, j < cs.length → w.frozen? ⟨b, o + j, none⟩ = false) (h1 : ∀ v ∈ cs, v.oneCell' = true) :
    (Builtin.copy_ #[dT, sT] ty #[.slice (some ⟨b, o, none⟩) dLen dCap, .slice (some a) sLen sCap]).run P w = .ok (goInt m) (w.setCells b o cs) := by
  have hl := run_loadCells_list (P := P) w a cs hsrc
  have hst := run_storeCells_cells (P := P) b o cs 0 w (by simpa using hc) (by simpa using hf) h1
  cases hq : P.info? elem with
  | none => simp [hq] at hs
  | some i =>
    have hi : i.size = k := by simpa [hq] using hs
    simp [Builtin.copy_, run_underlying hu, Builtin.lenOf, Builtin.firstCells, sizeOf, typeInfo, hq, hi, hm, ← hn, hl, hst]
/-- Some of the resources, by their places. -/
theorem Mem.reindex {w0 w : World} {rs rs' : List Res} (h : Mem w0 w rs) (f g : Nat → Nat) (hfg : ∀ i r, rs'[i]? = some r → rs[f i]? = some r ∧ g (f i) = i) : Mem w0 w rs' := by
  obtain ⟨h1, h2, h3, h4, h5, c, h6⟩ := h
  exact ⟨h1, h2, h3, h4, h5, fun k => g (c k), fun i r hi => r.mono (fun k hk => ⟨hk.1, hk.2.1, by show g (c k) = i; rw [hk.2.2]; exact (hfg i r hi).2⟩) (h6 (f i) r (hfg i r hi).1)⟩
/-- The second one goes behind a list. -/
theorem Mem.to_mid {w0 w : World} {a b : Res} {l F : List Res} (h : Mem w0 w (a :: b :: (l ++ F))) : Mem w0 w (a :: (l ++ b :: F)) := by
  refine h.reindex (fun i => if i = 0 then 0 else if i ≤ l.length then i + 1 else if i = l.length + 1 then 1 else i) (fun j => if j = 0 then 0 else if j = 1 then l.length + 1 else if j ≤ l.length + 1 then j - 1 else j) (fun i r hi => ?_)
  cases i with
  | zero => exact ⟨by simpa using hi, rfl⟩
  | succ i =>
    rw [List.getElem?_cons_succ] at hi
    rw [if_neg (by omega)]
    rcases Nat.lt_trichotomy i l.length with hl | hl | hl
    · rw [if_pos (by omega)]
      refine ⟨?_, by rw [if_neg (by omega), if_neg (by omega), if_pos (by omega)]; omega⟩
      rw [List.getElem?_cons_succ, List.getElem?_cons_succ, List.getElem?_append_left hl]
      rwa [List.getElem?_append_left hl] at hi
    · rw [if_neg (by omega), if_pos (by omega)]
      refine ⟨?_, by rw [if_neg (by omega), if_pos rfl]; omega⟩
      subst hl
      rw [List.getElem?_append_right (Nat.le_refl _), Nat.sub_self] at hi
      simpa using hi
    · rw [if_neg (by omega), if_neg (by omega)]
      refine ⟨?_, by rw [if_neg (by omega), if_neg (by omega), if_neg (by omega)]⟩
      rw [List.getElem?_append_right (by omega)] at hi
      rw [show i + 1 = (i - 1) + 1 + 1 by omega, List.getElem?_cons_succ, List.getElem?_cons_succ, List.getElem?_append_right (by omega)]
      rw [show i - l.length = (i - 1 - l.length) + 1 by omega, List.getElem?_cons_succ] at hi
      exact hi
/-- One behind a list comes to the second place. -/
theorem Mem.from_mid {w0 w : World} {a b : Res} {l F : List Res} (h : Mem w0 w (a :: (l ++ b :: F))) : Mem w0 w (a :: b :: (l ++ F)) := by
  refine h.reindex (fun j => if j = 0 then 0 else if j = 1 then l.length + 1 else if j ≤ l.length + 1 then j - 1 else j) (fun i => if i = 0 then 0 else if i ≤ l.length then i + 1 else if i = l.length + 1 then 1 else i) (fun i r hi => ?_)
  cases i with
  | zero => exact ⟨by simpa using hi, rfl⟩
  | succ i =>
    cases i with
    | zero =>
      refine ⟨?_, by simp⟩
      rw [if_neg (by omega), if_pos rfl, List.getElem?_cons_succ, List.getElem?_append_right (Nat.le_refl _), Nat.sub_self]
      simpa using hi
    | succ i =>
      rw [List.getElem?_cons_succ, List.getElem?_cons_succ] at hi
      rw [if_neg (by omega), if_neg (by omega)]
      rcases Nat.lt_or_ge i l.length with hl | hl
      · rw [if_pos (by omega)]
        refine ⟨?_, by rw [if_neg (by omega), if_pos (by omega)]; omega⟩
        rw [show i + 1 + 1 - 1 = i + 1 by omega, List.getElem?_cons_succ, List.getElem?_append_left hl]
        rwa [List.getElem?_append_left hl] at hi
      · rw [if_neg (by omega)]
        refine ⟨?_, by rw [if_neg (by omega), if_neg (by omega), if_neg (by omega)]⟩
        rw [List.getElem?_append_right hl] at hi
        rw [List.getElem?_cons_succ, List.getElem?_append_right (by omega), show i + 1 - l.length = (i - l.length) + 1 by omega, List.getElem?_cons_succ]
        exact hi
end Go.Proofs.Ytookpmdgoednfaa.Mx
