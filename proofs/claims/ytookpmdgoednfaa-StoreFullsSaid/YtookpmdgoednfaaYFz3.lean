/- Texts laid together: Fl, Mb, WFootNe, WAt, WEqStruct, WInv, WInvWords, WGuard, PPagePutsx0, PPagePutsx1, Le. No condition. -/
import Derived.Laws.IdiomCopy
import Derived.Shelf.Spec.SlicesInsert
import Derived.Maps.RangeWalk
import Derived.Laws.StructEq
import Derived.Test.YtookpmdgoednfaaProg
import Derived.Below
import Derived.Deep.Draws
import Derived.Deep.AppendLies
import Derived.Maps.AppendAt
import Derived.OwnWalk
import Derived.Laws.BytesArg
import Derived.Laws.MakeOwn
import Derived.Laws.OwnMore
import Derived.Deep.OwnRows
import Derived.Tactics
import Derived.Lib.ConvBytes
import Derived.Laws.Slices
import Derived.WalkKit
import Derived.KernelRfl
import Derived.RowKit3
import Derived.Deep.LoopGhost
import Derived.Deep.QuietTactic
import Derived.BigQuiet
import Derived.WideLaws
import Derived.Deep.DeepCutAuto
import Derived.Deep.CutBlock
import Derived.Deep.RegionHeld3
import Derived.Laws.Rows
import Derived.Lib.AppendStr
import Derived.ArgAppend
import Derived.OrdersHeld
import Derived.Laws.BitsLemmas
import Derived.RowKit
import Derived.Sort.Walk0
import Derived.Laws.Strings
import Derived.Test.YtookpmdgoednfaaYFz2
set_option linter.unusedVariables false
set_option linter.unusedSimpArgs false
set_option maxRecDepth 100000
set_option maxHeartbeats 8000000
namespace Go.Proofs.Ytookpmdgoednfaa.Mx
open Go.RowKit YtookpmdgoednfaaW.PrintWords YtookpmdgoednfaaW.PrintLast YtookpmdgoednfaaW.PrintMore
/-- A kind whose elements are their cells alone. -/
structure Flat {α : Type} (d : Kd α) (enc : α → List Value) : Prop where
  out_ : ∀ {w : World} {base : Nat} {ok : Nat → Prop} {x : α} {cs : List Value}, d.M w base ok x cs → cs = enc x
  mk_ : ∀ (w : World) (base : Nat) (ok : Nat → Prop) (x : α), d.M w base ok x (enc x)
  rd_ : ∀ {w : World} {x : α} {cs : List Value}, d.K w x cs → cs = enc x
theorem Flat.len {α : Type} {d : Kd α} {enc : α → List Value} (h : Flat d enc) (w : World) (x : α) : (enc x).length = d.sz := d.K_len (d.K_of_M (h.mk_ w 0 (fun _ => True) x))
theorem Flat.one {α : Type} {d : Kd α} {enc : α → List Value} (h : Flat d enc) (w : World) (x : α) : ∀ u ∈ enc x, u.oneCell' = true := d.K_one (d.K_of_M (h.mk_ w 0 (fun _ => True) x))
theorem flat_len {α : Type} {enc : α → List Value} {sz : Nat} (hl : ∀ x, (enc x).length = sz) : ∀ (xs : List α), (xs.flatMap enc).length = xs.length * sz
  | [] => by simp
  | x :: xs => by rw [List.flatMap_cons, List.length_append, flat_len hl xs, hl, List.length_cons, Nat.succ_mul, Nat.add_comm]
theorem flat_take {α : Type} {enc : α → List Value} {sz : Nat} (hl : ∀ x, (enc x).length = sz) (xs : List α) (k : Nat) : (xs.flatMap enc).take (k * sz) = (xs.take k).flatMap enc := by
  induction xs generalizing k with
  | nil => simp
  | cons x xs ih =>
    cases k with
    | zero => simp
    | succ k =>
      rw [List.flatMap_cons, List.take_succ_cons, List.flatMap_cons, ← ih k, List.take_append, hl, Nat.succ_mul, Nat.add_sub_cancel, List.take_of_length_le (by rw [hl]; omega)]
theorem flat_drop {α : Type} {enc : α → List Value} {sz : Nat} (hl : ∀ x, (enc x).length = sz) (xs : List α) (k : Nat) : (xs.flatMap enc).drop (k * sz) = (xs.drop k).flatMap enc := by
  induction xs generalizing k with
  | nil => simp
  | cons x xs ih =>
    cases k with
    | zero => simp
    | succ k =>
      rw [List.flatMap_cons, List.drop_succ_cons, ← ih k, List.drop_append, hl, Nat.succ_mul, Nat.add_sub_cancel, List.drop_eq_nil_of_le (by rw [hl]; omega), List.nil_append]
theorem reps_flat {α : Type} {R : α → List Value → Prop} {enc : α → List Value} {sz : Nat} (hl : ∀ x, (enc x).length = sz) (hR : ∀ x cs, R x cs → cs = enc x) : ∀ (xs : List α) (inner : List Value), Reps R sz xs inner → inner = xs.flatMap enc
  | [], inner, h => by
    have := h.1
    simp at this
    rw [this]
    simp
  | x :: xs, inner, h => by
    have h0 := hR x _ (by have := h.2 0 x rfl; rwa [Nat.zero_mul, List.drop_zero] at this)
    have h1 : Reps R sz xs (inner.drop sz) := by
      refine ⟨by rw [List.length_drop, h.1, List.length_cons, Nat.succ_mul, Nat.add_sub_cancel], fun j p hj => ?_⟩
      have := h.2 (j + 1) p (by simpa using hj)
      rw [Nat.succ_mul, Nat.add_comm] at this
      rwa [List.drop_drop]
    rw [List.flatMap_cons, ← h0, ← reps_flat hl hR xs _ h1, List.take_append_drop]
theorem flat_reps {α : Type} {R : α → List Value → Prop} {enc : α → List Value} {sz : Nat} (hl : ∀ x, (enc x).length = sz) (hR : ∀ x, R x (enc x)) : ∀ (xs : List α), Reps R sz xs (xs.flatMap enc)
  | [] => by simpa using Reps.none R sz
  | x :: xs => Reps.front (hR x) (hl x) (flat_reps hl hR xs) (by rw [List.flatMap_cons])
section
variable {α : Type} {d : Kd α} {enc : α → List Value} {w0 w : World} {rs : List Res}
/-- A row, known whole. -/
theorem Mem.row_blk (hF : Flat d enc) (h : Mem w0 w rs) (i : Nat) {e g n c : Nat} {xs : List α} (hi : rs[i]? = some (Mx.row d e (.slice (some ⟨g, 0, none⟩) n c) xs)) :
    ∃ cs : Array Value, cs.size = c * d.sz ∧ cs.toList.take (n * d.sz) = xs.flatMap enc ∧ n = xs.length ∧ n ≤ c ∧ c ≤ maxLen ∧ Mem w0 w (rs.set i (Mx.blk g e cs)) := by
  have hh := h.hold hi
  have hnx := (Kd.R_reads' hh).1
  obtain ⟨hok, inner, hown, hr⟩ := hh
  rcases hown.2 with ⟨hv, _⟩ | ⟨g', cap', cur, hv, hb, hheap, hl, hcm, hcs, htake⟩
  · cases hv
  injection hv with ha _ hc
  injection ha with ha
  injection ha with hg
  subst hg; subst hc
  refine ⟨cur, hcs, ?_, hnx, by omega, hcm, h.imp hi _ (fun f hf => ⟨hheap, hf.1 g (by simp [Value.ownBlock])⟩)⟩
  have e1 := reps_flat (hF.len w) (fun x cs hx => hF.out_ hx) xs inner hr
  rw [← e1, ← htake, hnx]
/-- A block that holds a row's cells is the row. -/
theorem Mem.blk_row (hF : Flat d enc) (h : Mem w0 w rs) (i : Nat) {e g c : Nat} {cs : Array Value} (xs : List α) (hi : rs[i]? = some (Mx.blk g e cs)) (hs : cs.size = c * d.sz) (ht : cs.toList.take (xs.length * d.sz) = xs.flatMap enc) (hn : xs.length ≤ c) (hc : c ≤ maxLen) :
    Mem w0 w (rs.set i (Mx.row d e (.slice (some ⟨g, 0, none⟩) xs.length c) xs)) := by
  refine h.imp hi _ (fun f hf => ⟨fun k hk => ?_, xs.flatMap enc, ⟨flat_len (hF.len w) xs, .inr ⟨g, c, cs, rfl, Nat.zero_le _, hf.1, hn, hc, hs, ?_⟩⟩, flat_reps (hF.len w) (fun x => hF.mk_ _ _ _ x) xs⟩)
  · have : g = k := by simpa [Value.ownBlock] using hk
    subst this
    exact hf.2
  · exact ht
/-- Some of a block's cells are set. -/
theorem Mem.setRange (h : Mem w0 w rs) (i : Nat) {g T : Nat} {cs : Array Value} (hi : rs[i]? = some (Mx.blk g T cs)) (o : Nat) (vs : List Value) (hfit : o + vs.length ≤ cs.size) :
    ∃ cs' : Array Value, cs'.toList = cs.toList.take o ++ vs ++ cs.toList.drop (o + vs.length) ∧ cs'.size = cs.size ∧ Mem w0 (w.setCells g o vs) (rs.set i (Mx.blk g T cs')) := by
  obtain ⟨cur', g1, g2, g3⟩ := setCells_row vs o w cs (h.blk_at i hi) hfit
  obtain ⟨f, h1, h2, h3⟩ := h.take1 hi
  obtain ⟨e1, e2, e3, e4⟩ := setCells_same g vs o w
  exact ⟨cur', g3, g2, h3 _ _ e1 e2 e3 (Nat.le_of_eq e4.symm) (fun k _ hf => setCells_far vs o k (fun e => hf (e ▸ h1.2))) ⟨g1, .inl h1.2⟩⟩
end
/-- 'copy': all is read ahead of what is written; elements of k cells. -/
theorem run_copyK {P : Program} (w : World) (dT sT ty elem : TypeId) (b o dLen dCap : Nat) (a : Addr) (sLen sCap k m : Nat) (cs : List Value)
    (hu : P.underlying dT = some (.slice elem)) (hs : (P.info? elem).map (·.size) = some k) (hm : Nat.min sLen dLen = m) (hn : cs.length = m * k)
    (hsrc : ∀ j v, cs[j]? = some v → w.cell? (a.add j) = some v) (hc : ∀ j, j < cs.length → (w.cell? ⟨b, o + j, none⟩).isSome = true) (hf : ∀ j, j < cs.length → w.frozen? ⟨b, o + j, none⟩ = false) (h1 : ∀ v ∈ cs, v.oneCell' = true) :
    (Builtin.copy_ #[dT, sT] ty #[.slice (some ⟨b, o, none⟩) dLen dCap, .slice (some a) sLen sCap]).run P w = .ok (goInt m) (w.setCells b o cs) := by
  have hl := run_loadCells_list (P := P) w a cs hsrc
  have hst := run_storeCells_cells (P := P) b o cs 0 w (by simpa using hc) (by simpa using hf) h1
  cases hq : P.info? elem with
  | none => simp [hq] at hs
  | some i =>
    have hi : i.size = k := by simpa [hq] using hs
    simp [Builtin.copy_, run_underlying hu, Builtin.lenOf, Builtin.firstCells, sizeOf, typeInfo, hq, hi, hm, ← hn, hl, hst]
/-- Some of the resources, by their places. -/
theorem Mem.reindex {w0 w : World} {rs rs' : List Res} (h : Mem w0 w rs) (f g : Nat → Nat) (hfg : ∀ i r, rs'[i]? = some r → rs[f i]? = some r ∧ g (f i) = i) : Mem w0 w rs' := by
  obtain ⟨h1, h2, h3, h4, h5, c, h6⟩ := h
  exact ⟨h1, h2, h3, h4, h5, fun k => g (c k), fun i r hi => r.mono (fun k hk => ⟨hk.1, hk.2.1, by show g (c k) = i; rw [hk.2.2]; exact (hfg i r hi).2⟩) (h6 (f i) r (hfg i r hi).1)⟩
/-- The second one goes behind a list. -/
theorem Mem.to_mid {w0 w : World} {a b : Res} {l F : List Res} (h : Mem w0 w (a :: b :: (l ++ F))) : Mem w0 w (a :: (l ++ b :: F)) := by
  refine h.reindex (fun i => if i = 0 then 0 else if i ≤ l.length then i + 1 else if i = l.length + 1 then 1 else i) (fun j => if j = 0 then 0 else if j = 1 then l.length + 1 else if j ≤ l.length + 1 then j - 1 else j) (fun i r hi => ?_)
  cases i with
  | zero => exact ⟨by simpa using hi, rfl⟩
  | succ i =>
    rw [List.getElem?_cons_succ] at hi
    rw [if_neg (by omega)]
    rcases Nat.lt_trichotomy i l.length with hl | hl | hl
    · rw [if_pos (by omega)]
      refine ⟨?_, by rw [if_neg (by omega), if_neg (by omega), if_pos (by omega)]; omega⟩
      rw [List.getElem?_cons_succ, List.getElem?_cons_succ, List.getElem?_append_left hl]
      rwa [List.getElem?_append_left hl] at hi
    · rw [if_neg (by omega), if_pos (by omega)]
      refine ⟨?_, by rw [if_neg (by omega), if_pos rfl]; omega⟩
      subst hl
      rw [List.getElem?_append_right (Nat.le_refl _), Nat.sub_self] at hi
      simpa using hi
    · rw [if_neg (by omega), if_neg (by omega)]
      refine ⟨?_, by rw [if_neg (by omega), if_neg (by omega), if_neg (by omega)]⟩
      rw [List.getElem?_append_right (by omega)] at hi
      rw [show i + 1 = (i - 1) + 1 + 1 by omega, List.getElem?_cons_succ, List.getElem?_cons_succ, List.getElem?_append_right (by omega)]
      rw [show i - l.length = (i - 1 - l.length) + 1 by omega, List.getElem?_cons_succ] at hi
      exact hi
/-- One behind a list comes to the second place. -/
theorem Mem.from_mid {w0 w : World} {a b : Res} {l F : List Res} (h : Mem w0 w (a :: (l ++ b :: F))) : Mem w0 w (a :: b :: (l ++ F)) := by
  refine h.reindex (fun j => if j = 0 then 0 else if j = 1 then l.length + 1 else if j ≤ l.length + 1 then j - 1 else j) (fun i => if i = 0 then 0 else if i ≤ l.length then i + 1 else if i = l.length + 1 then 1 else i) (fun i r hi => ?_)
  cases i with
  | zero => exact ⟨by simpa using hi, rfl⟩
  | succ i =>
    cases i with
    | zero =>
      refine ⟨?_, by simp⟩
      rw [if_neg (by omega), if_pos rfl, List.getElem?_cons_succ, List.getElem?_append_right (Nat.le_refl _), Nat.sub_self]
      simpa using hi
    | succ i =>
      rw [List.getElem?_cons_succ, List.getElem?_cons_succ] at hi
      rw [if_neg (by omega), if_neg (by omega)]
      rcases Nat.lt_or_ge i l.length with hl | hl
      · rw [if_pos (by omega)]
        refine ⟨?_, by rw [if_neg (by omega), if_pos (by omega)]; omega⟩
        rw [show i + 1 + 1 - 1 = i + 1 by omega, List.getElem?_cons_succ, List.getElem?_append_left hl]
        rwa [List.getElem?_append_left hl] at hi
      · rw [if_neg (by omega)]
        refine ⟨?_, by rw [if_neg (by omega), if_neg (by omega), if_neg (by omega)]⟩
        rw [List.getElem?_append_right hl] at hi
        rw [List.getElem?_cons_succ, List.getElem?_append_right (by omega), show i + 1 - l.length = (i - l.length) + 1 by omega, List.getElem?_cons_succ]
        exact hi
end Go.Proofs.Ytookpmdgoednfaa.Mx
namespace Go.Proofs.Ytookpmdgoednfaa.Mx
open Go.RowKit YtookpmdgoednfaaW.PrintWords YtookpmdgoednfaaW.PrintLast YtookpmdgoednfaaW.PrintMore
open Go.Maps (Keyed string_keyed)
/-- A value read as itself. -/
def tokR (v : Value) : Option (DataW Value × List MemPlace) := some (.held v, [])
def litK (k : ByteArray) : Lit := .string k.data.toList
theorem litK_inj {a b : ByteArray} (h : litK a = litK b) : a = b := by
  unfold litK at h
  injection h with h
  cases a; cases b
  congr 1
  exact Array.toList_inj.1 h
theorem keyK {P : Program} {K : TypeId} (hK : P.underlying K = some .string) {k : ByteArray} (hk : k.size ≤ maxLen) : keyOf P K (.string k) = some (litK k) := Go.WideMaps.keyOf_string_mk hK hk
/-- Block g is a map: S its keys, hdr what lies at each, n how many. -/
def MapAt (P : Program) (K : TypeId) (w : World) (g : Nat) (S : ByteArray → Prop) (hdr : ByteArray → Value) (n : Nat) : Prop :=
  ∃ D, w.ownsMap P K tokR g n D ∧ Maps.size D = n ∧ (∀ k, S k → k.size ≤ maxLen ∧ Maps.has D (litK k) = true ∧ ∀ z, D.atKey (litK k) z = .held (hdr k)) ∧ (∀ k, ¬ S k → Maps.has D (litK k) = false)
def mapB (P : Program) (K : TypeId) (g : Nat) (S : ByteArray → Prop) (hdr : ByteArray → Value) (n : Nat) : Res where
  holds w fp := fp g ∧ MapAt P K w g S hdr n
  move hm h := ⟨h.1, by obtain ⟨D, ⟨es, clock, hb, r⟩, rest⟩ := h.2; exact ⟨D, ⟨es, clock, (hm g h.1).trans hb, r⟩, rest⟩⟩
  mono hm h := ⟨hm g h.1, h.2⟩
section
variable {P : Program} {K e t : TypeId} {w0 w : World} {rs : List Res} {g n : Nat} {S : ByteArray → Prop} {hdr : ByteArray → Value}
theorem ownsMap_size {D : DataW Value} {n : Nat} (h : w.ownsMap P K tokR g n D) : w.ownsMap P K tokR g (Maps.size D) D := by
  obtain ⟨es, clock, hb, F, hs, rfl⟩ := h
  exact ⟨es, clock, hb, F, by rw [Maps.size_eq, length_sorted]; simp, rfl⟩
theorem MapAt.congr {S' : ByteArray → Prop} {hdr' : ByteArray → Value} (h : MapAt P K w g S hdr n) (hS : ∀ k, S' k ↔ S k) (hh : ∀ k, S k → hdr' k = hdr k) : MapAt P K w g S' hdr' n := by
  obtain ⟨D, h1, h2, h3, h4⟩ := h
  exact ⟨D, h1, h2, fun k hk => by obtain ⟨a, b, c⟩ := h3 k ((hS k).1 hk); exact ⟨a, b, fun z => by rw [c z, hh k ((hS k).1 hk)]⟩, fun k hk => h4 k (fun h => hk ((hS k).2 h))⟩
/-- 'make(map[..]..)' -/
theorem Mem.makeMap (h : Mem w0 w rs) (hdr : ByteArray → Value) : Mem w0 (w.alloc (.map #[] 0)) (mapB P K w.heap.size (fun _ => False) hdr 0 :: rs) := by
  refine h.cons (below_alloc (Below.refl _ _) _) ⟨⟨Nat.le_refl _, by simp⟩, .map [], World.ownsMap_made w P K tokR, rfl, fun k hk => hk.elim, fun k _ => rfl⟩
theorem Mem.map_at (h : Mem w0 w rs) (i : Nat) (hi : rs[i]? = some (mapB P K g S hdr n)) : MapAt P K w g S hdr n := (h.hold hi).2
/-- 'm[k]' -/
theorem MapAt.look (h : MapAt P K w g S hdr n) (hK : P.underlying K = some .string) (ht : P.underlying t = some (.map K e)) {z : Value} (hz : (zeroValue e).run P w = .ok z w) {k : ByteArray} (hk : k.size ≤ maxLen) :
    ∃ v, (Instr.lookup t (.map (some g)) (.string k) false).run P w = .ok v w ∧ (S k → v = hdr k) ∧ (¬ S k → v = z) := by
  obtain ⟨D, h1, h2, h3, h4⟩ := h
  obtain ⟨v, ps, hrun, hv⟩ := h1.lookup (string_keyed hK) ht hz (zd := .held z) (zp := []) rfl (keyK hK hk)
  unfold tokR at hv
  simp only [Option.some.injEq, Prod.mk.injEq] at hv
  refine ⟨v, hrun, fun hs => ?_, fun hs => ?_⟩
  · have := (h3 k hs).2.2 (.held z)
    rw [← hv.1] at this
    injection this
  · have := Maps.atKey_of_not_has (h4 k hs) (.held z)
    rw [← hv.1] at this
    injection this
/-- 'len(m)' -/
theorem MapAt.len (h : MapAt P K w g S hdr n) (ht : P.underlying t = some (.map K e)) (ty : TypeId) : (Builtin.len_ #[t] ty #[.map (some g)]).run P w = .ok (.int .i64 n) w := by
  obtain ⟨D, h1, h2, h3, h4⟩ := h
  rw [h1.len ht ty, h2]
/-- 'm[k] = v' -/
theorem Mem.map_put (h : Mem w0 w rs) (i : Nat) (hi : rs[i]? = some (mapB P K g S hdr n)) (hK : P.underlying K = some .string) (ht : P.underlying t = some (.map K e)) (hn : n < maxLen) {k : ByteArray} (hk : k.size ≤ maxLen) (v : Value) {n' : Nat} (hn' : (S k → n' = n) ∧ (¬ S k → n' = n + 1)) {S' : ByteArray → Prop} {hdr' : ByteArray → Value} (hS : ∀ j, S' j ↔ j = k ∨ S j) (hv : hdr' k = v) (hh : ∀ j, ¬ j = k → S j → hdr' j = hdr j) :
    ∃ w', (Instr.mapUpdate t (.map (some g)) (.string k) v).run P w = .ok () w' ∧ Mem w0 w' (rs.set i (mapB P K g S' hdr' n')) := by
  obtain ⟨f, ⟨hf, D, h1, h2, h3, h4⟩, hb, back⟩ := h.take1 hi
  obtain ⟨w', hrun, hown, hgrow⟩ := h1.update (string_keyed hK) ht hn (keyK hK hk) (show tokR v = some (.held v, []) from rfl)
  refine ⟨w', hrun, back w' _ hgrow.os hgrow.tape hgrow.output hgrow.size (fun j hj hne => hgrow.block j hj (fun e1 => hne (by cases e1; exact hf))) ?_⟩
  have hkey : WideAt.IsKeyLit (litK k) := trivial
  have hsz : Maps.size (D.put (litK k) (.held v)) = n' := by
    rw [Maps.size_put (h1.tidy (string_keyed hK))]
    by_cases hs : S k
    · rw [if_pos (h3 k hs).2.1, h2, hn'.1 hs]
    · rw [if_neg (by rw [h4 k hs]; simp), h2, hn'.2 hs]
  refine ⟨.inl hf, D.put (litK k) (.held v), hsz ▸ ownsMap_size hown, hsz, fun j hj => ?_, fun j hj => ?_⟩
  · by_cases e1 : j = k
    · subst e1
      exact ⟨hk, Maps.has_put_same h1.isMap hkey _, fun z => by rw [Maps.atKey_put_same h1.isMap hkey, hv]⟩
    · have hs : S j := ((hS j).1 hj).resolve_left e1
      obtain ⟨a, b, c⟩ := h3 j hs
      have hne : litK j ≠ litK k := fun e2 => e1 (litK_inj e2)
      exact ⟨a, by rw [Maps.has_put_other hne]; exact b, fun z => by rw [Maps.atKey_put_other hne, c z, hh j e1 hs]⟩
  · have e1 : ¬ j = k := fun e1 => hj ((hS j).2 (.inl e1))
    have hs : ¬ S j := fun e2 => hj ((hS j).2 (.inr e2))
    rw [Maps.has_put_other (fun e2 => e1 (litK_inj e2))]
    exact h4 j hs
/-- 'delete(m, k)' -/
theorem Mem.map_del (h : Mem w0 w rs) (i : Nat) (hi : rs[i]? = some (mapB P K g S hdr n)) (hK : P.underlying K = some .string) (ht : P.underlying t = some (.map K e)) {k : ByteArray} (hk : k.size ≤ maxLen) (hs : S k) (ty : TypeId) {S' : ByteArray → Prop} {n' : Nat} (hn : n = n' + 1) (hS : ∀ j, S' j ↔ ¬ j = k ∧ S j) :
    ∃ w', (Builtin.delete_ #[t, K] ty #[.map (some g), .string k]).run P w = .ok (.tuple #[]) w' ∧ Mem w0 w' (rs.set i (mapB P K g S' hdr n')) := by
  obtain ⟨f, ⟨hf, D, h1, h2, h3, h4⟩, hb, back⟩ := h.take1 hi
  obtain ⟨w', hrun, hown, hturn⟩ := h1.drop (string_keyed hK) ht (keyK hK hk) ty
  have hgrow := hturn.grown
  refine ⟨w', hrun, back w' _ hgrow.os hgrow.tape hgrow.output hgrow.size (fun j hj hne => hgrow.block j hj (fun e1 => hne (by cases e1; exact hf))) ?_⟩
  have hsz : Maps.size (D.del (litK k)) = n' := by
    have := Maps.size_del (k := litK k) (h1.tidy (string_keyed hK))
    rw [if_pos (h3 k hs).2.1, h2] at this
    omega
  refine ⟨.inl hf, D.del (litK k), hsz ▸ ownsMap_size hown, hsz, fun j hj => ?_, fun j hj => ?_⟩
  · obtain ⟨e1, hs'⟩ := (hS j).1 hj
    obtain ⟨a, b, c⟩ := h3 j hs'
    have hne : litK j ≠ litK k := fun e2 => e1 (litK_inj e2)
    exact ⟨a, by rw [Maps.has_del_other hne]; exact b, fun z => by rw [Maps.atKey_del_other hne, c z]⟩
  · by_cases e1 : j = k
    · rw [e1]; exact Maps.has_del_same
    · rw [Maps.has_del_other (fun e2 => e1 (litK_inj e2))]
      exact h4 j (fun e2 => hj ((hS j).2 ⟨e1, e2⟩))
end
/-! ### rows told by keys -/
/-- At each key of S a row of its own. -/
def rowsK {α : Type} (d : Kd α) (e : Nat) (S : ByteArray → Prop) (hdr : ByteArray → Value) (xs : ByteArray → List α) : Res where
  holds w fp := ∃ c : Nat → ByteArray, ∀ k, S k → (row d e (hdr k) (xs k)).holds w (fun b => fp b ∧ c b = k)
  move hm h := by
    obtain ⟨c, h⟩ := h
    exact ⟨c, fun k hk => (row d e (hdr k) (xs k)).move (fun b hb => hm b hb.1) (h k hk)⟩
  mono hm h := by
    obtain ⟨c, h⟩ := h
    exact ⟨c, fun k hk => (row d e (hdr k) (xs k)).mono (fun b hb => ⟨hm b hb.1, hb.2⟩) (h k hk)⟩
section
variable {α : Type} {d : Kd α} {e : Nat} {w0 w : World} {F : List Res} {S : ByteArray → Prop} {hdr : ByteArray → Value} {xs : ByteArray → List α}
theorem Mem.rows_none (h : Mem w0 w F) : Mem w0 w (rowsK d e (fun _ => False) hdr xs :: F) := h.cons (Below.refl _ _) ⟨fun _ => ⟨#[]⟩, fun _ hk => hk.elim⟩
theorem Mem.rows_congr {S' : ByteArray → Prop} {hdr' : ByteArray → Value} {xs' : ByteArray → List α} (h : Mem w0 w F) (i : Nat) (hi : F[i]? = some (rowsK d e S hdr xs)) (hS : ∀ k, S' k → S k) (hh : ∀ k, S' k → hdr' k = hdr k) (hx : ∀ k, S' k → xs' k = xs k) : Mem w0 w (F.set i (rowsK d e S' hdr' xs')) :=
  h.imp hi _ (fun f ⟨c, hc⟩ => ⟨c, fun k hk => by rw [hh k hk, hx k hk]; exact hc k (hS k hk)⟩)
/-- One key's row is read. -/
theorem Mem.rows_at (h : Mem w0 w F) (i : Nat) (hi : F[i]? = some (rowsK d e S hdr xs)) {k : ByteArray} (hk : S k) : ∃ A c, hdr k = .slice A (xs k).length c ∧ (xs k).length ≤ c ∧ d.C w A (xs k).length (xs k) := by
  obtain ⟨c, hc⟩ := h.hold hi
  exact Kd.R_reads (hc k hk)
/-- .. and taken out. -/
theorem Mem.rows_take (h : Mem w0 w (rowsK d e S hdr xs :: F)) {k : ByteArray} (hk : S k) {S' : ByteArray → Prop} (hS : ∀ j, S' j → ¬ j = k ∧ S j) : Mem w0 w (row d e (hdr k) (xs k) :: rowsK d e S' hdr xs :: F) := by
  obtain ⟨h1, h2, h3, h4, h5, c, h6⟩ := h
  obtain ⟨ck, hck⟩ := h6 0 _ rfl
  open Classical in
  refine ⟨h1, h2, h3, h4, h5, fun b => if c b = 0 then (if ck b = k then 0 else 1) else c b + 1, fun i r hr => ?_⟩
  match i, hr with
  | 0, hr =>
    have : r = row d e (hdr k) (xs k) := by simpa using hr.symm
    subst this
    refine (row d e (hdr k) (xs k)).mono (fun b hb => ⟨hb.1.1, hb.1.2.1, ?_⟩) (hck k hk)
    simp only [hb.1.2.2, hb.2, if_true]
  | 1, hr =>
    have : r = rowsK d e S' hdr xs := by simpa using hr.symm
    subst this
    refine ⟨ck, fun j hj => (row d e (hdr j) (xs j)).mono (fun b hb => ⟨⟨hb.1.1, hb.1.2.1, ?_⟩, hb.2⟩) (hck j (hS j hj).2)⟩
    simp only [hb.1.2.2, if_true]
    rw [if_neg (by rw [hb.2]; exact (hS j hj).1)]
  | i + 2, hr =>
    have hr' : (rowsK d e S hdr xs :: F)[i + 1]? = some r := by simpa using hr
    refine r.mono (fun b hb => ⟨hb.1, hb.2.1, ?_⟩) (h6 (i + 1) r hr')
    simp only [hb.2.2]
    rw [if_neg (by omega)]
/-- .. and laid in. -/
theorem Mem.rows_put {v : Value} {ys : List α} (h : Mem w0 w (row d e v ys :: rowsK d e S hdr xs :: F)) {k : ByteArray} (hk : ¬ S k) {S' : ByteArray → Prop} {hdr' : ByteArray → Value} {xs' : ByteArray → List α} (hS : ∀ j, S' j → j = k ∨ S j) (hv : hdr' k = v) (hy : xs' k = ys) (hh : ∀ j, ¬ j = k → S' j → hdr' j = hdr j ∧ xs' j = xs j) : Mem w0 w (rowsK d e S' hdr' xs' :: F) := by
  obtain ⟨h1, h2, h3, h4, h5, c, h6⟩ := h
  have hr0 := h6 0 _ rfl
  obtain ⟨ck, hck⟩ := h6 1 _ rfl
  open Classical in
  refine ⟨h1, h2, h3, h4, h5, fun b => if c b ≤ 1 then 0 else c b - 1, fun i r hr => ?_⟩
  cases i with
  | zero =>
    have : r = rowsK d e S' hdr' xs' := by simpa using hr.symm
    subst this
    refine ⟨fun b => if c b = 0 then k else ck b, fun j hj => ?_⟩
    by_cases e1 : j = k
    · subst e1
      rw [hv, hy]
      refine (row d e v ys).mono (fun b hb => ⟨⟨hb.1, hb.2.1, ?_⟩, ?_⟩) hr0
      · simp only [hb.2.2]; rfl
      · simp only [hb.2.2, if_true]
    · have hs := (hS j hj).resolve_left e1
      rw [(hh j e1 hj).1, (hh j e1 hj).2]
      refine (row d e (hdr j) (xs j)).mono (fun b hb => ⟨⟨hb.1.1, hb.1.2.1, ?_⟩, ?_⟩) (hck j hs)
      · simp only [hb.1.2.2]; rfl
      · simp only [hb.1.2.2]
        exact hb.2
  | succ i =>
    have hr' : (row d e v ys :: rowsK d e S hdr xs :: F)[i + 2]? = some r := by simpa using hr
    refine r.mono (fun b hb => ⟨hb.1, hb.2.1, ?_⟩) (h6 (i + 2) r hr')
    simp only [hb.2.2]
    rw [if_neg (by omega)]
    rfl
end
/-! ### several as one -/
section
variable {w0 w : World} {F L : List Res}
theorem Mem.open_star (h : Mem w0 w (star L :: F)) : Mem w0 w (L ++ F) := by
  obtain ⟨h1, h2, h3, h4, h5, c, h6⟩ := h
  obtain ⟨cs, hs⟩ := h6 0 _ rfl
  refine ⟨h1, h2, h3, h4, h5, fun b => if c b = 0 then (if cs b < L.length then cs b else L.length + F.length) else L.length + (c b - 1), fun i r hr => ?_⟩
  by_cases hi : i < L.length
  · rw [List.getElem?_append_left hi] at hr
    refine r.mono (fun b hb => ⟨hb.1.1, hb.1.2.1, ?_⟩) (hs i r hr)
    simp only [hb.1.2.2, hb.2, if_true]
    rw [if_pos hi]
  · rw [List.getElem?_append_right (by omega)] at hr
    refine r.mono (fun b hb => ⟨hb.1, hb.2.1, ?_⟩) (h6 (i - L.length + 1) r (by simpa using hr))
    simp only [hb.2.2]
    rw [if_neg (by omega)]
    omega
theorem Mem.shut_star (h : Mem w0 w (L ++ F)) : Mem w0 w (star L :: F) := by
  obtain ⟨h1, h2, h3, h4, h5, c, h6⟩ := h
  refine ⟨h1, h2, h3, h4, h5, fun b => if c b < L.length then 0 else c b - L.length + 1, fun i r hr => ?_⟩
  cases i with
  | zero =>
    have : r = star L := by simpa using hr.symm
    subst this
    refine ⟨c, fun j q hq => ?_⟩
    have hj := (List.getElem?_eq_some_iff.1 hq).1
    refine q.mono (fun b hb => ⟨⟨hb.1, hb.2.1, ?_⟩, hb.2.2⟩) (h6 j q (by rw [List.getElem?_append_left hj]; exact hq))
    simp only [hb.2.2]
    rw [if_pos hj]
  | succ i =>
    refine r.mono (fun b hb => ⟨hb.1, hb.2.1, ?_⟩) (h6 (L.length + i) r (by rw [List.getElem?_append_right (by omega), show L.length + i - L.length = i by omega]; simpa using hr))
    simp only [hb.2.2]
    rw [if_neg (by omega)]
    omega
end
end Go.Proofs.Ytookpmdgoednfaa.Mx
namespace Go.Proofs.YtookpmdgoednfaaW.PrintWords
end Go.Proofs.YtookpmdgoednfaaW.PrintWords
namespace Kd
end Kd
-- PRINTED BY print.sh 35421559b90ae4d0a3588c463048766b98c2df88dd9212a6774a882060cdf62d: not written by this session
/-! ### 54. Behind orders that were drawn quietly: the same facts at the world's new name; a flat row's foot -/
namespace Go.Proofs.YtookpmdgoednfaaW.PrintWords
open Go.RowKit
section
variable {w w' u : World} {m B g : Nat} {o : Obj} {row : Option Nat} {S : Nat → Prop} {a : Addr} {v : Value}
theorem blk_at (hq : w.drewN m = w') (h : w.heap[g]? = some o) : w'.heap[g]? = some o := by subst hq; exact h
end
namespace Kd
section
variable {α : Type} {d : Kd α} {e base n m : Nat} {ok : Nat → Prop} {w w' : World} {v : Value} {A : Option Addr} {xs : List α}
end
end Kd
end Go.Proofs.YtookpmdgoednfaaW.PrintWords
-- PRINTED BY print.sh 35421559b90ae4d0a3588c463048766b98c2df88dd9212a6774a882060cdf62d: not written by this session
/-! ### 53. '==' of structs as_ one Bool -/
namespace Go.Proofs.YtookpmdgoednfaaW.PrintWords
open Go.RowKit
section
variable {P : Program} {d : Nat} {xs ys : Array Value} {f : Field} {fs : List Field} {a b : Value} {r s : Bool} {w : World}
/-- The last field that counts. -/
theorem eqf_last (hn : (f.name == "_") = false) (ha : (part f.type xs f.offset).run P w = .ok a w) (hb : (part f.type ys f.offset).run P w = .ok b w) (he : (Op.equalIn d f.type a b).run P w = .ok r w) : (Op.eqFields d xs ys [f]).run P w = .ok r w := by
  have hn' : f.name ≠ "_" := by simpa using hn
  simp only [Op.eqFields, if_pos hn', Sem.run_bind, ha, hb, he, Result.andThen_ok]
  cases r <;> simp
theorem eqf_cons (hn : (f.name == "_") = false) (ha : (part f.type xs f.offset).run P w = .ok a w) (hb : (part f.type ys f.offset).run P w = .ok b w) (he : (Op.equalIn d f.type a b).run P w = .ok r w) (hr : (Op.eqFields d xs ys fs).run P w = .ok s w) : (Op.eqFields d xs ys (f :: fs)).run P w = .ok (r && s) w := by
  have hn' : f.name ≠ "_" := by simpa using hn
  rw [Op.eqFields]
  simp only [if_pos hn', Sem.run_bind, ha, hb, he, Result.andThen_ok]
  cases r
  · simp
  · simpa using hr
theorem eqA_of {t : TypeId} {fs : Array Field} (hu : P.underlying t = some (.struct fs)) (hp : P.stoodInHeld t = false) (h : (Op.eqFields d xs ys fs.toList).run P w = .ok r w) : (Op.equalIn (d + 1) t (.agg xs) (.agg ys)).run P w = .ok r w := by
  have hf : P.fieldsOf t = fs := by simp [Program.fieldsOf, hu]
  rw [run_equalIn_struct (P := P) w d t xs ys (by rw [hf]; exact hu) hp, hf]
  exact h
end
end Go.Proofs.YtookpmdgoednfaaW.PrintWords
-- PRINTED BY print.sh 35421559b90ae4d0a3588c463048766b98c2df88dd9212a6774a882060cdf62d: not written by this session
/-! ### 57. A region of open order by ONE relation over what is listed so far: each operation is shown once, whatever came up before it -/
namespace Go.Proofs.YtookpmdgoednfaaW.PrintLast
/-- Number i is listed too. -/
def up (b : Nat → Bool) (i : Nat) : Nat → Bool := fun j => if j = i then true else b j
section
variable {P : Program} {ops : Array Oper} {Q : Exit → Act → World → Prop} {md : Region.Mode} {T : Bool × List (List Nat × List Nat)} {B : List Nat} {O : List Nat} {b : Nat → Bool} {i j n : Nat}
/-! The frame: what is listed has its destination filled. -/
end
end Go.Proofs.YtookpmdgoednfaaW.PrintLast
namespace Go.Proofs.YtookpmdgoednfaaW.PrintWords
end Go.Proofs.YtookpmdgoednfaaW.PrintWords
namespace Go.Proofs.YtookpmdgoednfaaW.PrintLast
end Go.Proofs.YtookpmdgoednfaaW.PrintLast
-- PRINTED BY print.sh 35421559b90ae4d0a3588c463048766b98c2df88dd9212a6774a882060cdf62d: not written by this session
/-! ### 58. A guarded operation whose guard is known to want it: the same goal without the guard -/
namespace Go.Proofs.YtookpmdgoednfaaW.PrintWords
open Go.RowKit
section
variable {P : Program} {ops : Array Oper} {rest : List Oper} {o : Oper} {a : Act} {Q : Exit → Act → World → Prop} {W : World}
/-- The gate takes the guard off (hw: 'by rfl', 'by kernel_rfl': the guard's slot holds what is wanted). -/
theorem gate_guard (hw : Region.wanted o (yielded ops a.tmps) = true) (h : wpList P ops Q ({ o with guard := none } :: rest) a W) : wpList P ops Q (o :: rest) a W := by
  have h1 : Region.wanted { o with guard := none } (yielded ops a.tmps) = true := rfl
  unfold wpList at h ⊢
  rw [if_pos h1] at h
  rw [if_pos hw]
  exact h
end
end Go.Proofs.YtookpmdgoednfaaW.PrintWords
-- PRINTED BY print.sh 35421559b90ae4d0a3588c463048766b98c2df88dd9212a6774a882060cdf62d: not written by this session
namespace Go.Proofs.Ytookpmdgoednfaa.PPagePuts
open Go.RowKit YtookpmdgoednfaaW.PrintWords YtookpmdgoednfaaW.PrintLast YtookpmdgoednfaaW.PrintMore
attribute [local go_sem] max2_int min2_int max_two min_two max_three min_three max_four min_four   -- for this text's walks alone
def errW : Option Int → Value
  | none => .nilIface
  | some c => .iface 0 (.int .i64 c)
theorem errW_none : errW none = .nilIface := rfl
theorem errW_some (c : Int) : errW (some c) = .iface 0 (.int .i64 c) := rfl
theorem info32 : (Try.prog.info? 32).map (fun i => (i.zero, i.size, i.bytes)) = some (some (.slice none 0 0), 1, 24) := by kernel_rfl
theorem info41 : (Try.prog.info? 41).map (fun i => (i.zero, i.size, i.bytes)) = some (some (.agg #[(.string ⟨#[]⟩), (.string ⟨#[]⟩)]), 2, 32) := by kernel_rfl
-- the values' own types
/-! #### struct type 41 -/
structure S41 where
  f0 : ByteArray
  f1 : ByteArray
def z41 : S41 := ⟨(⟨#[]⟩ : ByteArray), (⟨#[]⟩ : ByteArray)⟩
def k41 : Kd S41 := Kd.iso (Kd.pair Kd.string Kd.string) (fun x : S41 => (x.f0, x.f1))
theorem k41_open {w : World} {x : S41} {cs : List Value} (h : k41.K w x cs) : cs = [.string x.f0, .string x.f1] := by
  obtain ⟨_, _, rfl, rfl, rfl⟩ := h
  exact rfl
theorem k41_openM {w : World} {base : Nat} {ok : Nat → Prop} {x : S41} {cs : List Value} (h : k41.M w base ok x cs) : cs = [.string x.f0, .string x.f1] := by
  obtain ⟨_, _, rfl, rfl, rfl⟩ := h
  exact rfl
theorem k41_mkM (w : World) (base : Nat) (ok : Nat → Prop) (x : S41)  : k41.M w base ok x [.string x.f0, .string x.f1] := ⟨[.string x.f0], [.string x.f1], rfl, rfl, rfl⟩
def rd_T41 (xs : List S41) (i : Int) : S41 := xs.getD i.toNat z41
theorem at_T41 {w : World} {A : Option Addr} {n : Nat} {xs : List S41} (h : Kd.C k41 w A n xs) (i : Int) (h0 : 0 ≤ i) (h1 : i < n) : ∃ ad , A = some ad ∧ w.cell? (ad.add (i.toNat * 2)) = some (.string (rd_T41 xs i).f0) ∧ w.cell? ⟨(ad.add (i.toNat * 2)).block, (ad.add (i.toNat * 2)).off + 1, none⟩ = some (.string (rd_T41 xs i).f1) := by
  obtain ⟨ad, c, e, _, hK, hc0⟩ := Kd.C_get h z41 i h0 h1
  have hc : ∀ j u, c[j]? = some u → w.cell? (ad.add (i.toNat * 2 + j)) = some u := hc0
  obtain rfl := k41_open hK
  exact ⟨ad, e, hc 0 _ rfl, by rw [← add_field _ _ 1 (by omega)]; exact hc 1 _ rfl⟩
def rd_L2 (xs : List (List S41)) (i : Int) : (List S41) := xs.getD i.toNat ([] : List S41)
theorem at_L2 {w : World} {A : Option Addr} {n : Nat} {xs : List (List S41)} (h : Kd.C (Kd.slice 41 k41) w A n xs) (i : Int) (h0 : 0 ≤ i) (h1 : i < n) : ∃ ad A0 c0, A = some ad ∧ w.cell? (ad.add i.toNat) = some (.slice A0 (rd_L2 xs i).length c0) ∧ (rd_L2 xs i).length ≤ c0 ∧ k41.C w A0 (rd_L2 xs i).length (rd_L2 xs i) := by
  obtain ⟨ad, c, e, _, hK, hc0⟩ := Kd.C_get h ([] : List S41) i h0 h1
  have hc : ∀ j u, c[j]? = some u → w.cell? (ad.add (i.toNat * 1 + j)) = some u := hc0
  obtain ⟨A0, c0, rfl, l0, g0⟩ := hK
  exact ⟨ad, A0, c0, e, by have hq := hc 0 _ rfl; rwa [Nat.mul_one, Nat.add_zero] at hq, l0, g0⟩
end Go.Proofs.Ytookpmdgoednfaa.PPagePuts
-- PRINTED BY print.sh 35421559b90ae4d0a3588c463048766b98c2df88dd9212a6774a882060cdf62d: not written by this session
namespace Go.Proofs.Ytookpmdgoednfaa.PPagePuts
open Go.RowKit YtookpmdgoednfaaW.PrintWords YtookpmdgoednfaaW.PrintLast YtookpmdgoednfaaW.PrintMore
attribute [local go_sem] max2_int min2_int max_two min_two max_three min_three max_four min_four   -- for this text's walks alone
theorem eqA41 (d : Nat) (w : World) (x0 y0 : ByteArray) (x1 y1 : ByteArray) :
    (Op.equalIn (d + 2) 41 (.agg #[.string x0, .string x1]) (.agg #[.string y0, .string y1])).run Try.prog w = .ok (x0.toList == y0.toList && (x1.toList == y1.toList)) w := by
  refine eqA_of Try.underlying41 (by kernel_rfl) ?_
  refine eqf_cons (by rfl) (by go_simp; rfl) (by go_simp; rfl) (by go_simp) ?_
  exact eqf_last (by rfl) (by go_simp; rfl) (by go_simp; rfl) (by go_simp)
end Go.Proofs.Ytookpmdgoednfaa.PPagePuts
namespace Go.Proofs.Ytookpmdgoednfaa.Le
theorem bl_tri : ∀ (a b : List UInt8), (Op.bytesLess a b || a == b) = !(Op.bytesLess b a)
  | [], [] => by simp [Op.bytesLess]
  | [], b :: y => by simp [Op.bytesLess]
  | a :: x, [] => by simp [Op.bytesLess]
  | a :: x, b :: y => by
    have ih := bl_tri x y
    simp only [Op.bytesLess]
    rcases Nat.lt_trichotomy a.toNat b.toNat with h | h | h
    · have h1 : a < b := h
      have h2 : ¬ b < a := fun g => by have : b.toNat < a.toNat := g; omega
      have h3 : ¬ b = a := fun g => by subst g; omega
      simp [h1, h2, h3]
    · have h3 : a = b := UInt8.toNat_inj.1 h
      subst h3
      have h2 : ¬ a < a := fun g => by have : a.toNat < a.toNat := g; omega
      simp [h2] at ih ⊢
      exact ih
    · have h1 : ¬ a < b := fun g => by have : a.toNat < b.toNat := g; omega
      have h2 : b < a := h
      have h3 : ¬ a = b := fun g => by subst g; omega
      simp [h1, h2, h3]
theorem str_leq (t : TypeId) (a b : ByteArray) : binOp .leq t (.string a) (.string b) = pure (.bool !(Op.bytesLess b.toList a.toList)) := by
  have : binOp .leq t (.string a) (.string b) = pure (.bool (Op.bytesLess a.toList b.toList || a.toList == b.toList)) := by simp [binOp, Op.stringOp]
  rw [this, bl_tri]
theorem str_gtr (t : TypeId) (a b : ByteArray) : binOp .gtr t (.string a) (.string b) = pure (.bool (Op.bytesLess b.toList a.toList)) := by
  have : binOp .gtr t (.string a) (.string b) = pure (.bool !(Op.bytesLess a.toList b.toList || a.toList == b.toList)) := by simp [binOp, Op.stringOp]
  rw [this, bl_tri, Bool.not_not]
theorem str_geq (t : TypeId) (a b : ByteArray) : binOp .geq t (.string a) (.string b) = pure (.bool !(Op.bytesLess a.toList b.toList)) := by simp [binOp, Op.stringOp]
end Go.Proofs.Ytookpmdgoednfaa.Le
