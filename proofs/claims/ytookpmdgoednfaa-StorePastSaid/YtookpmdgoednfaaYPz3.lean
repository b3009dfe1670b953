/- Texts laid together: Fl, WFootNe, WAt, WEqStruct, WInv, WInvWords, WGuard, PPagePutsx0, PPagePutsx1, Le. No condition. -/
import Derived.Laws.IdiomCopy
import Derived.Shelf.Spec.SlicesInsert
import Derived.Laws.StructEq
import Derived.Test.YtookpmdgoednfaaProg
import Derived.Below
import Derived.Deep.Draws
import Derived.Deep.AppendLies
import Derived.Maps.AppendAt
import Derived.OwnWalk
import Derived.Laws.BytesArg
import Derived.Laws.MakeOwn
import Derived.Laws.OwnMore
import Derived.Deep.OwnRows
import Derived.Tactics
import Derived.Lib.ConvBytes
import Derived.Laws.Slices
import Derived.WalkKit
import Derived.KernelRfl
import Derived.RowKit3
import Derived.Deep.LoopGhost
import Derived.Deep.QuietTactic
import Derived.BigQuiet
import Derived.WideLaws
import Derived.Deep.DeepCutAuto
import Derived.Deep.CutBlock
import Derived.Deep.RegionHeld3
import Derived.Laws.Rows
import Derived.Lib.AppendStr
import Derived.ArgAppend
import Derived.OrdersHeld
import Derived.Laws.BitsLemmas
import Derived.RowKit
import Derived.Sort.Walk0
import Derived.Laws.Strings
import Derived.Test.YtookpmdgoednfaaYPz2
set_option linter.unusedVariables false
set_option linter.unusedSimpArgs false
set_option maxRecDepth 100000
set_option maxHeartbeats 8000000
namespace Go.Proofs.Ytookpmdgoednfaa.Mx
open Go.RowKit YtookpmdgoednfaaW.PrintWords YtookpmdgoednfaaW.PrintLast YtookpmdgoednfaaW.PrintMore
/-- A kind whose elements are their cells alone. -/
structure Flat {α : Type} (d : Kd α) (enc : α → List Value) : Prop where
  out_ : ∀ {w : World} {base : Nat} {ok : Nat → Prop} {x : α} {cs : List Value}, d.M w base ok x cs → cs = enc x
  mk_ : ∀ (w : World) (base : Nat) (ok : Nat → Prop) (x : α), d.M w base ok x (enc x)
  rd_ : ∀ {w : World} {x : α} {cs : List Value}, d.K w x cs → cs = enc x
theorem Flat.len {α : Type} {d : Kd α} {enc : α → List Value} (h : Flat d enc) (w : World) (x : α) : (enc x).length = d.sz := d.K_len (d.K_of_M (h.mk_ w 0 (fun _ => True) x))
theorem Flat.one {α : Type} {d : Kd α} {enc : α → List Value} (h : Flat d enc) (w : World) (x : α) : ∀ u ∈ enc x, u.oneCell' = true := d.K_one (d.K_of_M (h.mk_ w 0 (fun _ => True) x))
theorem flat_len {α : Type} {enc : α → List Value} {sz : Nat} (hl : ∀ x, (enc x).length = sz) : ∀ (xs : List α), (xs.flatMap enc).length = xs.length * sz
  | [] => by simp
  | x :: xs => by rw [List.flatMap_cons, List.length_append, flat_len hl xs, hl, List.length_cons, Nat.succ_mul, Nat.add_comm]
theorem flat_take {α : Type} {enc : α → List Value} {sz : Nat} (hl : ∀ x, (enc x).length = sz) (xs : List α) (k : Nat) : (xs.flatMap enc).take (k * sz) = (xs.take k).flatMap enc := by
  induction xs generalizing k with
  | nil => simp
  | cons x xs ih =>
    cases k with
    | zero => simp
    | succ k =>
      rw [List.flatMap_cons, List.take_succ_cons, List.flatMap_cons, ← ih k, List.take_append, hl, Nat.succ_mul, Nat.add_sub_cancel, List.take_of_length_le (by rw [hl]; omega)]
theorem flat_drop {α : Type} {enc : α → List Value} {sz : Nat} (hl : ∀ x, (enc x).length = sz) (xs : List α) (k : Nat) : (xs.flatMap enc).drop (k * sz) = (xs.drop k).flatMap enc := by
  induction xs generalizing k with
  | nil => simp
  | cons x xs ih =>
    cases k with
    | zero => simp
    | succ k =>
      rw [List.flatMap_cons, List.drop_succ_cons, ← ih k, List.drop_append, hl, Nat.succ_mul, Nat.add_sub_cancel, List.drop_eq_nil_of_le (by rw [hl]; omega), List.nil_append]
theorem reps_flat {α : Type} {R : α → List Value → Prop} {enc : α → List Value} {sz : Nat} (hl : ∀ x, (enc x).length = sz) (hR : ∀ x cs, R x cs → cs = enc x) : ∀ (xs : List α) (inner : List Value), Reps R sz xs inner → inner = xs.flatMap enc
  | [], inner, h => by
    have := h.1
    simp at this
    rw [this]
    simp
  | x :: xs, inner, h => by
    have h0 := hR x _ (by have := h.2 0 x rfl; rwa [Nat.zero_mul, List.drop_zero] at this)
    have h1 : Reps R sz xs (inner.drop sz) := by
      refine ⟨by rw [List.length_drop, h.1, List.length_cons, Nat.succ_mul, Nat.add_sub_cancel], fun j p hj => ?_⟩
      have := h.2 (j + 1) p (by simpa using hj)
      rw [Nat.succ_mul, Nat.add_comm] at this
      rwa [List.drop_drop]
    rw [List.flatMap_cons, ← h0, ← reps_flat hl hR xs _ h1, List.take_append_drop]
theorem flat_reps {α : Type} {R : α → List Value → Prop} {enc : α → List Value} {sz : Nat} (hl : ∀ x, (enc x).length = sz) (hR : ∀ x, R x (enc x)) : ∀ (xs : List α), Reps R sz xs (xs.flatMap enc)
  | [] => by simpa using Reps.none R sz
  | x :: xs => Reps.front (hR x) (hl x) (flat_reps hl hR xs) (by rw [List.flatMap_cons])
section
variable {α : Type} {d : Kd α} {enc : α → List Value} {w0 w : World} {rs : List Res}
/-- A row, known whole. -/
theorem Mem.row_blk (hF : Flat d enc) (h : Mem w0 w rs) (i : Nat) {e g n c : Nat} {xs : List α} (hi : rs[i]? = some (Mx.row d e (.slice (some ⟨g, 0, none⟩) n c) xs)) :
    ∃ cs : Array Value, cs.size = c * d.sz ∧ cs.toList.take (n * d.sz) = xs.flatMap enc ∧ n = xs.length ∧ n ≤ c ∧ c ≤ maxLen ∧ Mem w0 w (rs.set i (Mx.blk g e cs)) := by
  have hh := h.hold hi
  have hnx := (Kd.R_reads' hh).1
  obtain ⟨hok, inner, hown, hr⟩ := hh
  rcases hown.2 with ⟨hv, _⟩ | ⟨g', cap', cur, hv, hb, hheap, hl, hcm, hcs, htake⟩
  · cases hv
  injection hv with ha _ hc
  injection ha with ha
  injection ha with hg
  subst hg; subst hc
  refine ⟨cur, hcs, ?_, hnx, by omega, hcm, h.imp hi _ (fun f hf => ⟨hheap, hf.1 g (by simp [Value.ownBlock])⟩)⟩
  have e1 := reps_flat (hF.len w) (fun x cs hx => hF.out_ hx) xs inner hr
  rw [← e1, ← htake, hnx]
/-- A block that holds a row's cells is the row. -/
theorem Mem.blk_row (hF : Flat d enc) (h : Mem w0 w rs) (i : Nat) {e g c : Nat} {cs : Array Value} (xs : List α) (hi : rs[i]? = some (Mx.blk g e cs)) (hs : cs.size = c * d.sz) (ht : cs.toList.take (xs.length * d.sz) = xs.flatMap enc) (hn : xs.length ≤ c) (hc : c ≤ maxLen) :
    Mem w0 w (rs.set i (Mx.row d e (.slice (some ⟨g, 0, none⟩) xs.length c) xs)) := by
  refine h.imp hi _ (fun f hf => ⟨fun k hk => ?_, xs.flatMap enc, ⟨flat_len (hF.len w) xs, .inr ⟨g, c, cs, rfl, Nat.zero_le _, hf.1, hn, hc, hs, ?_⟩⟩, flat_reps (hF.len w) (fun x => hF.mk_ _ _ _ x) xs⟩)
  · have : g = k := by simpa [Value.ownBlock] using hk
    subst this
    exact hf.2
  · exact ht
/-- Some of a block's cells are set. -/
theorem Mem.setRange (h : Mem w0 w rs) (i : Nat) {g T : Nat} {cs : Array Value} (hi : rs[i]? = some (Mx.blk g T cs)) (o : Nat) (vs : List Value) (hfit : o + vs.length ≤ cs.size) :
    ∃ cs' : Array Value, cs'.toList = cs.toList.take o ++ vs ++ cs.toList.drop (o + vs.length) ∧ cs'.size = cs.size ∧ Mem w0 (w.setCells g o vs) (rs.set i (Mx.blk g T cs')) := by
  obtain ⟨cur', g1, g2, g3⟩ := setCells_row vs o w cs (h.blk_at i hi) hfit
  obtain ⟨f, h1, h2, h3⟩ := h.take1 hi
  obtain ⟨e1, e2, e3, e4⟩ := setCells_same g vs o w
  exact ⟨cur', g3, g2, h3 _ _ e1 e2 e3 (Nat.le_of_eq e4.symm) (fun k _ hf => setCells_far vs o k (fun e => hf (e ▸ h1.2))) ⟨g1, .inl h1.2⟩⟩
end
/-- 'copy': all is read ahead of what is written; elements of k cells. -/
theorem run_copyK {P : Program} (w : World) (dT sT ty elem : TypeId) (b o dLen dCap : Nat) (a : Addr) (sLen sCap k m : Nat) (cs : List Value)
    (hu : P.underlying dT = some (.slice elem)) (hs : (P.info? elem).map (·.size) = some k) (hm : Nat.min sLen dLen = m) (hn : cs.length = m * k)
    (hsrc : ∀ j v, cs[j]? = some v → w.cell? (a.add j) = some v) (hc : ∀ j, j < cs.length → (w.cell? ⟨b, o + j, none⟩).isSome = true) (hf : ∀ j, j < cs.length → w.frozen? ⟨b, o + j, none⟩ = false) (h1 : ∀ v ∈ cs, v.oneCell' = true) :
    (Builtin.copy_ #[dT, sT] ty #[.slice (some ⟨b, o, none⟩) dLen dCap, .slice (some a) sLen sCap]).run P w = .ok (goInt m) (w.setCells b o cs) := by
  have hl := run_loadCells_list (P := P) w a cs hsrc
  have hst := run_storeCells_cells (P := P) b o cs 0 w (by simpa using hc) (by simpa using hf) h1
  cases hq : P.info? elem with
  | none => simp [hq] at hs
  | some i =>
    have hi : i.size = k := by simpa [hq] using hs
    simp [Builtin.copy_, run_underlying hu, Builtin.lenOf, Builtin.firstCells, sizeOf, typeInfo, hq, hi, hm, ← hn, hl, hst]
/-- Some of the resources, by their places. -/
theorem Mem.reindex {w0 w : World} {rs rs' : List Res} (h : Mem w0 w rs) (f g : Nat → Nat) (hfg : ∀ i r, rs'[i]? = some r → rs[f i]? = some r ∧ g (f i) = i) : Mem w0 w rs' := by
  obtain ⟨h1, h2, h3, h4, h5, c, h6⟩ := h
  exact ⟨h1, h2, h3, h4, h5, fun k => g (c k), fun i r hi => r.mono (fun k hk => ⟨hk.1, hk.2.1, by show g (c k) = i; rw [hk.2.2]; exact (hfg i r hi).2⟩) (h6 (f i) r (hfg i r hi).1)⟩
/-- The second one goes behind a list. -/
theorem Mem.to_mid {w0 w : World} {a b : Res} {l F : List Res} (h : Mem w0 w (a :: b :: (l ++ F))) : Mem w0 w (a :: (l ++ b :: F)) := by
  refine h.reindex (fun i => if i = 0 then 0 else if i ≤ l.length then i + 1 else if i = l.length + 1 then 1 else i) (fun j => if j = 0 then 0 else if j = 1 then l.length + 1 else if j ≤ l.length + 1 then j - 1 else j) (fun i r hi => ?_)
  cases i with
  | zero => exact ⟨by simpa using hi, rfl⟩
  | succ i =>
    rw [List.getElem?_cons_succ] at hi
    rw [if_neg (by omega)]
    rcases Nat.lt_trichotomy i l.length with hl | hl | hl
    · rw [if_pos (by omega)]
      refine ⟨?_, by rw [if_neg (by omega), if_neg (by omega), if_pos (by omega)]; omega⟩
      rw [List.getElem?_cons_succ, List.getElem?_cons_succ, List.getElem?_append_left hl]
      rwa [List.getElem?_append_left hl] at hi
    · rw [if_neg (by omega), if_pos (by omega)]
      refine ⟨?_, by rw [if_neg (by omega), if_pos rfl]; omega⟩
      subst hl
      rw [List.getElem?_append_right (Nat.le_refl _), Nat.sub_self] at hi
      simpa using hi
    · rw [if_neg (by omega), if_neg (by omega)]
      refine ⟨?_, by rw [if_neg (by omega), if_neg (by omega), if_neg (by omega)]⟩
      rw [List.getElem?_append_right (by omega)] at hi
      rw [show i + 1 = (i - 1) + 1 + 1 by omega, List.getElem?_cons_succ, List.getElem?_cons_succ, List.getElem?_append_right (by omega)]
      rw [show i - l.length = (i - 1 - l.length) + 1 by omega, List.getElem?_cons_succ] at hi
      exact hi
/-- One behind a list comes to the second place. -/
theorem Mem.from_mid {w0 w : World} {a b : Res} {l F : List Res} (h : Mem w0 w (a :: (l ++ b :: F))) : Mem w0 w (a :: b :: (l ++ F)) := by
  refine h.reindex (fun j => if j = 0 then 0 else if j = 1 then l.length + 1 else if j ≤ l.length + 1 then j - 1 else j) (fun i => if i = 0 then 0 else if i ≤ l.length then i + 1 else if i = l.length + 1 then 1 else i) (fun i r hi => ?_)
  cases i with
  | zero => exact ⟨by simpa using hi, rfl⟩
  | succ i =>
    cases i with
    | zero =>
      refine ⟨?_, by simp⟩
      rw [if_neg (by omega), if_pos rfl, List.getElem?_cons_succ, List.getElem?_append_right (Nat.le_refl _), Nat.sub_self]
      simpa using hi
    | succ i =>
      rw [List.getElem?_cons_succ, List.getElem?_cons_succ] at hi
      rw [if_neg (by omega), if_neg (by omega)]
      rcases Nat.lt_or_ge i l.length with hl | hl
      · rw [if_pos (by omega)]
        refine ⟨?_, by rw [if_neg (by omega), if_pos (by omega)]; omega⟩
        rw [show i + 1 + 1 - 1 = i + 1 by omega, List.getElem?_cons_succ, List.getElem?_append_left hl]
        rwa [List.getElem?_append_left hl] at hi
      · rw [if_neg (by omega)]
        refine ⟨?_, by rw [if_neg (by omega), if_neg (by omega), if_neg (by omega)]⟩
        rw [List.getElem?_append_right hl] at hi
        rw [List.getElem?_cons_succ, List.getElem?_append_right (by omega), show i + 1 - l.length = (i - l.length) + 1 by omega, List.getElem?_cons_succ]
        exact hi
end Go.Proofs.Ytookpmdgoednfaa.Mx
namespace Go.Proofs.YtookpmdgoednfaaW.PrintWords
end Go.Proofs.YtookpmdgoednfaaW.PrintWords
namespace Kd
end Kd
-- PRINTED BY print.sh 35421559b90ae4d0a3588c463048766b98c2df88dd9212a6774a882060cdf62d: not written by this session
/-! ### 54. Behind orders that were drawn quietly: the same facts at the world's new name; a flat row's foot -/
namespace Go.Proofs.YtookpmdgoednfaaW.PrintWords
open Go.RowKit
section
variable {w w' u : World} {m B g : Nat} {o : Obj} {row : Option Nat} {S : Nat → Prop} {a : Addr} {v : Value}
theorem blk_at (hq : w.drewN m = w') (h : w.heap[g]? = some o) : w'.heap[g]? = some o := by subst hq; exact h
end
namespace Kd
section
variable {α : Type} {d : Kd α} {e base n m : Nat} {ok : Nat → Prop} {w w' : World} {v : Value} {A : Option Addr} {xs : List α}
end
end Kd
end Go.Proofs.YtookpmdgoednfaaW.PrintWords
-- PRINTED BY print.sh 35421559b90ae4d0a3588c463048766b98c2df88dd9212a6774a882060cdf62d: not written by this session
/-! ### 53. '==' of structs as_ one Bool -/
namespace Go.Proofs.YtookpmdgoednfaaW.PrintWords
open Go.RowKit
section
variable {P : Program} {d : Nat} {xs ys : Array Value} {f : Field} {fs : List Field} {a b : Value} {r s : Bool} {w : World}
/-- The last field that counts. -/
theorem eqf_last (hn : (f.name == "_") = false) (ha : (part f.type xs f.offset).run P w = .ok a w) (hb : (part f.type ys f.offset).run P w = .ok b w) (he : (Op.equalIn d f.type a b).run P w = .ok r w) : (Op.eqFields d xs ys [f]).run P w = .ok r w := by
  have hn' : f.name ≠ "_" := by simpa using hn
  simp only [Op.eqFields, if_pos hn', Sem.run_bind, ha, hb, he, Result.andThen_ok]
  cases r <;> simp
theorem eqf_cons (hn : (f.name == "_") = false) (ha : (part f.type xs f.offset).run P w = .ok a w) (hb : (part f.type ys f.offset).run P w = .ok b w) (he : (Op.equalIn d f.type a b).run P w = .ok r w) (hr : (Op.eqFields d xs ys fs).run P w = .ok s w) : (Op.eqFields d xs ys (f :: fs)).run P w = .ok (r && s) w := by
  have hn' : f.name ≠ "_" := by simpa using hn
  rw [Op.eqFields]
  simp only [if_pos hn', Sem.run_bind, ha, hb, he, Result.andThen_ok]
  cases r
  · simp
  · simpa using hr
theorem eqA_of {t : TypeId} {fs : Array Field} (hu : P.underlying t = some (.struct fs)) (hp : P.stoodInHeld t = false) (h : (Op.eqFields d xs ys fs.toList).run P w = .ok r w) : (Op.equalIn (d + 1) t (.agg xs) (.agg ys)).run P w = .ok r w := by
  have hf : P.fieldsOf t = fs := by simp [Program.fieldsOf, hu]
  rw [run_equalIn_struct (P := P) w d t xs ys (by rw [hf]; exact hu) hp, hf]
  exact h
end
end Go.Proofs.YtookpmdgoednfaaW.PrintWords
-- PRINTED BY print.sh 35421559b90ae4d0a3588c463048766b98c2df88dd9212a6774a882060cdf62d: not written by this session
/-! ### 57. A region of open order by ONE relation over what is listed so far: each operation is shown once, whatever came up before it -/
namespace Go.Proofs.YtookpmdgoednfaaW.PrintLast
/-- Number i is listed too. -/
def up (b : Nat → Bool) (i : Nat) : Nat → Bool := fun j => if j = i then true else b j
section
variable {P : Program} {ops : Array Oper} {Q : Exit → Act → World → Prop} {md : Region.Mode} {T : Bool × List (List Nat × List Nat)} {B : List Nat} {O : List Nat} {b : Nat → Bool} {i j n : Nat}
/-! The frame: what is listed has its destination filled. -/
end
end Go.Proofs.YtookpmdgoednfaaW.PrintLast
namespace Go.Proofs.YtookpmdgoednfaaW.PrintWords
end Go.Proofs.YtookpmdgoednfaaW.PrintWords
namespace Go.Proofs.YtookpmdgoednfaaW.PrintLast
end Go.Proofs.YtookpmdgoednfaaW.PrintLast
-- PRINTED BY print.sh 35421559b90ae4d0a3588c463048766b98c2df88dd9212a6774a882060cdf62d: not written by this session
/-! ### 58. A guarded operation whose guard is known to want it: the same goal without the guard -/
namespace Go.Proofs.YtookpmdgoednfaaW.PrintWords
open Go.RowKit
section
variable {P : Program} {ops : Array Oper} {rest : List Oper} {o : Oper} {a : Act} {Q : Exit → Act → World → Prop} {W : World}
/-- The gate takes the guard off (hw: 'by rfl', 'by kernel_rfl': the guard's slot holds what is wanted). -/
theorem gate_guard (hw : Region.wanted o (yielded ops a.tmps) = true) (h : wpList P ops Q ({ o with guard := none } :: rest) a W) : wpList P ops Q (o :: rest) a W := by
  have h1 : Region.wanted { o with guard := none } (yielded ops a.tmps) = true := rfl
  unfold wpList at h ⊢
  rw [if_pos h1] at h
  rw [if_pos hw]
  exact h
end
end Go.Proofs.YtookpmdgoednfaaW.PrintWords
-- PRINTED BY print.sh 35421559b90ae4d0a3588c463048766b98c2df88dd9212a6774a882060cdf62d: not written by this session
namespace Go.Proofs.Ytookpmdgoednfaa.PPagePuts
open Go.RowKit YtookpmdgoednfaaW.PrintWords YtookpmdgoednfaaW.PrintLast YtookpmdgoednfaaW.PrintMore
attribute [local go_sem] max2_int min2_int max_two min_two max_three min_three max_four min_four   -- for this text's walks alone
def errW : Option Int → Value
  | none => .nilIface
  | some c => .iface 0 (.int .i64 c)
theorem errW_none : errW none = .nilIface := rfl
theorem errW_some (c : Int) : errW (some c) = .iface 0 (.int .i64 c) := rfl
theorem info32 : (Try.prog.info? 32).map (fun i => (i.zero, i.size, i.bytes)) = some (some (.slice none 0 0), 1, 24) := by kernel_rfl
theorem info41 : (Try.prog.info? 41).map (fun i => (i.zero, i.size, i.bytes)) = some (some (.agg #[(.string ⟨#[]⟩), (.string ⟨#[]⟩)]), 2, 32) := by kernel_rfl
-- the values' own types
/-! #### struct type 41 -/
structure S41 where
  f0 : ByteArray
  f1 : ByteArray
def z41 : S41 := ⟨(⟨#[]⟩ : ByteArray), (⟨#[]⟩ : ByteArray)⟩
def k41 : Kd S41 := Kd.iso (Kd.pair Kd.string Kd.string) (fun x : S41 => (x.f0, x.f1))
theorem k41_open {w : World} {x : S41} {cs : List Value} (h : k41.K w x cs) : cs = [.string x.f0, .string x.f1] := by
  obtain ⟨_, _, rfl, rfl, rfl⟩ := h
  exact rfl
theorem k41_openM {w : World} {base : Nat} {ok : Nat → Prop} {x : S41} {cs : List Value} (h : k41.M w base ok x cs) : cs = [.string x.f0, .string x.f1] := by
  obtain ⟨_, _, rfl, rfl, rfl⟩ := h
  exact rfl
theorem k41_mkM (w : World) (base : Nat) (ok : Nat → Prop) (x : S41)  : k41.M w base ok x [.string x.f0, .string x.f1] := ⟨[.string x.f0], [.string x.f1], rfl, rfl, rfl⟩
def rd_T41 (xs : List S41) (i : Int) : S41 := xs.getD i.toNat z41
theorem at_T41 {w : World} {A : Option Addr} {n : Nat} {xs : List S41} (h : Kd.C k41 w A n xs) (i : Int) (h0 : 0 ≤ i) (h1 : i < n) : ∃ ad , A = some ad ∧ w.cell? (ad.add (i.toNat * 2)) = some (.string (rd_T41 xs i).f0) ∧ w.cell? ⟨(ad.add (i.toNat * 2)).block, (ad.add (i.toNat * 2)).off + 1, none⟩ = some (.string (rd_T41 xs i).f1) := by
  obtain ⟨ad, c, e, _, hK, hc0⟩ := Kd.C_get h z41 i h0 h1
  have hc : ∀ j u, c[j]? = some u → w.cell? (ad.add (i.toNat * 2 + j)) = some u := hc0
  obtain rfl := k41_open hK
  exact ⟨ad, e, hc 0 _ rfl, by rw [← add_field _ _ 1 (by omega)]; exact hc 1 _ rfl⟩
def rd_L2 (xs : List (List S41)) (i : Int) : (List S41) := xs.getD i.toNat ([] : List S41)
theorem at_L2 {w : World} {A : Option Addr} {n : Nat} {xs : List (List S41)} (h : Kd.C (Kd.slice 41 k41) w A n xs) (i : Int) (h0 : 0 ≤ i) (h1 : i < n) : ∃ ad A0 c0, A = some ad ∧ w.cell? (ad.add i.toNat) = some (.slice A0 (rd_L2 xs i).length c0) ∧ (rd_L2 xs i).length ≤ c0 ∧ k41.C w A0 (rd_L2 xs i).length (rd_L2 xs i) := by
  obtain ⟨ad, c, e, _, hK, hc0⟩ := Kd.C_get h ([] : List S41) i h0 h1
  have hc : ∀ j u, c[j]? = some u → w.cell? (ad.add (i.toNat * 1 + j)) = some u := hc0
  obtain ⟨A0, c0, rfl, l0, g0⟩ := hK
  exact ⟨ad, A0, c0, e, by have hq := hc 0 _ rfl; rwa [Nat.mul_one, Nat.add_zero] at hq, l0, g0⟩
end Go.Proofs.Ytookpmdgoednfaa.PPagePuts
-- PRINTED BY print.sh 35421559b90ae4d0a3588c463048766b98c2df88dd9212a6774a882060cdf62d: not written by this session
namespace Go.Proofs.Ytookpmdgoednfaa.PPagePuts
open Go.RowKit YtookpmdgoednfaaW.PrintWords YtookpmdgoednfaaW.PrintLast YtookpmdgoednfaaW.PrintMore
attribute [local go_sem] max2_int min2_int max_two min_two max_three min_three max_four min_four   -- for this text's walks alone
theorem eqA41 (d : Nat) (w : World) (x0 y0 : ByteArray) (x1 y1 : ByteArray) :
    (Op.equalIn (d + 2) 41 (.agg #[.string x0, .string x1]) (.agg #[.string y0, .string y1])).run Try.prog w = .ok (x0.toList == y0.toList && (x1.toList == y1.toList)) w := by
  refine eqA_of Try.underlying41 (by kernel_rfl) ?_
  refine eqf_cons (by rfl) (by go_simp; rfl) (by go_simp; rfl) (by go_simp) ?_
  exact eqf_last (by rfl) (by go_simp; rfl) (by go_simp; rfl) (by go_simp)
end Go.Proofs.Ytookpmdgoednfaa.PPagePuts
namespace Go.Proofs.Ytookpmdgoednfaa.Le
theorem bl_tri : ∀ (a b : List UInt8), (Op.bytesLess a b || a == b) = !(Op.bytesLess b a)
  | [], [] => by simp [Op.bytesLess]
  | [], b :: y => by simp [Op.bytesLess]
  | a :: x, [] => by simp [Op.bytesLess]
  | a :: x, b :: y => by
    have ih := bl_tri x y
    simp only [Op.bytesLess]
    rcases Nat.lt_trichotomy a.toNat b.toNat with h | h | h
    · have h1 : a < b := h
      have h2 : ¬ b < a := fun g => by have : b.toNat < a.toNat := g; omega
      have h3 : ¬ b = a := fun g => by subst g; omega
      simp [h1, h2, h3]
    · have h3 : a = b := UInt8.toNat_inj.1 h
      subst h3
      have h2 : ¬ a < a := fun g => by have : a.toNat < a.toNat := g; omega
      simp [h2] at ih ⊢
      exact ih
    · have h1 : ¬ a < b := fun g => by have : a.toNat < b.toNat := g; omega
      have h2 : b < a := h
      have h3 : ¬ a = b := fun g => by subst g; omega
      simp [h1, h2, h3]
theorem str_leq (t : TypeId) (a b : ByteArray) : binOp .leq t (.string a) (.string b) = pure (.bool !(Op.bytesLess b.toList a.toList)) := by
  have : binOp .leq t (.string a) (.string b) = pure (.bool (Op.bytesLess a.toList b.toList || a.toList == b.toList)) := by simp [binOp, Op.stringOp]
  rw [this, bl_tri]
theorem str_gtr (t : TypeId) (a b : ByteArray) : binOp .gtr t (.string a) (.string b) = pure (.bool (Op.bytesLess b.toList a.toList)) := by
  have : binOp .gtr t (.string a) (.string b) = pure (.bool !(Op.bytesLess a.toList b.toList || a.toList == b.toList)) := by simp [binOp, Op.stringOp]
  rw [this, bl_tri, Bool.not_not]
theorem str_geq (t : TypeId) (a b : ByteArray) : binOp .geq t (.string a) (.string b) = pure (.bool !(Op.bytesLess a.toList b.toList)) := by simp [binOp, Op.stringOp]
end Go.Proofs.Ytookpmdgoednfaa.Le
