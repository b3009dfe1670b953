/- Texts laid together: Bs, Del, Fl. No condition. -/
import Derived.Deep.LoopGhost
import Derived.Lib.SliceRun
import Derived.Laws.IdiomCopy
import Derived.Shelf.Spec.SlicesInsert
import Derived.Test.YtggbjokhniigkaaGreatY5z14
namespace Go.Proofs.YtggbjokhniigkaaGreat.Bs
open Go.Proofs.YtggbjokhniigkaaGreat.Ty Go.RowKit Go.Proofs.YtggbjokhniigkaaGreatW.PrintWords Go.Proofs.YtggbjokhniigkaaGreatW.PrintLast Go.Proofs.YtggbjokhniigkaaGreatW.PrintMore Go.Proofs.YtggbjokhniigkaaGreat.Mx Go.Proofs.YtggbjokhniigkaaGreat.Kx Go.Proofs.YtggbjokhniigkaaGreat.Wa Go.Proofs.YtggbjokhniigkaaGreat.Wd Go.Proofs.YtggbjokhniigkaaGreat.Sm
set_option linter.unusedVariables false
set_option linter.unusedSimpArgs false
set_option maxRecDepth 100000 in
set_option maxHeartbeats 4000000 in
theorem search_calls (A : Option Addr) (c : Nat) (l : List Int) (k : Int) (w : World) (hl : Kd.C (Kd.int .i64) w A l.length l) (hn : l.length ≤ 1000000) (p : Nat) (hp : p ≤ l.length)
    (h1 : ∀ t : Nat, t < p → rd l (t : Int) < k) (h2 : ∀ t : Nat, p ≤ t → t < l.length → k ≤ rd l (t : Int)) (b : Bool) (hb : b = true ↔ p < l.length ∧ rd l (p : Int) = k) :
    Calls Tryz.prog 138 #[.slice A l.length c, .int .i64 k] w fun e w' => e = .returned (.tuple #[.int .i64 (p : Int), .bool b]) ∧ Drawn0 w w' := by
  have HL := Aside0.mk hl
  have HN := Aside0.mk hn
  have H1 := Aside0.mk h1
  have H2 := Aside0.mk h2
  have HB := Aside0.mk hb
  clear hl h1 h2 hb
  go_enter Tryz.func138, Tryz.ntmps138
  go_wp2
  go_loopg [7, 8] l.length (fun kx s7 s8 wr => ∃ (lo hi : Nat), s7 = .int .i64 lo ∧ s8 = .int .i64 hi ∧ Aside0 (lo ≤ p ∧ p ≤ hi ∧ hi ≤ l.length ∧ hi - lo ≤ kx) ∧ Drawn0 w wr)
  case atStart => exact ⟨0, l.length, rfl, rfl, ⟨Nat.zero_le _, hp, Nat.le_refl _, by omega⟩, by repeat (first | exact Drawn0.refl _ | apply Drawn0.step)⟩
  case round =>
    obtain ⟨lo, hi, rfl, rfl, HK, ⟨m1, rfl⟩⟩ := hrel
    by_cases hlt : lo < hi
    · obtain ⟨q, hq⟩ : ∃ q : Nat, (lo + hi) / 2 = q := ⟨_, rfl⟩
      have e3 : decide ((lo : Int) < (hi : Int)) = true := decide_eq_true (by omega)
      have e3n : decide (lo < hi) = true := decide_eq_true hlt
      have q1 : q < l.length := by have := HK.out; omega
      have q2 : ((q : Int) < (l.length : Int)) = True := eq_true (by omega)
      obtain ⟨ad, e, hx⟩ := at_IntC HL.out (q : Int) (by omega) (by omega)
      cases e
      simp only [Int.toNat_natCast] at hx
      have HQ := Aside0.mk hq
      have em : ((lo : Int) + (hi : Int)) / 2 = (q : Int) := by omega
      have HLT := Aside0.mk hlt
      clear hq hlt
      cases hc : decide (rd l (q : Int) < k)
      · have hge : ¬ rd l (q : Int) < k := of_decide_eq_false hc
        have H3 := Aside0.mk (show p ≤ q from Nat.le_of_not_lt (fun g => hge (H1.out _ g)))
        clear hge
        go_wp2
        go_roundg (q - lo)
        case measure => have := HK.out; have := HQ.out; have := HLT.out; omega
        case rel => exact ⟨lo, q, rfl, rfl, ⟨HK.out.1, H3.out, by omega, Nat.le_refl _⟩, by repeat (first | exact Drawn0.refl _ | apply Drawn0.step)⟩
      · have hlt' : rd l (q : Int) < k := of_decide_eq_true hc
        have H3 := Aside0.mk (show q < p from Nat.lt_of_not_le (fun g => by have := H2.out _ g q1; omega))
        clear hlt'
        go_wp2
        go_roundg (hi - (q + 1))
        case measure => have := HK.out; have := HQ.out; have := HLT.out; omega
        case rel => exact ⟨q + 1, hi, by go_num, rfl, ⟨H3.out, HK.out.2.1, HK.out.2.2.1, Nat.le_refl _⟩, by repeat (first | exact Drawn0.refl _ | apply Drawn0.step)⟩
    · have ep : p = lo := by have := HK.out; omega
      subst ep
      have e3 : decide ((p : Int) < (hi : Int)) = false := decide_eq_false (by have := HK.out; omega)
      have e3n : decide (p < hi) = false := decide_eq_false (by have := HK.out; omega)
      clear hlt
      by_cases hpn : p < l.length
      · have q2 : ((p : Int) < (l.length : Int)) = True := eq_true (by omega)
        have e4 : decide ((p : Int) < (l.length : Int)) = true := decide_eq_true (by omega)
        have e4n : decide (p < l.length) = true := decide_eq_true hpn
        obtain ⟨ad, e, hx⟩ := at_IntC HL.out (p : Int) (by omega) (by omega)
        cases e
        simp only [Int.toNat_natCast] at hx
        cases hc : (rd l (p : Int) == k)
        · have hb : b = false := by
            cases b with
            | false => rfl
            | true => exact absurd ((HB.out.1 rfl).2) (by simpa using hc)
          subst hb
          clear HB
          go_wp2
          refine bodyPost_ret (results_tmp2 rfl _ _ _) rfl ?_
          exact ⟨by first | rfl | simp, by repeat (first | exact Drawn0.refl _ | apply Drawn0.step)⟩
        · have hb : b = true := HB.out.2 ⟨hpn, by simpa using hc⟩
          subst hb
          clear HB
          go_wp2
          refine bodyPost_ret (results_tmp2 rfl _ _ _) rfl ?_
          exact ⟨by first | rfl | simp, by repeat (first | exact Drawn0.refl _ | apply Drawn0.step)⟩
      · have e4 : decide ((p : Int) < (l.length : Int)) = false := decide_eq_false (by omega)
        have e4n : decide (p < l.length) = false := decide_eq_false hpn
        have hb : b = false := by
          cases b with
          | false => rfl
          | true => exact absurd ((HB.out.1 rfl).1) hpn
        subst hb
        clear HB
        go_wp2
        refine bodyPost_ret (results_tmp2 rfl _ _ _) rfl ?_
        exact ⟨by first | rfl | simp, by repeat (first | exact Drawn0.refl _ | apply Drawn0.step)⟩
end Go.Proofs.YtggbjokhniigkaaGreat.Bs
namespace Go.Proofs.YtggbjokhniigkaaGreat.Mx
end Go.Proofs.YtggbjokhniigkaaGreat.Mx
namespace Go.Proofs.YtggbjokhniigkaaGreat.Mx
open Go.RowKit Go.Proofs.YtggbjokhniigkaaGreatW.PrintWords Go.Proofs.YtggbjokhniigkaaGreatW.PrintLast Go.Proofs.YtggbjokhniigkaaGreatW.PrintMore
set_option linter.unusedVariables false
/-- A kind whose elements are their cells alone. -/
structure Flat {α : Type} (d : Kd α) (enc : α → List Value) : Prop where
  out_ : ∀ {w : World} {base : Nat} {ok : Nat → Prop} {x : α} {cs : List Value}, d.M w base ok x cs → cs = enc x
  mk_ : ∀ (w : World) (base : Nat) (ok : Nat → Prop) (x : α), d.M w base ok x (enc x)
  rd_ : ∀ {w : World} {x : α} {cs : List Value}, d.K w x cs → cs = enc x
theorem Flat.len {α : Type} {d : Kd α} {enc : α → List Value} (h : Flat d enc) (w : World) (x : α) : (enc x).length = d.sz := d.K_len (d.K_of_M (h.mk_ w 0 (fun _ => True) x))
theorem Flat.one {α : Type} {d : Kd α} {enc : α → List Value} (h : Flat d enc) (w : World) (x : α) : ∀ u ∈ enc x, u.oneCell' = true := d.K_one (d.K_of_M (h.mk_ w 0 (fun _ => True) x))
theorem flat_len {α : Type} {enc : α → List Value} {sz : Nat} (hl : ∀ x, (enc x).length = sz) : ∀ (xs : List α), (xs.flatMap enc).length = xs.length * sz
  | [] => by simp
  | x :: xs => by rw [List.flatMap_cons, List.length_append, flat_len hl xs, hl, List.length_cons, Nat.succ_mul, Nat.add_comm]
theorem flat_take {α : Type} {enc : α → List Value} {sz : Nat} (hl : ∀ x, (enc x).length = sz) (xs : List α) (k : Nat) : (xs.flatMap enc).take (k * sz) = (xs.take k).flatMap enc := by
  induction xs generalizing k with
  | nil => simp
  | cons x xs ih =>
    cases k with
    | zero => simp
    | succ k =>
      rw [List.flatMap_cons, List.take_succ_cons, List.flatMap_cons, ← ih k, List.take_append, hl, Nat.succ_mul, Nat.add_sub_cancel, List.take_of_length_le (by rw [hl]; omega)]
theorem flat_drop {α : Type} {enc : α → List Value} {sz : Nat} (hl : ∀ x, (enc x).length = sz) (xs : List α) (k : Nat) : (xs.flatMap enc).drop (k * sz) = (xs.drop k).flatMap enc := by
  induction xs generalizing k with
  | nil => simp
  | cons x xs ih =>
    cases k with
    | zero => simp
    | succ k =>
      rw [List.flatMap_cons, List.drop_succ_cons, ← ih k, List.drop_append, hl, Nat.succ_mul, Nat.add_sub_cancel, List.drop_eq_nil_of_le (by rw [hl]; omega), List.nil_append]
theorem reps_flat {α : Type} {R : α → List Value → Prop} {enc : α → List Value} {sz : Nat} (hl : ∀ x, (enc x).length = sz) (hR : ∀ x cs, R x cs → cs = enc x) : ∀ (xs : List α) (inner : List Value), Reps R sz xs inner → inner = xs.flatMap enc
  | [], inner, h => by
    have := h.1
    simp at this
    rw [this]
    simp
  | x :: xs, inner, h => by
    have h0 := hR x _ (by have := h.2 0 x rfl; rwa [Nat.zero_mul, List.drop_zero] at this)
    have h1 : Reps R sz xs (inner.drop sz) := by
      refine ⟨by rw [List.length_drop, h.1, List.length_cons, Nat.succ_mul, Nat.add_sub_cancel], fun j p hj => ?_⟩
      have := h.2 (j + 1) p (by simpa using hj)
      rw [Nat.succ_mul, Nat.add_comm] at this
      rwa [List.drop_drop]
    rw [List.flatMap_cons, ← h0, ← reps_flat hl hR xs _ h1, List.take_append_drop]
theorem flat_reps {α : Type} {R : α → List Value → Prop} {enc : α → List Value} {sz : Nat} (hl : ∀ x, (enc x).length = sz) (hR : ∀ x, R x (enc x)) : ∀ (xs : List α), Reps R sz xs (xs.flatMap enc)
  | [] => by simpa using Reps.none R sz
  | x :: xs => Reps.front (hR x) (hl x) (flat_reps hl hR xs) (by rw [List.flatMap_cons])
section
variable {α : Type} {d : Kd α} {enc : α → List Value} {w0 w : World} {rs : List Res}
/-- A row, known whole. -/
theorem Mem.row_blk (hF : Flat d enc) (h : Mem w0 w rs) (i : Nat) {e g n c : Nat} {xs : List α} (hi : rs[i]? = some (Mx.row d e (.slice (some ⟨g, 0, none⟩) n c) xs)) :
    ∃ cs : Array Value, cs.size = c * d.sz ∧ cs.toList.take (n * d.sz) = xs.flatMap enc ∧ n = xs.length ∧ n ≤ c ∧ c ≤ maxLen ∧ Mem w0 w (rs.set i (Mx.blk g e cs)) := by
  have hh := h.hold hi
  have hnx := (Kd.R_reads' hh).1
  obtain ⟨hok, inner, hown, hr⟩ := hh
  rcases hown.2 with ⟨hv, _⟩ | ⟨g', cap', cur, hv, hb, hheap, hl, hcm, hcs, htake⟩
  · cases hv
  injection hv with ha _ hc
  injection ha with ha
  injection ha with hg
  subst hg; subst hc
  refine ⟨cur, hcs, ?_, hnx, by omega, hcm, h.imp hi _ (fun f hf => ⟨hheap, hf.1 g (by simp [Value.ownBlock])⟩)⟩
  have e1 := reps_flat (hF.len w) (fun x cs hx => hF.out_ hx) xs inner hr
  rw [← e1, ← htake, hnx]
/-- A block that holds a row's cells is the row. -/
theorem Mem.blk_row (hF : Flat d enc) (h : Mem w0 w rs) (i : Nat) {e g c : Nat} {cs : Array Value} (xs : List α) (hi : rs[i]? = some (Mx.blk g e cs)) (hs : cs.size = c * d.sz) (ht : cs.toList.take (xs.length * d.sz) = xs.flatMap enc) (hn : xs.length ≤ c) (hc : c ≤ maxLen) :
    Mem w0 w (rs.set i (Mx.row d e (.slice (some ⟨g, 0, none⟩) xs.length c) xs)) := by
  refine h.imp hi _ (fun f hf => ⟨fun k hk => ?_, xs.flatMap enc, ⟨flat_len (hF.len w) xs, .inr ⟨g, c, cs, rfl, Nat.zero_le _, hf.1, hn, hc, hs, ?_⟩⟩, flat_reps (hF.len w) (fun x => hF.mk_ _ _ _ x) xs⟩)
  · have : g = k := by simpa [Value.ownBlock] using hk
    subst this
    exact hf.2
  · exact ht
/-- Some of a block's cells are set. -/
theorem Mem.setRange (h : Mem w0 w rs) (i : Nat) {g T : Nat} {cs : Array Value} (hi : rs[i]? = some (Mx.blk g T cs)) (o : Nat) (vs : List Value) (hfit : o + vs.length ≤ cs.size) :
    ∃ cs' : Array Value, cs'.toList = cs.toList.take o ++ vs ++ cs.toList.drop (o + vs.length) ∧ cs'.size = cs.size ∧ Mem w0 (w.setCells g o vs) (rs.set i (Mx.blk g T cs')) := by
  obtain ⟨cur', g1, g2, g3⟩ := setCells_row vs o w cs (h.blk_at i hi) hfit
  obtain ⟨f, h1, h2, h3⟩ := h.take1 hi
  obtain ⟨e1, e2, e3, e4⟩ := setCells_same g vs o w
  exact ⟨cur', g3, g2, h3 _ _ e1 e2 e3 (Nat.le_of_eq e4.symm) (fun k _ hf => setCells_far vs o k (fun e => hf (e ▸ h1.2))) ⟨g1, .inl h1.2⟩⟩
end
/-- 'copy': all is read ahead of what is written; elements of k cells. -/
theorem run_copyK {P : Program} (w : World) (dT sT ty elem : TypeId) (b o dLen dCap : Nat) (a : Addr) (sLen sCap k m : Nat) (cs : List Value)
    (hu : P.underlying dT = some (.slice elem)) (hs : (P.info? elem).map (·.size) = some k) (hm : Nat.min sLen dLen = m) (hn : cs.length = m * k)
    (hsrc : ∀ j v, cs[j]? = some v → w.cell? (a.add j) = some v) (hc : ∀ j, j < cs.length → (w.cell? ⟨b, o + j, none⟩).isSome = true) (hf : ∀ j, j < cs.length → w.frozen? ⟨b, o + j, none⟩ = false) (h1 : ∀ v ∈ cs, v.oneCell' = true) :
    (Builtin.copy_ #[dT, sT] ty #[.slice (some ⟨b, o, none⟩) dLen dCap, .slice (some a) sLen sCap]).run P w = .ok (goInt m) (w.setCells b o cs) := by
  have hl := run_loadCells_list (P := P) w a cs hsrc
  have hst := run_storeCells_cells (P := P) b o cs 0 w (by simpa using hc) (by simpa using hf) h1
  cases hq : P.info? elem with
  | none => simp [hq] at hs
  | some i =>
    have hi : i.size = k := by simpa [hq] using hs
    simp [Builtin.copy_, run_underlying hu, Builtin.lenOf, Builtin.firstCells, sizeOf, typeInfo, hq, hi, hm, ← hn, hl, hst]
end Go.Proofs.YtggbjokhniigkaaGreat.Mx
