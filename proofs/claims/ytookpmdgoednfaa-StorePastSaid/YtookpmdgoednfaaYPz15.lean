/- Texts laid together: Sg, Sh. No condition. -/
import Derived.RangeFuncNested
import Derived.RangeFuncBound
import Derived.RangeFuncCalls
import Derived.RangeFuncLeaves
import Derived.Shelf.Abstract
import Derived.Shelf.RegionOpen
import Derived.OwnWalkIn
import Derived.TacticsInMore
import Derived.LoopNIn
import Derived.LoopIn
import Derived.Test.YtookpmdgoednfaaYPz14
set_option linter.unusedVariables false
set_option linter.unusedSimpArgs false
set_option maxRecDepth 100000
set_option maxHeartbeats 8000000
namespace Go.Proofs.Ytookpmdgoednfaa.Sg
open Go.RowKit Go.Shelf YtookpmdgoednfaaW.PrintWords YtookpmdgoednfaaW.PrintLast YtookpmdgoednfaaW.PrintMore Mx St Ks Sw
attribute [local go_sem] Oper.semAt_some
/-- What has come when k rounds are over: the last ones, with their places. -/
def back (xs : List V) : Nat → List (Nat × V)
  | 0 => []
  | k + 1 => back xs k ++ [(xs.length - 1 - k, xs.getD (xs.length - 1 - k) zV)]
theorem back_len (xs : List V) : ∀ k, (back xs k).length = k
  | 0 => rfl
  | k + 1 => by unfold back; rw [List.length_append, back_len xs k]; rfl
def encB (x : Nat × V) : Array Value := #[.int .i64 (x.1 : Int), .agg #[.int .i64 x.2.f0, .string x.2.f1, .bool x.2.f2]]
theorem add_block (ad : Addr) (n : Nat) : (ad.add n).block = ad.block := by unfold Addr.add; split <;> rfl
theorem C_low {n₀ : Nat} {w w' : World} {ad : Addr} {xs : List V} (h : kV.C w (some ad) xs.length xs) (hb : 0 < xs.length → ad.block < n₀) (hw : Below n₀ w w') : kV.C w' (some ad) xs.length xs := by
  obtain ⟨h1, h2, h3⟩ := h
  refine ⟨h1, h2, fun hp => ?_⟩
  obtain ⟨ad', e, hc⟩ := h3 hp
  cases e
  refine ⟨ad, rfl, fun j p hj => ?_⟩
  obtain ⟨cs, c1, c2, c3⟩ := hc j p hj
  refine ⟨cs, c1, ?_, fun k u hu => (hw.cell (by rw [add_block]; exact hb (by have := (List.getElem?_eq_some_iff.1 hj).1; omega))).trans (c3 k u hu)⟩
  obtain rfl := kV_open c2
  exact kV_mk w' p
theorem back1_in (F : Fence) (n : Nat) (hf : F.fn 113) (hro : F.round = none) (hn : 1 ≤ n) (l Bs n₀ cap : Nat) (ad : Addr) (xs : List V) (hreach : xs.length ≤ 1000000) (hb : 0 < xs.length → ad.block < n₀) (hBn : Bs < n₀) (J Jx : List (Nat × V) → World → Prop)
    (hY : ∀ pre x W, J pre W → pre.length < xs.length → YieldAt F (n - 1) Try.prog l (encB x) W fun e W' =>
      (e = .returned (.bool true) ∧ J (pre ++ [x]) W' ∧ Below n₀ W W') ∨ (e = .returned (.bool false) ∧ Jx (pre ++ [x]) W'))
    (W : World) (hBs : W.cell? ⟨Bs, 0, none⟩ = some (.slice (some ad) xs.length cap)) (hc : kV.C W (some ad) xs.length xs) (h0 : J [] W) :
    CallsIn F n Try.prog 113 #[.func (.yield l) #[] #[], .pointer (some ⟨Bs, 0, none⟩)] W fun e W' => (∃ v, e = .returned v) ∧
      ((∃ ys, ys = back xs xs.length ∧ J ys W') ∨ (∃ pre, (∃ k, k ≤ xs.length ∧ pre = back xs k) ∧ Jx pre W')) := by
  refine callsIn_of_wp Try.func113 rfl hf ?_ hro
  simp only [Try.ntmps113, List.size_toArray, List.length_cons, List.length_nil, Nat.reduceAdd, Nat.reduceSub, Array.replicate_succ, Array.replicate_zero, List.push_toArray, List.append_toArray, List.nil_append, List.cons_append]
  gi_wp2
  gi_loopw [3] (fun i wr => ∃ r k : Nat, k + r = xs.length ∧ i = .int .i64 ((r : Int) - 1) ∧ J (back xs k) wr ∧ Below n₀ W wr)
    (fun i _ => ((intOf i) + 1).toNat)
  case atStart => exact ⟨xs.length, 0, by omega, by first | rfl | (simp; done) | skip, h0, Below.refl _ _⟩
  case round =>
    obtain ⟨r, k, hk, hi, hJs, hnx⟩ := hrel
    have hBs' := (hnx.cell (p := ⟨Bs, 0, none⟩) hBn).trans hBs
    have hc' : kV.C wr (some ad) xs.length xs := C_low hc hb hnx
    cases r with
    | zero =>
      have e : ((0 : Nat) : Int) - 1 = -1 := rfl
      rw [e] at hi
      subst hi
      obtain rfl : k = xs.length := by omega
      gi_wp2
      go_end0
      exact ⟨⟨_, rfl⟩, .inl ⟨_, rfl, hJs⟩⟩
    | succ r =>
      have e : ((r + 1 : Nat) : Int) - 1 = (r : Int) := by omega
      rw [e] at hi
      subst hi
      obtain ⟨ad', e', h0, h1, h2⟩ := atkV hc' (r : Int) (by omega) (by omega)
      cases e'
      rw [Int.toNat_natCast] at h0 h1 h2
      have hnext : back xs (k + 1) = back xs k ++ [(r, rdkV xs (r : Int))] := by
        show back xs k ++ [(xs.length - 1 - k, xs.getD (xs.length - 1 - k) zV)] = _
        rw [show xs.length - 1 - k = r by omega]
        rfl
      obtain ⟨fn, tmps, assign, body, hy, hR⟩ := hY _ (r, rdkV xs (r : Int)) wr hJs (by rw [back_len]; omega)
      unfold encB at hy
      dsimp only at hy
      generalize rdkV xs (r : Int) = y at *
      have p1 : ((r : Int) < (xs.length : Int)) = True := eq_true (by omega)
      gi_wp2
      refine hR.mono ?_
      rintro e W3 (⟨rfl, hJ3, hk3⟩ | ⟨rfl, hJx3⟩)
      · gi_wp2
        go_roundw
        case rel => exact ⟨r, k + 1, by omega, rfl, by rw [hnext]; exact hJ3, hnx.trans hk3⟩
        case measure => first | (simp [intOf]; done) | (simp [intOf]; omega)
      · gi_wp2
        refine bodyPost_ret (results_none rfl _ _ _) rfl ?_
        exact ⟨⟨_, rfl⟩, .inr ⟨_, ⟨k + 1, by omega, hnext.symm⟩, hJx3⟩⟩
theorem back1_nil (F : Fence) (n : Nat) (hf : F.fn 113) (hro : F.round = none) (l Bs : Nat) (J : List (Nat × V) → World → Prop) (W : World) (c : Nat) (hBs : W.cell? ⟨Bs, 0, none⟩ = some (.slice none 0 c)) (h0 : J [] W) :
    CallsIn F n Try.prog 113 #[.func (.yield l) #[] #[], .pointer (some ⟨Bs, 0, none⟩)] W fun e W' => (∃ v, e = .returned v) ∧ J [] W' := by
  refine callsIn_of_wp Try.func113 rfl hf ?_ hro
  simp only [Try.ntmps113, List.size_toArray, List.length_cons, List.length_nil, Nat.reduceAdd, Nat.reduceSub, Array.replicate_succ, Array.replicate_zero, List.push_toArray, List.append_toArray, List.nil_append, List.cons_append]
  gi_wp2
  gi_loopw [3] (fun i wr => i = .int .i64 (-1) ∧ J [] wr) (fun _ _ => 0)
  case atStart => exact ⟨rfl, h0⟩
  case round =>
    obtain ⟨rfl, hJs⟩ := hrel
    gi_wp2
    go_end0
    exact ⟨⟨_, rfl⟩, hJs⟩
theorem back_stops (F : Fence) (n : Nat) (hf : F.fn 113) (hro : F.round = none) (hn : 1 ≤ n) (Bs : Nat) (A : Option Addr) (cap : Nat) (xs : List V) (hreach : xs.length ≤ 1000000) (w : World) (hBs : Bs < w.heap.size)
    (hc : w.cell? ⟨Bs, 0, none⟩ = some (.slice A xs.length cap)) (hC : kV.C w A xs.length xs) (hA : ∀ ad, A = some ad → 0 < xs.length → ad.block < w.heap.size) :
    SeqStopsK F n Try.prog 113 #[.pointer (some ⟨Bs, 0, none⟩)] encB (Below w.heap.size) (fun ys => ys = back xs xs.length) (fun pre => ∃ k, k ≤ xs.length ∧ pre = back xs k) xs.length w := fun l J Jx W hW _ _ hY h0 => by
  have hc' := (hW.cell (p := ⟨Bs, 0, none⟩) hBs).trans hc
  cases A with
  | none =>
    obtain rfl := Pa.C_none hC
    exact (back1_nil F n hf hro l Bs J W cap hc' h0).mono fun e W' ⟨he, hj⟩ => ⟨he, .inl ⟨_, rfl, hj⟩⟩
  | some ad =>
    exact back1_in F n hf hro hn l Bs w.heap.size cap ad xs hreach (hA ad rfl) hBs J Jx hY W hc' (C_low hC (hA ad rfl) hW) h0
theorem back_in (F : Fence) (n : Nat) (hf : F.fn 83) (hro : F.round = none) (A : Option Addr) (len cap : Nat) (w : World) :
    CallsIn F n Try.prog 83 #[.slice A len cap] w fun e w' => e = .returned (.func (.func 113) #[] #[.pointer (some ⟨w.heap.size, 0, none⟩)]) ∧ w' = w.alloc (.cells #[.slice A len cap] 121) := by
  refine callsIn_of_wp Try.func83 rfl hf ?_ hro
  simp only [Try.ntmps83, List.size_toArray, List.length_cons, List.length_nil, Nat.reduceAdd, Nat.reduceSub, Array.replicate_succ, Array.replicate_zero, List.push_toArray, List.append_toArray, List.nil_append, List.cons_append]
  gi_wp2
  go_ret
  exact ⟨rfl, rfl⟩
/-! ### what is found -/
def getV (xs : List V) (t : Int) : ByteArray × Bool := match cut (fun x : V => decide (x.f0 ≤ t)) xs with | none => (e0, false) | some (_, y, _) => (y.f1, !y.f2)
theorem cut_map {α β : Type} (f : α → β) (p : β → Bool) : ∀ (l : List α), (cut p (l.map f)).map (·.2.1) = (cut (fun x => p (f x)) l).map (fun t => f t.2.1)
  | [] => rfl
  | x :: l => by
    have ih := cut_map f p l
    rw [List.map_cons]
    unfold cut
    cases h : cut p (l.map f) with
    | some t =>
      rw [h] at ih
      cases h2 : cut (fun x => p (f x)) l with
      | none => rw [h2] at ih; cases ih
      | some t2 => rw [h2] at ih; simpa using ih
    | none =>
      rw [h] at ih
      cases h2 : cut (fun x => p (f x)) l with
      | some t2 => rw [h2] at ih; cases ih
      | none => cases hp : p (f x) <;> simp [hp]
theorem get_is {s : St} (hI : Inv s) (t : Int) (k : ByteArray) : St.get s t k = getV (xsV s k) t := by
  unfold St.get
  rw [at_vers]
  unfold getV xsV
  have h := cut_map toV (fun x : V => decide (x.f0 ≤ t)) (vers s.l k)
  cases h1 : cut (fun x : V => decide (x.f0 ≤ t)) ((vers s.l k).map toV) with
  | none =>
    rw [h1] at h
    cases h2 : cut (fun x => decide (x.f1 ≤ t)) (vers s.l k) with
    | none => rfl
    | some t2 => rw [show cut (fun x => decide ((toV x).f0 ≤ t)) (vers s.l k) = some t2 from h2] at h; cases h
  | some t1 =>
    rw [h1] at h
    cases h2 : cut (fun x => decide (x.f1 ≤ t)) (vers s.l k) with
    | none => rw [show cut (fun x => decide ((toV x).f0 ≤ t)) (vers s.l k) = none from h2] at h; cases h
    | some t2 =>
      rw [show cut (fun x => decide ((toV x).f0 ≤ t)) (vers s.l k) = some t2 from h2] at h
      obtain ⟨a, y, b⟩ := t1
      obtain ⟨a2, y2, b2⟩ := t2
      obtain rfl : y = toV y2 := by simpa using h
      have hm : y2 ∈ s.l := (mem_vers.1 (by rw [(cut_some h2).1]; simp)).1
      show val (some y2) = ((toV y2).f1, !(toV y2).f2)
      unfold val
      cases hg : y2.f3 with
      | true =>
        simp only [hg, if_true]
        rw [← hI.gone y2 hm hg]
        show _ = (y2.f2, !y2.f3)
        rw [hg]; rfl
      | false =>
        simp only [hg]
        show _ = (y2.f2, !y2.f3)
        rw [hg]; rfl
theorem mem_back (xs : List V) : ∀ (k : Nat), k ≤ xs.length → ∀ i, xs.length - k ≤ i → i < xs.length → (i, xs.getD i zV) ∈ back xs k
  | 0, _, i, h1, h2 => by omega
  | k + 1, hk, i, h1, h2 => by
    unfold back
    by_cases e : i = xs.length - 1 - k
    · subst e
      exact List.mem_append_right _ (List.mem_singleton.2 rfl)
    · exact List.mem_append_left _ (mem_back xs k (by omega) i (by omega) h2)
theorem getV_none {xs : List V} {t : Int} (h : ∀ p ∈ back xs xs.length, ¬ p.2.f0 ≤ t) : getV xs t = (e0, false) := by
  have : cut (fun x : V => decide (x.f0 ≤ t)) xs = none := cut_none.2 (fun x hx => by
    obtain ⟨i, hi, rfl⟩ := List.mem_iff_getElem.1 hx
    have := h _ (mem_back xs xs.length (Nat.le_refl _) i (by omega) hi)
    rw [List.getD_eq_getElem?_getD, List.getElem?_eq_getElem hi] at this
    exact decide_eq_false this)
  unfold getV
  rw [this]
theorem getV_some {xs : List V} {t : Int} {k : Nat} (hk : k ≤ xs.length) {pre : List (Nat × V)} {x : Nat × V} (e : pre ++ [x] = back xs k) (h : ∀ p ∈ pre, ¬ p.2.f0 ≤ t) (hx : x.2.f0 ≤ t) : getV xs t = (x.2.f1, !x.2.f2) := by
  cases k with
  | zero => simp [back] at e
  | succ k =>
    unfold back at e
    have e2 := List.append_inj' e rfl
    have ex : x = (xs.length - 1 - k, xs.getD (xs.length - 1 - k) zV) := by simpa using e2.2
    obtain ⟨rfl, _⟩ := e2
    have hi : xs.length - 1 - k < xs.length := by omega
    have hs : xs = xs.take (xs.length - 1 - k) ++ x.2 :: xs.drop (xs.length - 1 - k + 1) := by
      rw [ex]
      show xs = _ ++ xs.getD (xs.length - 1 - k) zV :: _
      rw [List.getD_eq_getElem?_getD, List.getElem?_eq_getElem hi, Option.getD_some, ← List.drop_eq_getElem_cons hi, List.take_append_drop]
    have : cut (fun x : V => decide (x.f0 ≤ t)) xs = some (xs.take (xs.length - 1 - k), x.2, xs.drop (xs.length - 1 - k + 1)) := by
      conv => lhs; rw [hs]
      refine cut_mk (p := fun x : V => decide (x.f0 ≤ t)) (decide_eq_true hx) (fun z hz => ?_) _
      obtain ⟨j, hj, rfl⟩ := List.mem_iff_getElem.1 hz
      rw [List.length_drop] at hj
      rw [List.getElem_drop]
      have := h _ (mem_back xs k (by omega) (xs.length - 1 - k + 1 + j) (by omega) (by omega))
      rw [List.getD_eq_getElem?_getD, List.getElem?_eq_getElem (by omega)] at this
      exact decide_eq_false this
    unfold getV
    rw [this]
def Bad (t : Int) (pre : List (Nat × V)) : Prop := ∀ p ∈ pre, ¬ p.2.f0 ≤ t
theorem Bad.more {t : Int} {pre : List (Nat × V)} {x : Nat × V} (h : Bad t pre) (hx : ¬ x.2.f0 ≤ t) : Bad t (pre ++ [x]) := fun p hp => (List.mem_append.1 hp).elim (h p) (fun e => by rw [List.mem_singleton.1 e]; exact hx)
def Found (t : Int) (pre : List (Nat × V)) (y : V) : Prop := ∃ pre0 i, pre = pre0 ++ [(i, y)] ∧ Bad t pre0 ∧ y.f0 ≤ t
theorem held_own {β : Type} (B : Nat) (T : TypeId) (f : β → Array Value) : Own (fun s W => W.heap[B]? = some (.cells (f s) T (0, 0))) := fun s X Y row hs hg hrow => by
  refine (hg.block B (Array.getElem?_eq_some_iff.1 hs).1 (fun e' => ?_)).trans hs
  obtain ⟨o, ho, hc⟩ := hrow B e'.symm
  rw [show X.heap[B]? = _ from hs] at ho
  cases ho
  cases hc
theorem Get_in {w0 w : World} {F0 : List Res} {g gm : Nat} {s : St} {kv : Value} {hdr : ByteArray → Value} {room n top : Int} (hM : Mem w0 w (blk g 116 (sc room n top kv gm) :: mapS gm s hdr :: rowsS s hdr :: F0)) {k : ByteArray} (hk : k.size ≤ maxLen) (hb : (xsV s k).length ≤ 1000000) (t : Int) (F : Fence) (m : Nat) (hG : F.fn 39) (hB : F.fn 83) (hB1 : F.fn 113) (hro : F.round = none) (hm : 3 ≤ m) :
    CallsIn F m Try.prog 39 #[.pointer (some ⟨g, 0, none⟩), .int .i64 t, .string k] w fun e w' => e = .returned (.tuple #[.string (getV (xsV s k) t).1, .bool (getV (xsV s k) t).2]) ∧ Below w.heap.size w w' := by
  have h1 : 1 ≤ m := by omega
  have M3 := Aside0.mk (((hM.allocAt #[.int .i64 t] 3 w.heap.size rfl).allocAt #[.string ⟨#[]⟩] 9 (w.heap.size + 1) (by simp)).allocAt #[.bool false] 4 (w.heap.size + 1 + 1) (by simp))
  obtain ⟨A, c, hrun, hl, hC, _, _⟩ := lookS M3.out 4 5 rfl rfl hk
  have cG := blk_cell (M3.out.blk_at 3 rfl)
  unfold sc at cG
  have hA : ∀ ad, A = some ad → 0 < (xsV s k).length → ad.block < (((w.alloc (.cells #[.int .i64 t] 3)).alloc (.cells #[.string ⟨#[]⟩] 9)).alloc (.cells #[.bool false] 4)).heap.size := fun ad e hp => by
    subst e
    obtain ⟨ad', e', h0, _⟩ := atkV hC 0 (by omega) (by omega)
    cases e'
    have := World.block_lt_of_cell? _ _ h0
    rwa [add_block] at this
  refine callsIn_of_wp_marks Try.func39 rfl hG ?_ hro
  simp only [Try.ntmps39, List.size_toArray, List.length_cons, List.length_nil, Nat.reduceAdd, Nat.reduceSub, Array.replicate_succ, Array.replicate_zero, List.push_toArray, List.append_toArray, List.nil_append, List.cons_append]
  gi_wp2_with (gi_at_call 83; refine (back_in F (m - 1) hB hro _ _ _ _).mono ?_; rintro e w' ⟨rfl, rfl⟩)
  have c0 : ((((w.alloc (.cells #[.int .i64 t] 3)).alloc (.cells #[.string ⟨#[]⟩] 9)).alloc (.cells #[.bool false] 4)).alloc (.cells #[.slice A (xsV s k).length c] 121)).heap[w.heap.size]? = some (.cells #[.int .i64 t] 3 (0, 0)) := (M3.out.allocAt #[.slice A (xsV s k).length c] 121 _ rfl).blk_at 3 rfl
  have c1 : ((((w.alloc (.cells #[.int .i64 t] 3)).alloc (.cells #[.string ⟨#[]⟩] 9)).alloc (.cells #[.bool false] 4)).alloc (.cells #[.slice A (xsV s k).length c] 121)).heap[w.heap.size + 1]? = some (.cells #[.string ⟨#[]⟩] 9 (0, 0)) := (M3.out.allocAt #[.slice A (xsV s k).length c] 121 _ rfl).blk_at 2 rfl
  have c2 : ((((w.alloc (.cells #[.int .i64 t] 3)).alloc (.cells #[.string ⟨#[]⟩] 9)).alloc (.cells #[.bool false] 4)).alloc (.cells #[.slice A (xsV s k).length c] 121)).heap[w.heap.size + 1 + 1]? = some (.cells #[.bool false] 4 (0, 0)) := (M3.out.allocAt #[.slice A (xsV s k).length c] 121 _ rfl).blk_at 1 rfl
  have c3 := blk_cell ((M3.out.allocAt #[.slice A (xsV s k).length c] 121 _ rfl).blk_at 0 rfl) 0
  have hB0 : Below w.heap.size w ((((w.alloc (.cells #[.int .i64 t] 3)).alloc (.cells #[.string ⟨#[]⟩] 9)).alloc (.cells #[.bool false] 4)).alloc (.cells #[.slice A (xsV s k).length c] 121)) := ((((Below.refl _ w).alloc (Nat.le_refl _) _).alloc (by simp) _).alloc (by simp; omega) _).alloc (by simp; omega) _
  have hsz : ((((w.alloc (.cells #[.int .i64 t] 3)).alloc (.cells #[.string ⟨#[]⟩] 9)).alloc (.cells #[.bool false] 4)).alloc (.cells #[.slice A (xsV s k).length c] 121)).heap.size = w.heap.size + 4 := by simp
  have hs3 : (((w.alloc (.cells #[.int .i64 t] 3)).alloc (.cells #[.string ⟨#[]⟩] 9)).alloc (.cells #[.bool false] 4)).heap.size = w.heap.size + 1 + 1 + 1 := by simp
  have hC2 := Kd.C_alloc hC (.cells #[.slice A (xsV s k).length c] 121)
  rw [hs3] at c3
  have hA2 : ∀ ad, A = some ad → 0 < (xsV s k).length → ad.block < w.heap.size + 4 := fun ad e hp => by have := hA ad e hp; omega
  clear hA hC hrun cG M3
  generalize hn : (xsV s k).length = nn at *
  obtain ⟨W0, hW0⟩ : ∃ W0, (((w.alloc (.cells #[.int .i64 t] 3)).alloc (.cells #[.string ⟨#[]⟩] 9)).alloc (.cells #[.bool false] 4)).alloc (.cells #[.slice A nn c] 121) = W0 := ⟨_, rfl⟩
  rw [hW0] at c0 c1 c2 c3 hB0 hsz hC2 ⊢
  clear hW0
  subst hn
  refine wpIn_rangeFunc_ownH (α := Nat × V) hro h1 (gf := 113) (lb := #[.pointer (some ⟨w.heap.size + 1 + 1 + 1, 0, none⟩)]) rfl hB1 (enters_of Try.func113 (by kernel_rfl) rfl)
    (back_stops F (m - 1) hB1 hro (by omega) (w.heap.size + 1 + 1 + 1) A c (xsV s k) hb W0 (by omega) c3 hC2 (fun ad e hp => by rw [hsz]; exact hA2 ad e hp)) belowK_t (belowK_b (Nat.le_refl _)) (Below.refl _ _) (fun _ => rfl)
    (fun pre W => ((Bad t pre ∧ W.heap[w.heap.size]? = some (.cells #[.int .i64 t] 3 (0, 0))) ∧ (W.heap[w.heap.size + 1]? = some (.cells #[.string ⟨#[]⟩] 9 (0, 0)) ∧ W.heap[w.heap.size + 1 + 1]? = some (.cells #[.bool false] 4 (0, 0)))) ∧ (Below w.heap.size w W ∧ w.heap.size + 4 ≤ W.heap.size))
    (fun c pre W => (c = .ret ∧ ∃ y, Found t pre y ∧ W.heap[w.heap.size + 1]? = some (.cells #[.string y.f1] 9 (0, 0)) ∧ W.heap[w.heap.size + 1 + 1]? = some (.cells #[.bool (!y.f2)] 4 (0, 0))) ∧ Below w.heap.size w W)
    (OwnFrom.and (OwnFrom.and (OwnFrom.and (ownFrom_pure _ _) (Own.from (held_own _ _ (fun _ => _)) _)) (OwnFrom.and (Own.from (held_own _ _ (fun _ => _)) _) (Own.from (held_own _ _ (fun _ => _)) _))) (OwnFrom.and (ownFrom_below (Nat.le_refl _) (by omega)) (fun _ X Y _ hs hg _ => Nat.le_trans hs hg.size)))
    (fun c => OwnFrom.and (fun pre X Y row hs hg hr => by
      obtain ⟨e, y, h1, h4, h5⟩ := hs
      exact ⟨e, y, h1, held_own _ _ (fun _ : Unit => #[.string y.f1]) () X Y row h4 hg (fun r e => (hr r e).2), held_own _ _ (fun _ : Unit => #[.bool (!y.f2)]) () X Y row h5 hg (fun r e => (hr r e).2)⟩) (ownFrom_below (Nat.le_refl _) (by omega)))
    ⟨⟨⟨(fun _ h => by cases h), c0⟩, c1, c2⟩, hB0, Nat.le_of_eq hsz.symm⟩
    (fun x a' W => ∃ Bx, w.heap.size + 3 < Bx ∧ W.heap[Bx]? = some (.cells #[.int .i64 x.2.f0, .string x.2.f1, .bool x.2.f2] 120 (0, 0)) ∧ a' = { tmps := #[.pointer (some ⟨g, 0, none⟩), .int .i64 t, .string k, undef, .pointer (some ⟨w.heap.size, 0, none⟩), undef, .pointer (some ⟨w.heap.size + 1, 0, none⟩), .pointer (some ⟨w.heap.size + 1 + 1, 0, none⟩), undef, .pointer (some ⟨Bx, 0, none⟩), .pointer (some ⟨g, 0, none⟩), .bool false, .pointer (some ⟨g, 0, none⟩), .pointer (some ⟨g, 0, none⟩), .pointer (some ⟨g, 4, none⟩), .map (some gm), .string k, .slice A (xsV s k).length c, .func (.func 113) #[] #[.pointer (some ⟨w.heap.size + 1 + 1 + 1, 0, none⟩)], .int .i64 (x.1 : Int), .agg #[.int .i64 x.2.f0, .string x.2.f1, .bool x.2.f2], undef, undef, undef, undef, undef, undef, undef, undef, undef], defers := [] })
    (fun x a' _ X Y row hs hg hr => by obtain ⟨Bx, e1, e2, e3⟩ := hs; exact ⟨Bx, e1, held_own Bx _ (fun (_ : Unit) => #[.int .i64 x.2.f0, .string x.2.f1, .bool x.2.f2]) () X Y row e2 hg (fun r e => (hr r e).2), e3⟩)
    ?assign ?body ?done ?stop
  case assign =>
    rintro l pre x W K ⟨⟨⟨hp, d0⟩, d1, d2⟩, hB1, hW1⟩ hK
    unfold encB
    gi_wp2
    have l1 := (Array.getElem?_eq_some_iff.1 d1).1
    have l2 := (Array.getElem?_eq_some_iff.1 d2).1
    have l0 := (Array.getElem?_eq_some_iff.1 d0).1
    have hs1 := hB1.size
    exact hK _ _ ((KeepsOthers.alloc _ _).from _) ((Below.refl _ W).alloc (by omega) _) ⟨⟨⟨hp, ((Below.refl W.heap.size W).alloc (Nat.le_refl _) _).block _ l0 |>.trans d0⟩, ((Below.refl W.heap.size W).alloc (Nat.le_refl _) _).block _ l1 |>.trans d1, ((Below.refl W.heap.size W).alloc (Nat.le_refl _) _).block _ l2 |>.trans d2⟩, hB1.alloc hs1 _, by have := hW1; simp; omega⟩ ⟨W.heap.size, by omega, World.alloc_heap_new W _, rfl⟩
  case body =>
    rintro l pre x a' W hl ⟨r, hr⟩ ⟨⟨⟨hp, d0⟩, d1, d2⟩, hB1, hW1⟩ ⟨Bx, hBx, bX, rfl⟩ hlt
    have hmx : Try.prog.follows .mixedOrders = true := by kernel_rfl
    have e0 := blk_cell d0
    have e1 := blk_cell d1
    have e2 := blk_cell d2
    have eX := blk_cell bX
    have f1 := blk_frozen d1
    have f2 := blk_frozen d2
    by_cases hle : x.2.f0 ≤ t
    · have q : decide (x.2.f0 ≤ t) = true := decide_eq_true hle
      gi_wp2
      gi_region_o
      all_goals gi_wp2
      all_goals
        exact ⟨(((KeepsOthers.setCell _ _ _).trans (KeepsOthers.setCell _ _ _)).trans (KeepsOthers.drew _)).from _, ⟨rfl, x.2, ⟨pre, x.1, rfl, hp, hle⟩, (Boxed.set (.string x.2.f1) (show Boxed W (w.heap.size + 1) 9 (.string ⟨#[]⟩) from d1)).other (by omega) (.bool (!x.2.f2)), ((show Boxed W (w.heap.size + 1 + 1) 4 (.bool false) from d2).other (by omega) (.string x.2.f1)).set (.bool (!x.2.f2))⟩, ((hB1.setCell (p := ⟨w.heap.size + 1, 0, none⟩) (Nat.le_add_right ..) _).setCell (p := ⟨w.heap.size + 1 + 1, 0, none⟩) (by show w.heap.size ≤ w.heap.size + 1 + 1; omega) _).drew⟩
    · have q : decide (x.2.f0 ≤ t) = false := decide_eq_false hle
      gi_wp2
      exact ⟨KeepsFrom.refl _ _, Below.refl _ _, ⟨⟨hp.more (Int.not_le.2 hle), d0⟩, d1, d2⟩, hB1, hW1⟩
  case done =>
    rintro D ys W hD rfl ⟨⟨⟨hp, d0⟩, d1, d2⟩, hB1, hW1⟩ hK
    have e1 := blk_cell d1
    have e2 := blk_cell d2
    have f1 := blk_frozen d1
    have f2 := blk_frozen d2
    gi_wp2
    have b1 := (Boxed.set (.string ⟨#[]⟩) (show Boxed W (w.heap.size + 1) 9 (.string ⟨#[]⟩) from d1)).other (show w.heap.size + 1 ≠ w.heap.size + 1 + 1 by omega) (.bool false)
    have b2 := ((show Boxed W (w.heap.size + 1 + 1) 4 (.bool false) from d2).other (show w.heap.size + 1 + 1 ≠ w.heap.size + 1 by omega) (.string ⟨#[]⟩)).set (.bool false)
    have hK' := ((KeepsOthers.setCell W ⟨w.heap.size + 1, 0, none⟩ (.string { data := #[] })).trans (KeepsOthers.setCell _ ⟨w.heap.size + 1 + 1, 0, none⟩ (.bool false))).same D _ hK rfl
    refine ⟨by simp, .inl ⟨_, _, rfl, run_takeDeferred hK', ?_⟩⟩
    have k1 := cell_kept b1.cell (grownBy_putObj' _ D (.deferred none)) (fun r e => by cases e; exact ⟨_, hK', rfl⟩)
    have k2 := cell_kept b2.cell (grownBy_putObj' _ D (.deferred none)) (fun r e => by cases e; exact ⟨_, hK', rfl⟩)
    rw [getV_none hp]
    refine ⟨.tuple #[.string ⟨#[]⟩, .bool false], ?_, rfl, ?_⟩
    · simp [results, Try.f39, go_sem, k1, k2]
    · exact ((hB1.setCell (p := ⟨w.heap.size + 1, 0, none⟩) (Nat.le_add_right ..) _).setCell (p := ⟨w.heap.size + 1 + 1, 0, none⟩) (by show w.heap.size ≤ w.heap.size + 1 + 1; omega) _).trans (belowK_b (w := w) (Nat.le_refl _) _ D _ _ (by omega) hK' rfl rfl)
  case stop =>
    rintro D c pre W hD ⟨kk, hk1, rfl⟩ ⟨⟨rfl, y, ⟨pre0, i, hy, hbad, hle⟩, d1, d2⟩, hB1⟩ hK
    gi_wp2
    refine ⟨by simp, .inl ⟨_, _, rfl, run_takeDeferred hK, ?_⟩⟩
    have k1 := cell_kept (show Boxed W (w.heap.size + 1) 9 (.string y.f1) from d1).cell (grownBy_putObj' _ D (.deferred none)) (fun r e => by cases e; exact ⟨_, hK, rfl⟩)
    have k2 := cell_kept (show Boxed W (w.heap.size + 1 + 1) 4 (.bool (!y.f2)) from d2).cell (grownBy_putObj' _ D (.deferred none)) (fun r e => by cases e; exact ⟨_, hK, rfl⟩)
    rw [getV_some hk1 hy.symm hbad hle]
    refine ⟨.tuple #[.string y.f1, .bool (!y.f2)], ?_, rfl, ?_⟩
    · simp [results, Try.f39, go_sem, k1, k2]
    · exact hB1.trans (belowK_b (w := w) (Nat.le_refl _) _ D _ _ (by omega) hK rfl rfl)
theorem Get_calls {w0 w : World} {F0 : List Res} {g gm : Nat} {s : St} {kv : Value} {hdr : ByteArray → Value} {room n top : Int} (hM : Mem w0 w (blk g 116 (sc room n top kv gm) :: mapS gm s hdr :: rowsS s hdr :: F0)) (hI : Inv s) {k : ByteArray} (hk : k.size ≤ maxLen) (hb : (xsV s k).length ≤ 1000000) (t : Int) :
    Calls Try.prog 39 #[.pointer (some ⟨g, 0, none⟩), .int .i64 t, .string k] w fun e w' => e = .returned (.tuple #[.string (St.get s t k).1, .bool (St.get s t k).2]) ∧ Below w.heap.size w w' := by
  rw [get_is hI]
  exact (callsIn_wide (n := 3)).1 (Get_in hM hk hb t Fence.wide 3 trivial trivial trivial rfl (Nat.le_refl _))
end Go.Proofs.Ytookpmdgoednfaa.Sg
namespace Go.Proofs.Ytookpmdgoednfaa.Sh
open Go.RowKit YtookpmdgoednfaaW.PrintWords YtookpmdgoednfaaW.PrintLast YtookpmdgoednfaaW.PrintMore Mx St Ks Sw Su Sv Sx Sq
theorem StA.grow {w0 w w' : World} {g gm : Nat} {s : St} {F : List Res} (h : StA w0 w g gm s F) (hb : Below w.heap.size w w') : StA w0 w' g gm s F := by
  obtain ⟨kv, hdr, Y, hm, hk⟩ := h
  exact ⟨kv, hdr, Y, hm.grow hb, hk⟩
theorem StA.rest {w0 w : World} {g gm : Nat} {s : St} {F : List Res} (h : StA w0 w g gm s F) : Mem w0 w F := by
  obtain ⟨kv, hdr, Y, hm, hk⟩ := h
  exact Mem.sel (ps := [_, _, _, _]) (F := F) [] 4 hm rfl rfl
section
variable {w0 w : World} {F : List Res} {g gm : Nat} {s : St}
theorem Get_A (hA : StA w0 w g gm s F) (hI : Inv s) (hn : s.l.length ≤ 300) (t : Int) {k : ByteArray} (hk : k.size ≤ maxLen) :
    Calls Try.prog 39 #[.pointer (some ⟨g, 0, none⟩), .int .i64 t, .string k] w fun e w' => e = .returned (.tuple #[.string (St.get s t k).1, .bool (St.get s t k).2]) ∧ StA w0 w' g gm s F := by
  obtain ⟨kv, hdr, Y, h⟩ := hA
  refine (Sg.Get_calls h.mem hI hk (Nat.le_trans (list_len hn k) (by decide)) t).mono ?_
  rintro e w' ⟨rfl, hb⟩
  exact ⟨rfl, kv, hdr, Y, h.mem.grow hb, h.keys⟩
theorem Last_A (hA : StA w0 w g gm s F) (hn : s.l.length ≤ 300) {k : ByteArray} (hk : k.size ≤ maxLen) :
    Calls Try.prog 41 #[.pointer (some ⟨g, 0, none⟩), .string k] w fun e w' => e = .returned (.int .i64 (stLast s k)) ∧ w' = w := by
  obtain ⟨kv, hdr, Y, h⟩ := hA
  exact last_calls h.mem hk (Nat.le_trans (list_len hn k) (by decide))
end
theorem num_calls (x : Int) (w : World) : Calls Try.prog 36 #[.int .i64 x] w fun e w' => e = .returned (.int .i64 x) ∧ w' = w := by
  go_enter Try.func36, Try.ntmps36
  go_wp2
  go_ret
  exact ⟨rfl, rfl⟩
/-! ### on no store -/
/-! ### the document's example -/
def ka : ByteArray := ⟨#[97]⟩
def kx : ByteArray := ⟨#[120]⟩
def x1 : RV := ⟨ka, 1, kx, false⟩
def x2 : RV := ⟨ka, 2, e0, true⟩
theorem put1 : put (new 5) x1 = (⟨5, 1, [x1]⟩, 0) := by
  simp [put, new, mayT, maxTime, cut, x1]
theorem put2 : put ⟨5, 1, [x1]⟩ x2 = (⟨5, 2, [x1, x2]⟩, 0) := by
  simp [put, mayT, maxTime, cut, isK, kb_self, x1, x2]
theorem get1 : St.get ⟨5, 2, [x1, x2]⟩ 1 ka = (kx, true) := by
  simp [St.get, at_, upto, cut, isK, kb_self, x1, x2, val]
theorem get2 : St.get ⟨5, 2, [x1, x2]⟩ 2 ka = (e0, false) := by
  simp [St.get, at_, upto, cut, isK, kb_self, x1, x2, val]
theorem last2 : stLast ⟨5, 2, [x1, x2]⟩ ka = 2 := by
  simp [stLast, cut, isK, kb_self, x1, x2]
theorem trim2 : (trim ⟨5, 2, [x1, x2]⟩ 2).2 = 2 := by
  simp [trim, trimL, keep, upto, isK, kb_self, x1, x2]
theorem inv1 : Inv ⟨5, 1, [x1]⟩ := by
  have := inv_put (inv_new (room := 5) (by decide)) x1 (fun h => by cases h)
  rwa [put1] at this
theorem inv2 : Inv ⟨5, 2, [x1, x2]⟩ := by
  have := inv_put inv1 x2 (fun _ => rfl)
  rwa [put2] at this
theorem awake_calls (w : World) : Calls Try.prog 34 #[] w fun e w' => e = .returned (.bool true) ∧ Mem w w' [] := by
  have hka : ka.size ≤ maxLen := by decide
  have M0 := Aside0.mk (Mem.nil w)
  have HKA := Aside0.mk hka
  clear hka
  go_enter Try.func34, Try.ntmps34
  go_wp2_with fail
  refine (New_calls M0.out 5 (by decide) (by decide)).mono ?_
  rintro e w1 ⟨g, gm, rfl, hA⟩
  have HA := Aside0.mk hA
  clear hA
  go_wp2_with fail
  refine (num_calls _ _).mono ?_
  rintro e w2 ⟨rfl, rfl⟩
  go_wp2_with fail
  refine (Put_calls HA.out (inv_new (by decide)) (by decide) 1 (k := ka) HKA.out kx).mono ?_
  rintro e w3 ⟨he, hA⟩
  change e = .returned (.int .i64 (put (new 5) x1).2) at he
  change StA w w3 g gm (put (new 5) x1).1 [] at hA
  rw [put1] at he hA
  subst he
  have HA1 := Aside0.mk hA
  clear hA
  go_wp2_with fail
  refine (Del_calls HA1.out inv1 (by decide) 2 (k := ka) HKA.out).mono ?_
  rintro e w4 ⟨he, hA⟩
  change e = .returned (.int .i64 (put ⟨5, 1, [x1]⟩ x2).2) at he
  change StA w w4 g gm (put ⟨5, 1, [x1]⟩ x2).1 [] at hA
  rw [put2] at he hA
  subst he
  have HA2 := Aside0.mk hA
  clear hA
  go_wp2_with fail
  refine (Get_A HA2.out inv2 (by decide) 1 (k := ka) HKA.out).mono ?_
  rintro e w5 ⟨he, hA⟩
  rw [get1] at he
  subst he
  have HA3 := Aside0.mk hA
  clear hA
  go_wp2_with fail
  refine (Get_A HA3.out inv2 (by decide) 2 (k := ka) HKA.out).mono ?_
  rintro e w6 ⟨he, hA⟩
  rw [get2] at he
  subst he
  have hx : kx.toList = [120] := by unfold kx; rw [Lib.toList_data]
  have HA4 := Aside0.mk hA
  clear hA
  go_wp2_with fail
  refine (num_calls _ _).mono ?_
  rintro e w7 ⟨rfl, rfl⟩
  go_wp2_with fail
  refine (num_calls _ _).mono ?_
  rintro e w7 ⟨rfl, rfl⟩
  go_wp2_with fail
  refine (Last_A HA4.out (by decide) (k := ka) HKA.out).mono ?_
  rintro e w8 ⟨he, rfl⟩
  rw [last2] at he
  subst he
  go_wp2_with fail
  refine (Trim_calls HA4.out inv2 (by decide) 2).mono ?_
  rintro e w9 ⟨he, hA⟩
  rw [trim2] at he
  subst he
  have HA5 := Aside0.mk hA
  clear hA
  go_wp2_with fail
  go_ret
  exact ⟨rfl, StA.rest HA5.out⟩
end Go.Proofs.Ytookpmdgoednfaa.Sh
