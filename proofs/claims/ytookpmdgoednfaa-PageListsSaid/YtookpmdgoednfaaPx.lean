/- A pair more, in plain words: what the reference's Put computes, and where the program's Put looks. No condition. -/
import Derived.Test.YtookpmdgoednfaaPy
import Derived.Test.YtookpmdgoednfaaPgB0
import Derived.Test.YtookpmdgoednfaaLe
namespace Go.Proofs.Ytookpmdgoednfaa.Px
open Go.RowKit Go.Proofs.YtookpmdgoednfaaW.PrintWords Go.Proofs.YtookpmdgoednfaaW.PrintLast Go.Proofs.YtookpmdgoednfaaW.PrintMore Go.Proofs.Ytookpmdgoednfaa.PPagePuts Go.Proofs.Ytookpmdgoednfaa.Py
set_option linter.unusedVariables false
abbrev lt := Op.bytesLess
theorem lt_irrefl (a : List UInt8) : lt a a = false := by
  have := Le.bl_tri a a
  simpa using this
theorem lt_asymm {a b : List UInt8} (h : lt a b = true) : lt b a = false := by
  have := Le.bl_tri a b
  rw [show Op.bytesLess a b = true from h, Bool.true_or] at this
  simpa using this.symm
theorem lt_of_not {a b : List UInt8} (h : lt a b = false) (hne : ¬ a = b) : lt b a = true := by
  have := Le.bl_tri a b
  rw [show Op.bytesLess a b = false from h, Bool.false_or] at this
  have e : (a == b) = false := by simpa using hne
  rw [e] at this
  simpa using this.symm
theorem lt_trans : ∀ {a b c : List UInt8}, lt a b = true → lt b c = true → lt a c = true
  | _, _, [], _, h => by simp [lt, Op.bytesLess] at h
  | _, [], _ :: _, h, _ => by simp [lt, Op.bytesLess] at h
  | [], _ :: _, _ :: _, _, _ => by simp [lt, Op.bytesLess]
  | a :: x, b :: y, c :: z, h1, h2 => by
    simp only [lt, Op.bytesLess, Bool.or_eq_true, decide_eq_true_eq, Bool.and_eq_true, beq_iff_eq] at h1 h2 ⊢
    rcases h1 with h1 | ⟨rfl, h1⟩
    · rcases h2 with h2 | ⟨rfl, h2⟩
      · left
        have g1 : a.toNat < b.toNat := h1
        have g2 : b.toNat < c.toNat := h2
        show a.toNat < c.toNat
        omega
      · exact .inl h1
    · rcases h2 with h2 | ⟨rfl, h2⟩
      · exact .inl h2
      · exact .inr ⟨rfl, lt_trans h1 h2⟩
def Bef (x y : SP) : Prop := lt (kof x) (kof y) = true
theorem asc_all : ∀ (l : List SP) (k : List UInt8), asc (some k) l = true → ∀ x ∈ l, lt k (kof x) = true
  | [], _, _, _, h => by cases h
  | y :: l, k, h, x, hx => by
    simp only [asc, Bool.and_eq_true] at h
    rcases List.mem_cons.1 hx with rfl | hx
    · exact h.1
    · exact lt_trans h.1 (asc_all l (kof y) h.2 x hx)
theorem asc_pair : ∀ (l : List SP) (o : Option (List UInt8)), asc o l = true → l.Pairwise Bef
  | [], _, _ => List.Pairwise.nil
  | y :: l, o, h => by
    simp only [asc, Bool.and_eq_true] at h
    exact List.Pairwise.cons (fun x hx => asc_all l (kof y) h.2 x hx) (asc_pair l _ h.2)
structure Rt (ps : List (List SP)) : Prop where
  len : ∀ p ∈ ps, 0 < p.length ∧ p.length ≤ 8
  page : ∀ p ∈ ps, p.Pairwise Bef
  pages : ps.Pairwise (fun p q => ∀ x ∈ p, ∀ y ∈ q, Bef x y)
theorem rt_of {ps : List (List SP)} (h : right ps = true) : Rt ps := by
  unfold right R at h
  rw [Bool.and_eq_true] at h
  have hp := List.pairwise_flatten.1 (asc_pair _ _ h.2)
  refine ⟨fun p hp => ?_, hp.1, hp.2⟩
  have := List.all_eq_true.1 h.1 p hp
  unfold fits at this
  simp at this
  omega
/-- Where a test changes over. -/
theorem cut {α : Type} (f : α → Bool) : ∀ (l : List α), l.Pairwise (fun x y => f y = true → f x = true) → ∃ k, k ≤ l.length ∧ (∀ t x, l[t]? = some x → t < k → f x = true) ∧ (∀ t x, l[t]? = some x → k ≤ t → f x = false)
  | [], _ => ⟨0, Nat.le_refl _, fun t x h => by simp at h, fun t x h => by simp at h⟩
  | a :: l, h => by
    obtain ⟨h1, h2⟩ := List.pairwise_cons.1 h
    cases ha : f a with
    | false =>
      refine ⟨0, Nat.zero_le _, fun t x _ ht => by omega, fun t x hx _ => ?_⟩
      cases t with
      | zero => simp at hx; rw [← hx]; exact ha
      | succ t =>
        have hm : x ∈ l := List.mem_of_getElem? (by simpa using hx)
        cases hf : f x with
        | false => rfl
        | true => rw [h1 x hm hf] at ha; cases ha
    | true =>
      obtain ⟨k, g1, g2, g3⟩ := cut f l h2
      refine ⟨k + 1, by simpa using g1, fun t x hx ht => ?_, fun t x hx ht => ?_⟩
      · cases t with
        | zero => simp at hx; rw [← hx]; exact ha
        | succ t => exact g2 t x (by simpa using hx) (by omega)
      · cases t with
        | zero => omega
        | succ t => exact g3 t x (by simpa using hx) (by omega)
def fk (p : List SP) : List UInt8 := (rd_T41 p 0).f0.toList
theorem fk_mem {p : List SP} (h : 0 < p.length) : ∃ x ∈ p, fk p = kof x := ⟨p[0], List.getElem_mem h, by unfold fk kof; rw [show (0 : Int) = ((0 : Nat) : Int) from rfl, rdT h]⟩
/-- The pages whose first key is not behind a key. -/
theorem page_cut {ps : List (List SP)} (h : Rt ps) (key : List UInt8) : ∃ k, k ≤ ps.length ∧ (∀ t : Nat, t < k → lt key (fk (rd_L2 ps t)) = false) ∧ (∀ t : Nat, k ≤ t → t < ps.length → lt key (fk (rd_L2 ps t)) = true) := by
  obtain ⟨k, h1, h2, h3⟩ := cut (fun p => !lt key (fk p)) ps (by
    have h4 : ps.Pairwise (fun p q => (p ∈ ps ∧ q ∈ ps) ∧ ∀ x ∈ p, ∀ y ∈ q, Bef x y) := List.Pairwise.imp_of_mem (fun hp hq hr => ⟨⟨hp, hq⟩, hr⟩) h.pages
    refine h4.imp (fun {p q} hr hq => ?_)
    obtain ⟨x, hx, ex⟩ := fk_mem (h.len p hr.1.1).1
    obtain ⟨y, hy, ey⟩ := fk_mem (h.len q hr.1.2).1
    have hb : lt (kof x) (kof y) = true := hr.2 x hx y hy
    rw [← ex, ← ey] at hb
    cases hc : lt key (fk p) with
    | false => simp
    | true =>
      have := lt_trans hc hb
      simp only [this] at hq
      cases hq)
  refine ⟨k, h1, fun t ht => ?_, fun t ht hl => ?_⟩
  · have hl : t < ps.length := by omega
    have := h2 t ps[t] (List.getElem?_eq_getElem hl) ht
    rw [rdL hl]
    simpa using this
  · have := h3 t ps[t] (List.getElem?_eq_getElem hl) ht
    rw [rdL hl]
    simpa using this
/-- The pairs ahead of a key. -/
theorem pair_cut {p : List SP} (h : p.Pairwise Bef) (key : List UInt8) : ∃ i, i ≤ p.length ∧ (∀ t : Nat, t < i → lt (rd_T41 p t).f0.toList key = true) ∧ (∀ t : Nat, i ≤ t → t < p.length → lt (rd_T41 p t).f0.toList key = false) := by
  obtain ⟨k, h1, h2, h3⟩ := cut (fun x => lt (kof x) key) p (h.imp (fun {x y} hr hq => lt_trans hr hq))
  refine ⟨k, h1, fun t ht => ?_, fun t ht hl => ?_⟩
  · have hl : t < p.length := by omega
    rw [rdT hl]
    exact h2 t p[t] (List.getElem?_eq_getElem hl) ht
  · rw [rdT hl]
    exact h3 t p[t] (List.getElem?_eq_getElem hl) ht
/-! ### the reference's -/
theorem ref_of (ps : List (List SP)) (key : ByteArray) (hn : ps.length ≤ 100000) (hne : ∀ i : Nat, i < ps.length → 0 < (rd_L2 ps i).length) (k : Nat) (hk : k ≤ ps.length) (h1 : ∀ t : Nat, t < k → lt key.toList (fk (rd_L2 ps t)) = false) (h2 : ∀ t : Nat, k ≤ t → t < ps.length → lt key.toList (fk (rd_L2 ps t)) = true) :
    ∀ (d i : Nat) (a : Int), ps.length - i = d → i ≤ ps.length → Ev (fun r => falseworkref7_of.l0 r ps key a i) (if i < k then ((k - 1 : Nat) : Int) else a) := by
  intro d
  induction d with
  | zero =>
    intro i a hd hi
    refine Ev.step (f := fun _ => some a) (fun r => ?_) ?_
    · simp only [falseworkref7_of.l0]
      rw [if_neg (by omega)]
    · rw [if_neg (by omega)]
      exact Ev.now a
  | succ d ih =>
    intro i a hd hi
    have hlt : i < ps.length := by omega
    have e1 : ∀ r, falseworkref7_of.l0 (r + 1) ps key a i = if lt key.toList (fk (rd_L2 ps i)) = true then falseworkref7_of.l0 r ps key a ((i + 1 : Nat) : Int) else falseworkref7_of.l0 r ps key i ((i + 1 : Nat) : Int) := fun r => by
      simp only [falseworkref7_of.l0]
      rw [if_pos (by omega), if_pos (by omega), if_pos (by have := hne i hlt; omega), wrap_one hlt (by omega)]
      rfl
    by_cases hik : i < k
    · have h3 := h1 i hik
      refine Ev.step (f := fun r => falseworkref7_of.l0 r ps key i ((i + 1 : Nat) : Int)) (fun r => by rw [e1, if_neg (by rw [h3]; simp)]) ?_
      have h4 := ih (i + 1) i (by omega) (by omega)
      rw [if_pos hik]
      by_cases h5 : i + 1 < k
      · rwa [if_pos h5] at h4
      · rw [if_neg h5] at h4
        rwa [show k - 1 = i by omega]
    · have h3 := h2 i (by omega) hlt
      refine Ev.step (f := fun r => falseworkref7_of.l0 r ps key a ((i + 1 : Nat) : Int)) (fun r => by rw [e1, if_pos h3]) ?_
      have h4 := ih (i + 1) a (by omega) (by omega)
      rw [if_neg (by omega)] at h4
      rwa [if_neg hik]
theorem into_rest (p : List SP) (key val : ByteArray) (hp : p.length ≤ 8) (was : Bool) : ∀ (d j : Nat) (out : List SP), p.length - j = d → j ≤ p.length → out.length ≤ 100 + j → (∀ t (h : t < p.length), j ≤ t → ¬ (p[t].f0).toList = key.toList) → Ev (fun r => falseworkref7_into.l0 r p key val out true was j) (out ++ p.drop j, was) := by
  intro d
  induction d with
  | zero =>
    intro j out hd hj ho hne
    refine Ev.step (f := fun _ => some (out, was)) (fun r => ?_) ?_
    · simp only [falseworkref7_into.l0]
      rw [if_neg (by omega), if_pos trivial]
    · rw [List.drop_eq_nil_of_le (by omega), List.append_nil]
      exact Ev.now _
  | succ d ih =>
    intro j out hd hj ho hne
    have hlt : j < p.length := by omega
    refine Ev.step (f := fun r => falseworkref7_into.l0 r p key val (out ++ [p[j]]) true was ((j + 1 : Nat) : Int)) (fun r => ?_) ?_
    · simp only [falseworkref7_into.l0]
      rw [if_pos (by omega), if_pos (by omega), rdT hlt, if_neg (hne j hlt (Nat.le_refl _)), if_pos trivial, if_pos (by omega), wrap_one hlt (by omega)]
    · have h := ih (j + 1) (out ++ [p[j]]) (by omega) (by omega) (by simp; omega) (fun t ht h => hne t ht (by omega))
      rw [List.append_assoc, List.singleton_append, ← List.drop_eq_getElem_cons hlt] at h
      exact h
theorem into_ev (p : List SP) (key val : ByteArray) (hp : p.length ≤ 8) (hP : p.Pairwise Bef) (i : Nat) (hi : i ≤ p.length) (g1 : ∀ t : Nat, t < i → lt (rd_T41 p t).f0.toList key.toList = true) (g2 : ∀ t : Nat, i ≤ t → t < p.length → lt (rd_T41 p t).f0.toList key.toList = false)
    (b : Bool) (hb : (decide (i < p.length) && ((rd_T41 p i).f0.toList == key.toList)) = b) : ∀ (d j : Nat) (out : List SP), i - j = d → j ≤ i → out.length ≤ 50 + j →
      Ev (fun r => falseworkref7_into.l0 r p key val out false false j) (out ++ (p.drop j).take (i - j) ++ [⟨key, val⟩] ++ p.drop (if b = true then i + 1 else i), b) := by
  have aft : ∀ t (h : t < p.length), i < t → ¬ (p[t].f0).toList = key.toList := fun t h hit he => by
    have hr : Bef (p[i]'(by omega)) p[t] := List.pairwise_iff_getElem.1 hP i t (by omega) h hit
    have h3 := g2 i (Nat.le_refl _) (by omega)
    rw [rdT (by omega)] at h3
    unfold Bef kof at hr
    rw [he] at hr
    rw [h3] at hr
    cases hr
  intro d
  induction d with
  | zero =>
    intro j out hd hj ho
    obtain rfl : j = i := by omega
    rw [Nat.sub_self, List.take_zero, List.append_nil]
    rcases Nat.lt_or_ge j p.length with hlt | hge
    · rw [decide_eq_true hlt, Bool.true_and, rdT hlt] at hb
      cases b with
      | true =>
        have he : (p[j].f0).toList = key.toList := by simpa using hb
        refine Ev.step (f := fun r => falseworkref7_into.l0 r p key val (out ++ [⟨key, val⟩]) true true ((j + 1 : Nat) : Int)) (fun r => ?_) ?_
        · simp only [falseworkref7_into.l0]
          rw [if_pos (by omega), if_pos (by omega), rdT hlt, if_pos he, if_pos (by omega), wrap_one hlt (by omega)]
        · rw [if_pos rfl]
          exact into_rest p key val hp true (p.length - (j + 1)) (j + 1) _ rfl (by omega) (by simp; omega) (fun t ht h => aft t ht (by omega))
      | false =>
        have he : ¬ (p[j].f0).toList = key.toList := by simpa using hb
        have hl : lt key.toList (p[j].f0).toList = true := lt_of_not (by have := g2 j (Nat.le_refl _) hlt; rwa [rdT hlt] at this) he
        refine Ev.step (f := fun r => falseworkref7_into.l0 r p key val ((out ++ [⟨key, val⟩]) ++ [p[j]]) true false ((j + 1 : Nat) : Int)) (fun r => ?_) ?_
        · simp only [falseworkref7_into.l0]
          rw [if_pos (by omega), if_pos (by omega), rdT hlt, if_neg he, if_neg (by simp), if_pos hl, if_pos (by omega)]
          simp only [Option.bind_some]
          rw [if_pos (by simp; omega), wrap_one hlt (by omega)]
        · have h := into_rest p key val hp false (p.length - (j + 1)) (j + 1) ((out ++ [⟨key, val⟩]) ++ [p[j]]) rfl (by omega) (by simp; omega) (fun t ht h => aft t ht (by omega))
          rw [show (out ++ [(⟨key, val⟩ : SP)]) ++ [p[j]] ++ p.drop (j + 1) = (out ++ [(⟨key, val⟩ : SP)]) ++ p.drop j from by rw [List.append_assoc, List.singleton_append, ← List.drop_eq_getElem_cons hlt]] at h
          rw [if_neg (by simp)]
          exact h
    · obtain rfl : j = p.length := by omega
      rw [decide_eq_false (Nat.lt_irrefl _), Bool.false_and] at hb
      subst hb
      refine Ev.step (f := fun _ => some (out ++ [⟨key, val⟩], false)) (fun r => ?_) ?_
      · simp only [falseworkref7_into.l0]
        rw [if_neg (by omega), if_neg (by simp), if_pos (by omega)]
      · rw [if_neg (by simp), List.drop_length, List.append_nil]
        exact Ev.now _
  | succ d ih =>
    intro j out hd hj ho
    have hji : j < i := by omega
    have hlt : j < p.length := by omega
    have h3 : lt (p[j].f0).toList key.toList = true := by have := g1 j hji; rwa [rdT hlt] at this
    have he : ¬ (p[j].f0).toList = key.toList := fun e => by rw [e, lt_irrefl] at h3; cases h3
    refine Ev.step (f := fun r => falseworkref7_into.l0 r p key val (out ++ [p[j]]) false false ((j + 1 : Nat) : Int)) (fun r => ?_) ?_
    · simp only [falseworkref7_into.l0]
      rw [if_pos (by omega), if_pos (by omega), rdT hlt, if_neg he, if_neg (by simp), if_neg (by rw [show Op.bytesLess key.toList (p[j].f0).toList = false from lt_asymm h3]; simp), if_pos (by omega), wrap_one hlt (by omega)]
    · have h := ih (j + 1) (out ++ [p[j]]) (by omega) (by omega) (by simp; omega)
      have e : (p.drop j).take (i - j) = p[j] :: (p.drop (j + 1)).take (i - (j + 1)) := by
        rw [List.drop_eq_getElem_cons hlt, show i - j = (i - (j + 1)) + 1 by omega, List.take_succ_cons]
      rw [e]
      simpa using h
/-- A page that may be too long is parted. -/
def part (q : List SP) : List (List SP) := if q.length > 8 then [q.take 4, q.drop 4] else [q]
theorem put_rest (ps : List (List SP)) (key val : ByteArray) (hn : ps.length ≤ 1000) (hl : ∀ p ∈ ps, p.length ≤ 8) (n : Nat) : ∀ (d i : Nat) (out : List (List SP)), ps.length - i = d → i ≤ ps.length → n < i → out.length ≤ 1000 + i → Ev (fun r => falseworkref7_Put.l0 r ps key val n out i) (out ++ ps.drop i) := by
  intro d
  induction d with
  | zero =>
    intro i out hd hi hni ho
    refine Ev.step (f := fun _ => some out) (fun r => ?_) ?_
    · simp only [falseworkref7_Put.l0]
      rw [if_neg (by omega)]
    · rw [List.drop_eq_nil_of_le (by omega), List.append_nil]
      exact Ev.now _
  | succ d ih =>
    intro i out hd hi hni ho
    have hlt : i < ps.length := by omega
    have h8 := hl ps[i] (List.getElem_mem hlt)
    refine Ev.step (f := fun r => falseworkref7_Put.l0 r ps key val n (out ++ [ps[i]]) ((i + 1 : Nat) : Int)) (fun r => ?_) ?_
    · simp only [falseworkref7_Put.l0, Option.bind_some, List.nil_append, List.length_nil]
      rw [if_pos (by omega), if_pos (by omega), rdL hlt, if_pos (by omega), if_neg (by omega), if_neg (by omega), if_pos (by omega), wrap_one hlt (by omega)]
    · have h := ih (i + 1) (out ++ [ps[i]]) (by omega) (by omega) (by omega) (by simp; omega)
      rw [List.append_assoc, List.singleton_append, ← List.drop_eq_getElem_cons hlt] at h
      exact h
theorem put_ev (ps : List (List SP)) (key val : ByteArray) (hn : ps.length ≤ 1000) (hl : ∀ p ∈ ps, p.length ≤ 8) (n : Nat) (hnl : n < ps.length) (q : List SP) (b : Bool) (hq : Ev (fun r => falseworkref7_into.f r ps[n] key val) (q, b)) (hq9 : q.length ≤ 9) : ∀ (d i : Nat) (out : List (List SP)), n - i = d → i ≤ n → out.length ≤ 500 + i →
      Ev (fun r => falseworkref7_Put.l0 r ps key val n out i) (out ++ (ps.drop i).take (n - i) ++ part q ++ ps.drop (n + 1)) := by
  intro d
  induction d with
  | zero =>
    intro i out hd hi ho
    obtain rfl : i = n := by omega
    have h8 := hl ps[i] (List.getElem_mem hnl)
    rw [Nat.sub_self, List.take_zero, List.append_nil]
    by_cases hlong : q.length > 8
    · have hp : part q = [q.take 4, q.drop 4] := by unfold part; rw [if_pos hlong]
      refine Ev.step (f := fun r => (falseworkref7_into.f r ps[i] key val).bind fun bt => if (bt.1.length : Int) > 8 then (if 4 ≤ (bt.1.length : Int) then (if (bt.1.take 4).length < 4398046511104 then (if out.length < 5864062014805 then (if (bt.1.drop 4).length < 4398046511104 then (if (out ++ [bt.1.take 4]).length < 5864062014805 then falseworkref7_Put.l0 r ps key val i (out ++ [bt.1.take 4] ++ [bt.1.drop 4]) ((i + 1 : Nat) : Int) else none) else none) else none) else none) else none) else (if out.length < 5864062014805 then falseworkref7_Put.l0 r ps key val i (out ++ [bt.1]) ((i + 1 : Nat) : Int) else none)) (fun r => ?_) (Ev.bind hq ?_)
      · simp only [falseworkref7_Put.l0, Option.bind_some, List.nil_append, List.length_nil, Nat.zero_add]
        rw [if_pos (by omega), if_pos (by omega), rdL hnl, if_pos (by omega), if_pos trivial, wrap_one hnl (by omega)]
      · have h := put_rest ps key val hn hl i (ps.length - (i + 1)) (i + 1) (out ++ [q.take 4] ++ [q.drop 4]) rfl (by omega) (by omega) (by simp; omega)
        refine Ev.congr (fun r => ?_) (by rw [hp]; simpa using h)
        rw [if_pos (by show (q.length : Int) > 8; omega), if_pos (by show 4 ≤ (q.length : Int); omega), if_pos (by rw [List.length_take]; omega), if_pos (by omega), if_pos (by rw [List.length_drop]; show q.length - 4 < _; omega), if_pos (by simp; omega)]
        simp
    · have hp : part q = [q] := by unfold part; rw [if_neg hlong]
      refine Ev.step (f := fun r => (falseworkref7_into.f r ps[i] key val).bind fun bt => if (bt.1.length : Int) > 8 then (if 4 ≤ (bt.1.length : Int) then (if (bt.1.take 4).length < 4398046511104 then (if out.length < 5864062014805 then (if (bt.1.drop 4).length < 4398046511104 then (if (out ++ [bt.1.take 4]).length < 5864062014805 then falseworkref7_Put.l0 r ps key val i (out ++ [bt.1.take 4] ++ [bt.1.drop 4]) ((i + 1 : Nat) : Int) else none) else none) else none) else none) else none) else (if out.length < 5864062014805 then falseworkref7_Put.l0 r ps key val i (out ++ [bt.1]) ((i + 1 : Nat) : Int) else none)) (fun r => ?_) (Ev.bind hq ?_)
      · simp only [falseworkref7_Put.l0, Option.bind_some, List.nil_append, List.length_nil, Nat.zero_add]
        rw [if_pos (by omega), if_pos (by omega), rdL hnl, if_pos (by omega), if_pos trivial, wrap_one hnl (by omega)]
      · have h := put_rest ps key val hn hl i (ps.length - (i + 1)) (i + 1) (out ++ [q]) rfl (by omega) (by omega) (by simp; omega)
        refine Ev.congr (fun r => ?_) (by rw [hp]; exact h)
        rw [if_neg (by show ¬ (q.length : Int) > 8; omega), if_pos (by omega)]
  | succ d ih =>
    intro i out hd hi ho
    have hin : i < n := by omega
    have hlt : i < ps.length := by omega
    have h8 := hl ps[i] (List.getElem_mem hlt)
    refine Ev.step (f := fun r => falseworkref7_Put.l0 r ps key val n (out ++ [ps[i]]) ((i + 1 : Nat) : Int)) (fun r => ?_) ?_
    · simp only [falseworkref7_Put.l0, Option.bind_some, List.nil_append, List.length_nil]
      rw [if_pos (by omega), if_pos (by omega), rdL hlt, if_pos (by omega), if_neg (by omega), if_neg (by omega), if_pos (by omega), wrap_one hlt (by omega)]
    · have h := ih (i + 1) (out ++ [ps[i]]) (by omega) (by omega) (by simp; omega)
      have e : (ps.drop i).take (n - i) = ps[i] :: (ps.drop (i + 1)).take (n - (i + 1)) := by
        rw [List.drop_eq_getElem_cons hlt, show n - i = (n - (i + 1)) + 1 by omega, List.take_succ_cons]
      rw [e]
      simpa using h
end Go.Proofs.Ytookpmdgoednfaa.Px
