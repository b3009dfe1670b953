/- Texts laid together: Gq, St. No condition. -/
import Derived.Lib.Strings
import Derived.Test.YtookpmdgoednfaaYPz5
set_option linter.unusedVariables false
set_option linter.unusedSimpArgs false
set_option maxRecDepth 100000
set_option maxHeartbeats 8000000
namespace Go.Proofs.Ytookpmdgoednfaa.Gq
open Go.RowKit YtookpmdgoednfaaW.PrintWords YtookpmdgoednfaaW.PrintLast YtookpmdgoednfaaW.PrintMore PPagePuts Py Px
def within (lo hi : ByteArray) (x : SP) : Bool := !lt (kof x) lo.toList && (hi.toList.isEmpty || lt (kof x) hi.toList)
/-- What the reference gathers. -/
def rmore (n : Int) (lo hi : ByteArray) (out l : List SP) : List SP := out ++ (l.filter (within lo hi)).take (n.toNat - out.length)
/-- What the program gathers. -/
def pmore (n : Int) (lo hi : ByteArray) : List SP → List SP → List SP
  | out, [] => out
  | out, x :: l => if n ≤ (out.length : Int) then out else if (!hi.toList.isEmpty && !lt (kof x) hi.toList) = true then out else if lt (kof x) lo.toList = true then pmore n lo hi out l else pmore n lo hi (out ++ [x]) l
theorem pmore_eq (n : Int) (lo hi : ByteArray) : ∀ (l out : List SP), l.Pairwise Bef → pmore n lo hi out l = rmore n lo hi out l
  | [], out, _ => by simp [pmore, rmore]
  | x :: l, out, h => by
    obtain ⟨hx, hl⟩ := List.pairwise_cons.1 h
    unfold pmore
    split
    · rename_i h1
      unfold rmore
      rw [show n.toNat - out.length = 0 by omega, List.take_zero, List.append_nil]
    · rename_i h1
      split
      · rename_i h2
        rw [Bool.and_eq_true] at h2
        obtain ⟨h2, h3⟩ := h2
        have e1 : hi.toList.isEmpty = false := by simpa using h2
        have e2 : lt (kof x) hi.toList = false := by simpa using h3
        have e3 : (x :: l).filter (within lo hi) = [] := by
          rw [List.filter_eq_nil_iff]
          intro y hy
          have e4 : lt (kof y) hi.toList = false := by
            rcases List.mem_cons.1 hy with rfl | hy
            · exact e2
            · cases e5 : lt (kof y) hi.toList with
              | false => rfl
              | true => rw [lt_trans (hx y hy) e5] at e2; cases e2
          unfold within
          rw [e1, e4]
          simp
        unfold rmore
        rw [e3, List.take_nil, List.append_nil]
      · rename_i h2
        have e0 : (hi.toList.isEmpty || lt (kof x) hi.toList) = true := by
          cases e1 : hi.toList.isEmpty <;> cases e2 : lt (kof x) hi.toList <;> simp [e1, e2] at h2 ⊢
        split
        · rename_i h3
          rw [pmore_eq n lo hi l out hl]
          unfold rmore
          rw [List.filter_cons_of_neg (by unfold within; rw [h3]; simp)]
        · rename_i h3
          rw [pmore_eq n lo hi l (out ++ [x]) hl]
          unfold rmore
          have h4 : lt (kof x) lo.toList = false := by simpa using h3
          rw [List.filter_cons_of_pos (by unfold within; rw [h4, e0]; rfl), List.length_append, List.length_singleton, show n.toNat - out.length = (n.toNat - (out.length + 1)) + 1 by omega, List.take_succ_cons, List.append_assoc, List.singleton_append]
theorem pm_full {n : Int} {lo hi : ByteArray} {out : List SP} (h : n ≤ (out.length : Int)) (l : List SP) : pmore n lo hi out l = out := by
  cases l with
  | nil => rfl
  | cons x l => unfold pmore; rw [if_pos h]
theorem pm_end {n : Int} {lo hi : ByteArray} {out : List SP} (h : ¬ n ≤ (out.length : Int)) {x : SP} (h1 : hi.toList.isEmpty = false) (h2 : lt x.f0.toList hi.toList = false) (l : List SP) : pmore n lo hi out (x :: l) = out := by
  unfold pmore
  rw [if_neg h, if_pos (by rw [h1, show lt (kof x) hi.toList = false from h2]; rfl)]
theorem pm_skip {n : Int} {lo hi : ByteArray} {out : List SP} (h : ¬ n ≤ (out.length : Int)) {x : SP} (h1 : (hi.toList.isEmpty || lt x.f0.toList hi.toList) = true) (h2 : lt x.f0.toList lo.toList = true) (l : List SP) : pmore n lo hi out (x :: l) = pmore n lo hi out l := by
  have h3 : (hi.toList.isEmpty || lt (kof x) hi.toList) = true := h1
  conv => lhs; unfold pmore
  rw [if_neg h, if_neg (by revert h3; cases hi.toList.isEmpty <;> cases lt (kof x) hi.toList <;> simp), if_pos (show lt (kof x) lo.toList = true from h2)]
theorem pm_take {n : Int} {lo hi : ByteArray} {out : List SP} (h : ¬ n ≤ (out.length : Int)) {x : SP} (h1 : (hi.toList.isEmpty || lt x.f0.toList hi.toList) = true) (h2 : lt x.f0.toList lo.toList = false) (l : List SP) : pmore n lo hi out (x :: l) = pmore n lo hi (out ++ [x]) l := by
  have h3 : (hi.toList.isEmpty || lt (kof x) hi.toList) = true := h1
  conv => lhs; unfold pmore
  rw [if_neg h, if_neg (by revert h3; cases hi.toList.isEmpty <;> cases lt (kof x) hi.toList <;> simp), if_neg (by rw [show lt (kof x) lo.toList = false from h2]; simp)]
theorem flat_pair {ps : List (List SP)} (h : Rt ps) : ps.flatten.Pairwise Bef := List.pairwise_flatten.2 ⟨h.page, h.pages⟩
theorem drop_rt {ps : List (List SP)} (h : Rt ps) (m : Nat) : Rt (ps.drop m) := ⟨fun p hp => h.len p (List.mem_of_mem_drop hp), fun p hp => h.page p (List.mem_of_mem_drop hp), h.pages.sublist (List.drop_sublist _ _)⟩
theorem not_below {x y : SP} {lo : List UInt8} (h : Bef x y) (hy : lt lo (kof y) = false) : lt (kof x) lo = true := by
  cases hx : lt (kof x) lo with
  | true => rfl
  | false =>
    by_cases he : kof x = lo
    · unfold Bef at h
      rw [he] at h
      rw [h] at hy
      cases hy
    · have := lt_trans (lt_of_not hx he) h
      rw [this] at hy
      cases hy
/-- Ahead of a key's page nothing stands from that key on. -/
theorem drop_sel {ps : List (List SP)} (h : Rt ps) (lo hi : ByteArray) (k : Nat) (hk : k ≤ ps.length) (h1 : ∀ t : Nat, t < k → lt lo.toList (fk (rd_L2 ps t)) = false) : (ps.drop (k - 1)).flatten.filter (within lo hi) = ps.flatten.filter (within lo hi) := by
  have e : ps.flatten = (ps.take (k - 1)).flatten ++ (ps.drop (k - 1)).flatten := by rw [← List.flatten_append, List.take_append_drop]
  rw [e, List.filter_append]
  have e2 : (ps.take (k - 1)).flatten.filter (within lo hi) = [] := by
    rw [List.filter_eq_nil_iff]
    intro x hx
    obtain ⟨p, hp, hxp⟩ := List.mem_flatten.1 hx
    obtain ⟨t, ht, hpt⟩ := List.mem_iff_getElem.1 hp
    rw [List.length_take] at ht
    rw [List.getElem_take] at hpt
    have hkl : k - 1 < ps.length := by omega
    obtain ⟨y, hy, ey⟩ := fk_mem (h.len _ (List.getElem_mem hkl)).1
    have hb := (List.pairwise_iff_getElem.1 h.pages) t (k - 1) (by omega) hkl (by omega) x (by rw [hpt]; exact hxp) y hy
    have h2 := h1 (k - 1) (by omega)
    rw [rdL hkl, ey] at h2
    unfold within
    rw [not_below hb h2]
    simp
  rw [e2, List.nil_append]
/-- What both gather. -/
theorem both_sel {ps : List (List SP)} (h : Rt ps) (n : Int) (lo hi : ByteArray) (k : Nat) (hk : k ≤ ps.length) (h1 : ∀ t : Nat, t < k → lt lo.toList (fk (rd_L2 ps t)) = false) : pmore n lo hi [] (ps.drop (k - 1)).flatten = rmore n lo hi [] ps.flatten := by
  rw [pmore_eq n lo hi _ _ (flat_pair (drop_rt h (k - 1)))]
  unfold rmore
  rw [drop_sel h lo hi k hk h1]
end Go.Proofs.Ytookpmdgoednfaa.Gq
namespace Go.Proofs.Ytookpmdgoednfaa.St
open Go.RowKit YtookpmdgoednfaaW.PrintWords YtookpmdgoednfaaW.PrintLast YtookpmdgoednfaaW.PrintMore PPagePuts
open Px (lt lt_irrefl lt_asymm lt_of_not lt_trans)
abbrev SP := Py.SP
/-! ### texts -/
abbrev Key := ByteArray
def e0 : ByteArray := ⟨#[]⟩
def kb (a b : Key) : Bool := a.toList == b.toList
theorem ba_eq {a b : ByteArray} (h : a.toList = b.toList) : a = b := by
  rw [Lib.toList_data, Lib.toList_data] at h
  cases a; cases b
  congr 1
  exact Array.toList_inj.1 h
theorem kb_iff {a b : Key} : kb a b = true ↔ a = b := by
  unfold kb
  rw [beq_iff_eq]
  exact ⟨ba_eq, fun h => by rw [h]⟩
theorem kb_self (a : Key) : kb a a = true := kb_iff.2 rfl
theorem kb_ne {a b : Key} (h : ¬ a = b) : kb a b = false := by
  cases e : kb a b
  · rfl
  · exact absurd (kb_iff.1 e) h
/-! ### rising lists of keys -/
def insK : List Key → Key → List Key
  | [], k => [k]
  | x :: r, k => if lt x.toList k.toList = true then x :: insK r k else if kb x k = true then x :: r else k :: x :: r
def BefK (a b : Key) : Prop := lt a.toList b.toList = true
theorem befK_asymm {a b : Key} (h : BefK a b) : ¬ BefK b a := fun h' => by
  have := lt_asymm h
  unfold BefK at h'
  rw [this] at h'
  cases h'
theorem mem_insK {y : Key} : ∀ {l : List Key} {k : Key}, y ∈ insK l k ↔ y = k ∨ y ∈ l
  | [], k => by simp [insK]
  | x :: r, k => by
    unfold insK
    by_cases h1 : lt x.toList k.toList = true
    · rw [if_pos h1, List.mem_cons, mem_insK, List.mem_cons]
      exact ⟨fun h => by rcases h with h | h | h; exact .inr (.inl h); exact .inl h; exact .inr (.inr h), fun h => by rcases h with h | h | h; exact .inr (.inl h); exact .inl h; exact .inr (.inr h)⟩
    · rw [if_neg h1]
      by_cases h2 : kb x k = true
      · rw [if_pos h2, kb_iff.1 h2]
        simp
      · rw [if_neg h2]
        simp
theorem sorted_insK : ∀ {l : List Key} {k : Key}, l.Pairwise BefK → (insK l k).Pairwise BefK
  | [], k, _ => by simp [insK]
  | x :: r, k, h => by
    obtain ⟨hx, hr⟩ := List.pairwise_cons.1 h
    unfold insK
    by_cases h1 : lt x.toList k.toList = true
    · rw [if_pos h1]
      refine List.pairwise_cons.2 ⟨fun y hy => ?_, sorted_insK hr⟩
      rcases mem_insK.1 hy with rfl | hy
      · exact h1
      · exact hx y hy
    · rw [if_neg h1]
      by_cases h2 : kb x k = true
      · rw [if_pos h2]; exact h
      · rw [if_neg h2]
        have h3 : BefK k x := lt_of_not (by simpa using h1) (fun e => h2 (kb_iff.2 (ba_eq e)))
        refine List.pairwise_cons.2 ⟨fun y hy => ?_, h⟩
        rcases List.mem_cons.1 hy with rfl | hy
        · exact h3
        · exact lt_trans h3 (hx y hy)
/-- Two rising lists that hold the same are one. -/
theorem uniq {α : Type} {R : α → α → Prop} (ha : ∀ a b, R a b → ¬ R b a) : ∀ {l1 l2 : List α}, l1.Pairwise R → l2.Pairwise R → (∀ x, x ∈ l1 ↔ x ∈ l2) → l1 = l2
  | [], [], _, _, _ => rfl
  | [], b :: l2, _, _, h => by have := (h b).2 (List.mem_cons_self ..); cases this
  | a :: l1, [], _, _, h => by have := (h a).1 (List.mem_cons_self ..); cases this
  | a :: l1, b :: l2, h1, h2, h => by
    obtain ⟨p1, q1⟩ := List.pairwise_cons.1 h1
    obtain ⟨p2, q2⟩ := List.pairwise_cons.1 h2
    have hab : a = b := by
      rcases List.mem_cons.1 ((h a).1 (List.mem_cons_self ..)) with e | e
      · exact e
      · rcases List.mem_cons.1 ((h b).2 (List.mem_cons_self ..)) with e' | e'
        · exact e'.symm
        · exact absurd (p1 b e') (ha _ _ (p2 a e))
    subst hab
    have irr : ∀ l : List α, (∀ x ∈ l, R a x) → a ∉ l := fun l hl hm => ha _ _ (hl a hm) (hl a hm)
    rw [uniq ha q1 q2 fun x => ⟨fun hx => by
      rcases List.mem_cons.1 ((h x).1 (List.mem_cons_of_mem _ hx)) with e | e
      · subst e; exact absurd hx (irr _ p1)
      · exact e, fun hx => by
      rcases List.mem_cons.1 ((h x).2 (List.mem_cons_of_mem _ hx)) with e | e
      · subst e; exact absurd hx (irr _ p2)
      · exact e⟩]
/-! ### versions -/
structure RV where
  f0 : ByteArray
  f1 : Int
  f2 : ByteArray
  f3 : Bool
structure St where
  room : Int
  top : Int
  l : List RV
def maxTime : Int := 1099511627776
def isK (k : Key) (x : RV) : Bool := kb x.f0 k
def vers (l : List RV) (k : Key) : List RV := l.filter (isK k)
def allKeys (l : List RV) : List Key := l.foldl (fun ks x => insK ks x.f0) []
theorem foldl_mem {y : Key} : ∀ (l : List RV) (a : List Key), y ∈ l.foldl (fun ks x => insK ks x.f0) a ↔ y ∈ a ∨ ∃ x ∈ l, x.f0 = y
  | [], a => by simp
  | x :: l, a => by
    rw [List.foldl_cons, foldl_mem l, mem_insK]
    constructor
    · rintro ((rfl | h) | ⟨z, hz, h⟩)
      · exact .inr ⟨x, List.mem_cons_self .., rfl⟩
      · exact .inl h
      · exact .inr ⟨z, List.mem_cons_of_mem _ hz, h⟩
    · rintro (h | ⟨z, hz, h⟩)
      · exact .inl (.inr h)
      · rcases List.mem_cons.1 hz with rfl | hz
        · exact .inl (.inl h.symm)
        · exact .inr ⟨z, hz, h⟩
theorem mem_allKeys {y : Key} {l : List RV} : y ∈ allKeys l ↔ ∃ x ∈ l, x.f0 = y := by
  unfold allKeys
  rw [foldl_mem]
  simp
theorem foldl_sorted : ∀ (l : List RV) (a : List Key), a.Pairwise BefK → (l.foldl (fun ks x => insK ks x.f0) a).Pairwise BefK
  | [], _, h => h
  | _ :: l, _, h => foldl_sorted l _ (sorted_insK h)
theorem sorted_allKeys (l : List RV) : (allKeys l).Pairwise BefK := foldl_sorted l [] List.Pairwise.nil
theorem mem_vers {l : List RV} {k : Key} {x : RV} : x ∈ vers l k ↔ x ∈ l ∧ x.f0 = k := by
  unfold vers isK
  rw [List.mem_filter, kb_iff]
theorem vers_nil {l : List RV} {k : Key} : vers l k = [] ↔ k ∉ allKeys l := by
  rw [mem_allKeys]
  constructor
  · rintro h ⟨x, hx, he⟩
    have : x ∈ vers l k := mem_vers.2 ⟨hx, he⟩
    rw [h] at this
    cases this
  · intro h
    rw [List.eq_nil_iff_forall_not_mem]
    intro x hx
    exact h ⟨x, (mem_vers.1 hx).1, (mem_vers.1 hx).2⟩
/-! ### the last one of which something holds -/
def cut {α : Type} (p : α → Bool) : List α → Option (List α × α × List α)
  | [] => none
  | x :: r => match cut p r with
    | some (a, y, b) => some (x :: a, y, b)
    | none => if p x = true then some ([], x, r) else none
theorem cut_none {α : Type} {p : α → Bool} : ∀ {l : List α}, cut p l = none ↔ ∀ x ∈ l, p x = false
  | [] => by simp [cut]
  | x :: r => by
    unfold cut
    cases h : cut p r with
    | some t => 
      obtain ⟨a, y, b⟩ := t
      simp only [reduceCtorEq, false_iff]
      intro h'
      have := cut_none.2 (fun z hz => h' z (List.mem_cons_of_mem _ hz))
      rw [h] at this
      cases this
    | none =>
      have hn := cut_none.1 h
      cases hp : p x with
      | true => simp [hp]
      | false =>
        simp only [Bool.false_eq_true, if_false, true_iff]
        intro z hz
        rcases List.mem_cons.1 hz with rfl | hz
        · exact hp
        · exact hn z hz
theorem cut_some {α : Type} {p : α → Bool} : ∀ {l a b : List α} {y : α}, cut p l = some (a, y, b) → l = a ++ y :: b ∧ p y = true ∧ ∀ z ∈ b, p z = false
  | [], a, b, y, h => by simp [cut] at h
  | x :: r, a, b, y, h => by
    unfold cut at h
    cases h' : cut p r with
    | some t =>
      obtain ⟨a', y', b'⟩ := t
      rw [h'] at h
      simp only [Option.some.injEq, Prod.mk.injEq] at h
      obtain ⟨rfl, rfl, rfl⟩ := h
      obtain ⟨h1, h2, h3⟩ := cut_some h'
      exact ⟨by rw [h1, List.cons_append], h2, h3⟩
    | none =>
      rw [h'] at h
      cases hp : p x with
      | true =>
        simp only [hp, if_true, Option.some.injEq, Prod.mk.injEq] at h
        obtain ⟨rfl, rfl, rfl⟩ := h
        exact ⟨rfl, hp, cut_none.1 h'⟩
      | false => simp [hp] at h
theorem cut_mk {α : Type} {p : α → Bool} {y : α} {b : List α} (hy : p y = true) (hb : ∀ z ∈ b, p z = false) : ∀ (a : List α), cut p (a ++ y :: b) = some (a, y, b)
  | [] => by
    rw [List.nil_append]
    unfold cut
    rw [cut_none.2 hb]
    simp [hy]
  | x :: a => by
    rw [List.cons_append]
    unfold cut
    rw [cut_mk hy hb a]
/-- .. of those of which something else holds. -/
theorem cut_filter {α : Type} {p q : α → Bool} : ∀ (l : List α), (cut (fun x => p x && q x) l).map (·.2.1) = (cut q (l.filter p)).map (·.2.1)
  | [] => rfl
  | x :: r => by
    have ih := cut_filter (p := p) (q := q) r
    cases hp : p x with
    | false =>
      rw [List.filter_cons_of_neg (by simp [hp]), ← ih]
      conv => lhs; unfold cut
      cases h : cut (fun x => p x && q x) r with
      | some t => simp
      | none => simp [hp]
    | true =>
      rw [List.filter_cons_of_pos hp]
      unfold cut
      cases h : cut (fun x => p x && q x) r with
      | some t =>
        rw [h] at ih
        cases h2 : cut q (r.filter p) with
        | none => rw [h2] at ih; cases ih
        | some t2 => rw [h2] at ih; simpa using ih
      | none =>
        rw [h] at ih
        cases h2 : cut q (r.filter p) with
        | some t2 => rw [h2] at ih; cases ih
        | none =>
          simp only [hp, Bool.true_and]
          cases q x <;> simp
/-! ### a store -/
structure Inv (s : St) : Prop where
  rise : s.l.Pairwise (fun x y => x.f0 = y.f0 → x.f1 < y.f1)
  lo : ∀ x ∈ s.l, 1 ≤ x.f1
  hi : ∀ x ∈ s.l, x.f1 ≤ s.top
  mt : ∀ x ∈ s.l, x.f1 < maxTime
  gone : ∀ x ∈ s.l, x.f3 = true → x.f2 = e0
  room : (s.l.length : Int) ≤ s.room
def mayT (s : St) (t : Int) : Bool := decide (1 ≤ t) && decide (t < maxTime) && decide (s.top ≤ t)
def put (s : St) (v : RV) : St × Int :=
  if mayT s v.f1 = false then (s, 1) else
  match cut (isK v.f0) s.l with
  | none => if v.f3 = true then (s, 0) else if s.room ≤ (s.l.length : Int) then (s, 4) else (⟨s.room, v.f1, s.l ++ [v]⟩, 0)
  | some (a, y, b) => if v.f3 = true ∧ y.f3 = true then (s, 0) else if y.f1 = v.f1 then (⟨s.room, v.f1, a ++ v :: b⟩, 0) else if s.room ≤ (s.l.length : Int) then (s, 4) else (⟨s.room, v.f1, s.l ++ [v]⟩, 0)
def upto (k : Key) (t : Int) (x : RV) : Bool := isK k x && decide (x.f1 ≤ t)
def at_ (l : List RV) (k : Key) (t : Int) : Option RV := (cut (upto k t) l).map (·.2.1)
def val (o : Option RV) : ByteArray × Bool := match o with | none => (e0, false) | some y => if y.f3 = true then (e0, false) else (y.f2, true)
def get (s : St) (t : Int) (k : Key) : ByteArray × Bool := val (at_ s.l k t)
def inside (lo hi k : Key) : Bool := !lt k.toList lo.toList && (hi.toList.isEmpty || lt k.toList hi.toList)
def pairAt (s : St) (t : Int) (k : Key) : Option SP := if (get s t k).2 = true then some ⟨k, (get s t k).1⟩ else none
def scan (s : St) (t : Int) (lo hi : Key) (n : Int) : List SP := (((allKeys s.l).filter (inside lo hi)).filterMap (pairAt s t)).take n.toNat
def stLast (s : St) (k : Key) : Int := match cut (isK k) s.l with | none => 0 | some (_, y, _) => y.f1
def since (s : St) (lo hi : Key) (t : Int) : Bool := s.l.any (fun x => decide (t < x.f1) && inside lo hi x.f0)
def keep (t : Int) (x : RV) (r : List RV) : Bool := decide (t < x.f1) || (!(r.any (upto x.f0 t)) && !x.f3)
def trimL (t : Int) : List RV → List RV
  | [] => []
  | x :: r => if keep t x r = true then x :: trimL t r else trimL t r
theorem trimL_cons (t : Int) (x : RV) (r : List RV) : trimL t (x :: r) = if keep t x r = true then x :: trimL t r else trimL t r := rfl
def trim (s : St) (t : Int) : St × Int := (⟨s.room, s.top, trimL t s.l⟩, (s.l.length : Int) - ((trimL t s.l).length : Int))
def new (room : Int) : St := ⟨room, 0, []⟩
/-! ### what stays so -/
theorem inv_new {room : Int} (h : 0 ≤ room) : Inv (new room) := by
  constructor <;> simp [new]
  exact h
theorem mayT_iff {s : St} {t : Int} : mayT s t = true ↔ 1 ≤ t ∧ t < maxTime ∧ s.top ≤ t := by
  unfold mayT
  simp [and_assoc]
theorem inv_append {s : St} (h : Inv s) {v : RV} (ht : mayT s v.f1 = true) (hg : v.f3 = true → v.f2 = e0) (hr : ¬ s.room ≤ (s.l.length : Int)) (hn : ∀ x ∈ s.l, x.f0 = v.f0 → x.f1 < v.f1) : Inv ⟨s.room, v.f1, s.l ++ [v]⟩ := by
  obtain ⟨h1, h2, h3⟩ := mayT_iff.1 ht
  refine ⟨?_, ?_, ?_, ?_, ?_, ?_⟩
  · refine List.pairwise_append.2 ⟨h.rise, by simp, fun x hx y hy => ?_⟩
    obtain rfl := List.mem_singleton.1 hy
    exact hn x hx
  all_goals first
    | (intro x hx
       rcases List.mem_append.1 hx with hx | hx
       · first | exact h.lo x hx | (have := h.hi x hx; show x.f1 ≤ v.f1; omega) | exact h.mt x hx | exact h.gone x hx
       · obtain rfl := List.mem_singleton.1 hx
         first | exact h1 | exact Int.le_refl _ | exact h2 | exact hg)
    | (simp; omega)
theorem inv_set {s : St} (h : Inv s) {v y : RV} {a b : List RV} (hl : s.l = a ++ y :: b) (hk : y.f0 = v.f0) (hy : y.f1 = v.f1) (ht : mayT s v.f1 = true) (hg : v.f3 = true → v.f2 = e0) : Inv ⟨s.room, v.f1, a ++ v :: b⟩ := by
  obtain ⟨h1, h2, h3⟩ := mayT_iff.1 ht
  have mem : ∀ x ∈ a ++ v :: b, x = v ∨ x ∈ s.l := fun x hx => by
    rw [hl]
    rcases List.mem_append.1 hx with hx | hx
    · exact .inr (List.mem_append_left _ hx)
    · rcases List.mem_cons.1 hx with rfl | hx
      · exact .inl rfl
      · exact .inr (List.mem_append_right _ (List.mem_cons_of_mem _ hx))
  refine ⟨?_, ?_, ?_, ?_, ?_, ?_⟩
  · have hr := h.rise
    rw [hl] at hr
    obtain ⟨r1, r2, r3⟩ := List.pairwise_append.1 hr
    obtain ⟨r4, r5⟩ := List.pairwise_cons.1 r2
    refine List.pairwise_append.2 ⟨r1, List.pairwise_cons.2 ⟨fun x hx he => ?_, r5⟩, fun x hx z hz he => ?_⟩
    · rw [← hy]; exact r4 x hx (hk.trans he)
    · rcases List.mem_cons.1 hz with rfl | hz
      · rw [← hy]; exact r3 x hx y (List.mem_cons_self ..) (he.trans hk.symm)
      · exact r3 x hx z (List.mem_cons_of_mem _ hz) he
  · intro x hx
    rcases mem x hx with rfl | hx
    · exact h1
    · exact h.lo x hx
  · intro x hx
    rcases mem x hx with rfl | hx
    · exact Int.le_refl _
    · have := h.hi x hx; show x.f1 ≤ v.f1; omega
  · intro x hx
    rcases mem x hx with rfl | hx
    · exact h2
    · exact h.mt x hx
  · intro x hx
    rcases mem x hx with rfl | hx
    · exact hg
    · exact h.gone x hx
  · have := h.room
    rw [hl] at this
    simpa using this
theorem inv_put {s : St} (h : Inv s) (v : RV) (hg : v.f3 = true → v.f2 = e0) : Inv (put s v).1 := by
  unfold put
  cases ht : mayT s v.f1 with
  | false => simpa using h
  | true =>
    rw [if_neg (by simp)]
    cases hc : cut (isK v.f0) s.l with
    | none =>
      simp only []
      by_cases h1 : v.f3 = true
      · rw [if_pos h1]; exact h
      · rw [if_neg h1]
        by_cases h2 : s.room ≤ (s.l.length : Int)
        · rw [if_pos h2]; exact h
        · rw [if_neg h2]
          refine inv_append h ht hg h2 fun x hx he => ?_
          have := cut_none.1 hc x hx
          unfold isK at this
          rw [he, kb_self] at this
          cases this
    | some t =>
      obtain ⟨a, y, b⟩ := t
      obtain ⟨e1, e2, e3⟩ := cut_some hc
      simp only []
      by_cases h1 : v.f3 = true ∧ y.f3 = true
      · rw [if_pos h1]; exact h
      · rw [if_neg h1]
        by_cases h3 : y.f1 = v.f1
        · rw [if_pos h3]
          exact inv_set h e1 (kb_iff.1 e2) h3 ht hg
        · rw [if_neg h3]
          by_cases h2 : s.room ≤ (s.l.length : Int)
          · rw [if_pos h2]; exact h
          · rw [if_neg h2]
            refine inv_append h ht hg h2 fun x hx he => ?_
            have hy := h.hi y (by rw [e1]; simp)
            have hm := (mayT_iff.1 ht).2.2
            have hyv : y.f1 < v.f1 := by omega
            have hr := h.rise
            rw [e1] at hr hx
            rcases List.mem_append.1 hx with hx | hx
            · have := (List.pairwise_append.1 hr).2.2 x hx y (List.mem_cons_self ..) (he.trans (kb_iff.1 e2).symm); omega
            · rcases List.mem_cons.1 hx with rfl | hx
              · exact hyv
              · have := e3 x hx
                unfold isK at this
                rw [he, kb_self] at this
                cases this
theorem trimL_sub (t : Int) : ∀ (l : List RV), (trimL t l).Sublist l
  | [] => List.Sublist.refl _
  | x :: r => by
    unfold trimL
    by_cases h : keep t x r = true
    · rw [if_pos h]; exact (trimL_sub t r).cons_cons x
    · rw [if_neg h]; exact (trimL_sub t r).cons x
/-! ### by key -/
theorem vers_app (a b : List RV) (k : Key) : vers (a ++ b) k = vers a k ++ vers b k := List.filter_append ..
theorem vers_away {b : List RV} {k : Key} (h : ∀ z ∈ b, isK k z = false) : vers b k = [] := List.filter_eq_nil_iff.2 (fun z hz => by rw [h z hz]; simp)
theorem vers_cut {l a b : List RV} {y : RV} {k : Key} (h : cut (isK k) l = some (a, y, b)) : vers l k = vers a k ++ [y] := by
  obtain ⟨e1, e2, e3⟩ := cut_some h
  rw [e1, vers_app, vers]
  congr 1
  unfold vers
  rw [List.filter_cons_of_pos e2, show b.filter (isK k) = [] from vers_away e3]
theorem vers_none {l : List RV} {k : Key} : cut (isK k) l = none ↔ vers l k = [] := by
  rw [cut_none]
  exact ⟨vers_away, fun h x hx => by
    cases e : isK k x with
    | false => rfl
    | true =>
      have : x ∈ vers l k := List.mem_filter.2 ⟨hx, e⟩
      rw [h] at this
      cases this⟩
theorem vers_set {l a b : List RV} {y v : RV} (h : cut (isK v.f0) l = some (a, y, b)) : vers (a ++ v :: b) v.f0 = vers a v.f0 ++ [v] := by
  obtain ⟨e1, e2, e3⟩ := cut_some h
  rw [vers_app]
  congr 1
  unfold vers
  rw [List.filter_cons_of_pos (show isK v.f0 v = true from kb_self _), show b.filter (isK v.f0) = [] from vers_away e3]
theorem vers_set_other {l a b : List RV} {y v : RV} (h : cut (isK v.f0) l = some (a, y, b)) {k : Key} (hk : ¬ k = v.f0) : vers (a ++ v :: b) k = vers l k := by
  obtain ⟨e1, e2, e3⟩ := cut_some h
  rw [e1, vers_app, vers_app]
  congr 1
  unfold vers
  rw [List.filter_cons_of_neg (by unfold isK; rw [kb_ne (fun e => hk e.symm)]; simp), List.filter_cons_of_neg (by unfold isK; rw [kb_iff.1 e2, kb_ne (fun e => hk e.symm)]; simp)]
theorem keys_set {l a b : List RV} {y v : RV} (h : cut (isK v.f0) l = some (a, y, b)) : allKeys (a ++ v :: b) = allKeys l := by
  obtain ⟨e1, e2, e3⟩ := cut_some h
  have ek : y.f0 = v.f0 := kb_iff.1 e2
  refine uniq (fun _ _ => befK_asymm) (sorted_allKeys _) (sorted_allKeys _) fun k => ?_
  rw [mem_allKeys, mem_allKeys, e1]
  constructor
  · rintro ⟨x, hx, he⟩
    rcases List.mem_append.1 hx with hx | hx
    · exact ⟨x, List.mem_append_left _ hx, he⟩
    · rcases List.mem_cons.1 hx with rfl | hx
      · exact ⟨y, by simp, ek.trans he⟩
      · exact ⟨x, by simp [hx], he⟩
  · rintro ⟨x, hx, he⟩
    rcases List.mem_append.1 hx with hx | hx
    · exact ⟨x, List.mem_append_left _ hx, he⟩
    · rcases List.mem_cons.1 hx with rfl | hx
      · exact ⟨v, by simp, ek.symm.trans he⟩
      · exact ⟨x, by simp [hx], he⟩
theorem keys_append (l : List RV) (v : RV) : allKeys (l ++ [v]) = insK (allKeys l) v.f0 := by unfold allKeys; simp
theorem vers_append_same (l : List RV) (v : RV) : vers (l ++ [v]) v.f0 = vers l v.f0 ++ [v] := by
  rw [vers_app]
  congr 1
  unfold vers isK
  simp [kb_self]
theorem vers_append_other (l : List RV) (v : RV) {k : Key} (hk : ¬ k = v.f0) : vers (l ++ [v]) k = vers l k := by
  rw [vers_app, show vers [v] k = [] by unfold vers isK; simp [kb_ne (fun e : v.f0 = k => hk e.symm)], List.append_nil]
theorem insK_there {l : List RV} {k : Key} (h : k ∈ allKeys l) : insK (allKeys l) k = allKeys l := by
  refine uniq (fun _ _ => befK_asymm) (sorted_insK (sorted_allKeys _)) (sorted_allKeys _) fun y => ?_
  rw [mem_insK]
  exact ⟨fun hh => by rcases hh with rfl | hh; exact h; exact hh, .inr⟩
theorem at_vers (l : List RV) (k : Key) (t : Int) : at_ l k t = (cut (fun x => decide (x.f1 ≤ t)) (vers l k)).map (·.2.1) := by
  unfold at_ vers
  exact cut_filter l
/-! ### what is told of it -/
theorem filterMap_insK {f : Key → Option SP} {p : Key → Bool} {k : Key} (hf : f k = none) : ∀ (l : List Key), ((insK l k).filter p).filterMap f = (l.filter p).filterMap f
  | [] => by
    unfold insK
    cases h : p k <;> simp [h, hf]
  | x :: r => by
    unfold insK
    by_cases h1 : lt x.toList k.toList = true
    · rw [if_pos h1]
      cases hp : p x with
      | true => rw [List.filter_cons_of_pos hp, List.filter_cons_of_pos hp, List.filterMap_cons, List.filterMap_cons, filterMap_insK hf r]
      | false => rw [List.filter_cons_of_neg (by simp [hp]), List.filter_cons_of_neg (by simp [hp]), filterMap_insK hf r]
    · rw [if_neg h1]
      by_cases h2 : kb x k = true
      · rw [if_pos h2]
      · rw [if_neg h2]
        cases hp : p k with
        | true => rw [List.filter_cons_of_pos hp, List.filterMap_cons, hf]
        | false => rw [List.filter_cons_of_neg (by simp [hp])]
theorem cut_skip {α : Type} {p : α → Bool} {v : α} (hv : p v = false) (b : List α) : ∀ (a : List α), (cut p (a ++ v :: b)).map (·.2.1) = (cut p (a ++ b)).map (·.2.1)
  | [] => by
    rw [List.nil_append, List.nil_append]
    conv => lhs; unfold cut
    cases h : cut p b with
    | none => simp [hv]
    | some t => simp
  | x :: a => by
    have ih := cut_skip hv b a
    rw [List.cons_append, List.cons_append]
    unfold cut
    cases h : cut p (a ++ v :: b) with
    | none =>
      rw [h] at ih
      cases h2 : cut p (a ++ b) with
      | none => cases p x <;> rfl
      | some t => rw [h2] at ih; cases ih
    | some t =>
      rw [h] at ih
      cases h2 : cut p (a ++ b) with
      | none => rw [h2] at ih; cases ih
      | some t2 => rw [h2] at ih; simpa using ih
theorem upto_late {k : Key} {t : Int} {v : RV} (h : t < v.f1) : upto k t v = false := by
  unfold upto
  rw [decide_eq_false (by omega), Bool.and_false]
/-- What is put in behind a time is not seen there. -/
theorem at_put {s : St} (v : RV) {t : Int} (h : t < v.f1) (k : Key) : at_ (put s v).1.l k t = at_ s.l k t := by
  unfold put
  cases ht : mayT s v.f1 with
  | false => simp
  | true =>
    rw [if_neg (by simp)]
    have happ : at_ (s.l ++ [v]) k t = at_ s.l k t := by
      unfold at_
      rw [cut_skip (upto_late h) [] s.l, List.append_nil]
    cases hc : cut (isK v.f0) s.l with
    | none =>
      simp only []
      split
      · rfl
      · split
        · rfl
        · exact happ
    | some c =>
      obtain ⟨a, y, b⟩ := c
      obtain ⟨e1, e2, e3⟩ := cut_some hc
      simp only []
      split
      · rfl
      · split
        · rename_i hy
          show at_ (a ++ v :: b) k t = _
          unfold at_
          rw [cut_skip (upto_late h), e1, cut_skip (upto_late (by omega))]
        · split
          · rfl
          · exact happ
theorem get_put {s : St} (v : RV) {t : Int} (h : t < v.f1) (k : Key) : get (put s v).1 t k = get s t k := by unfold get; rw [at_put v h]
theorem keys_put (s : St) (v : RV) : allKeys (put s v).1.l = allKeys s.l ∨ allKeys (put s v).1.l = insK (allKeys s.l) v.f0 := by
  unfold put
  split
  · exact .inl rfl
  · split
    · split
      · exact .inl rfl
      · split
        · exact .inl rfl
        · exact .inr (keys_append _ _)
    · rename_i a y b hc
      split
      · exact .inl rfl
      · split
        · exact .inl (keys_set hc)
        · split
          · exact .inl rfl
          · exact .inr (keys_append _ _)
theorem get_away {s : St} {k : Key} (h : k ∉ allKeys s.l) (t : Int) : get s t k = (e0, false) := by
  have h1 := vers_nil.2 h
  unfold get
  rw [at_vers, h1]
  rfl
theorem scan_put {s : St} (v : RV) {t : Int} (h : t < v.f1) (lo hi : Key) (n : Int) : scan (put s v).1 t lo hi n = scan s t lo hi n := by
  unfold scan
  have hf : pairAt (put s v).1 t = pairAt s t := by
    funext k
    unfold pairAt
    rw [get_put v h]
  rw [hf]
  rcases keys_put s v with e | e
  · rw [e]
  · rw [e]
    by_cases hk : v.f0 ∈ allKeys s.l
    · rw [insK_there hk]
    · rw [filterMap_insK]
      unfold pairAt
      rw [get_away hk]
      rfl
theorem since_put {s : St} (v : RV) {lo hi : Key} {t : Int} (h : since s lo hi t = true) : since (put s v).1 lo hi t = true := by
  unfold since at *
  obtain ⟨x, hx, hp⟩ := List.any_eq_true.1 h
  refine List.any_eq_true.2 ?_
  unfold put
  split
  · exact ⟨x, hx, hp⟩
  · split
    · split
      · exact ⟨x, hx, hp⟩
      · split
        · exact ⟨x, hx, hp⟩
        · exact ⟨x, List.mem_append_left _ hx, hp⟩
    · rename_i a y b hc
      obtain ⟨e1, e2, e3⟩ := cut_some hc
      split
      · exact ⟨x, hx, hp⟩
      · split
        · rename_i hy
          rw [e1] at hx
          rcases List.mem_append.1 hx with hx | hx
          · exact ⟨x, List.mem_append_left _ hx, hp⟩
          · rcases List.mem_cons.1 hx with rfl | hx
            · refine ⟨v, List.mem_append_right _ (List.mem_cons_self ..), ?_⟩
              rw [← hy, ← show x.f0 = v.f0 from kb_iff.1 e2]
              exact hp
            · exact ⟨x, List.mem_append_right _ (List.mem_cons_of_mem _ hx), hp⟩
        · split
          · exact ⟨x, hx, hp⟩
          · exact ⟨x, List.mem_append_left _ hx, hp⟩
/-! ### Trim -/
theorem trimL_late {t : Int} : ∀ {l : List RV}, (∀ x ∈ l, t < x.f1) → trimL t l = l
  | [], _ => rfl
  | x :: r, h => by
    unfold trimL keep
    rw [decide_eq_true (h x (List.mem_cons_self ..)), Bool.true_or, if_pos rfl, trimL_late (fun z hz => h z (List.mem_cons_of_mem _ hz))]
theorem trimL_early {t : Int} {k : Key} {r : List RV} (hr : ∃ y ∈ r, y.f0 = k ∧ y.f1 ≤ t) : ∀ {a : List RV}, (∀ x ∈ a, x.f1 ≤ t ∧ x.f0 = k) → trimL t (a ++ r) = trimL t r
  | [], _ => rfl
  | x :: a, h => by
    obtain ⟨y, hy, hk, ht⟩ := hr
    have hx := h x (List.mem_cons_self ..)
    rw [List.cons_append, trimL_cons]
    rw [if_neg, trimL_early ⟨y, hy, hk, ht⟩ (fun z hz => h z (List.mem_cons_of_mem _ hz))]
    unfold keep
    rw [decide_eq_false (by omega), Bool.false_or, Bool.and_eq_true]
    rintro ⟨h1, _⟩
    rw [Bool.not_eq_true', List.any_eq_false] at h1
    refine h1 y (List.mem_append_right _ hy) ?_
    unfold upto isK
    rw [hk, hx.2, kb_self, decide_eq_true ht]
    rfl
/-- The versions of one key, in their order. -/
structure One (k : Key) (l : List RV) : Prop where
  key : ∀ x ∈ l, x.f0 = k
  rise : l.Pairwise (fun x y => x.f1 < y.f1)
theorem one_vers {s : St} (h : Inv s) (k : Key) : One k (vers s.l k) := by
  refine ⟨fun x hx => (mem_vers.1 hx).2, ?_⟩
  have h1 : (vers s.l k).Pairwise (fun x y => x.f0 = y.f0 → x.f1 < y.f1) := h.rise.filter _
  exact List.Pairwise.imp_of_mem (fun {x y} hx hy hh => hh ((mem_vers.1 hx).2.trans (mem_vers.1 hy).2.symm)) h1
theorem trim_one {k : Key} {l : List RV} (h : One k l) (t : Int) : trimL t l = match cut (fun x => decide (x.f1 ≤ t)) l with | none => l | some (_, y, b) => if y.f3 = true then b else y :: b := by
  cases hc : cut (fun x : RV => decide (x.f1 ≤ t)) l with
  | none => exact trimL_late (fun x hx => by have := cut_none.1 hc x hx; simpa using this)
  | some c =>
    obtain ⟨a, y, b⟩ := c
    obtain ⟨e1, e2, e3⟩ := cut_some hc
    have ht : y.f1 ≤ t := by simpa using e2
    have hb : ∀ z ∈ b, t < z.f1 := fun z hz => by have := e3 z hz; simpa using this
    have hyk : y.f0 = k := h.key y (by rw [e1]; simp)
    have hr := h.rise
    rw [e1] at hr
    have ha : ∀ x ∈ a, x.f1 ≤ t ∧ x.f0 = k := fun x hx => ⟨by have := (List.pairwise_append.1 hr).2.2 x hx y (List.mem_cons_self ..); omega, h.key x (by rw [e1]; exact List.mem_append_left _ hx)⟩
    rw [e1, trimL_early ⟨y, List.mem_cons_self .., hyk, ht⟩ ha]
    have hk : keep t y b = !y.f3 := by
      unfold keep
      rw [decide_eq_false (by omega), Bool.false_or]
      have : b.any (upto y.f0 t) = false := List.any_eq_false.2 (fun z hz => by rw [upto_late (hb z hz)]; simp)
      rw [this]
      rfl
    rw [trimL_cons, hk, trimL_late hb]
    cases hg : y.f3 <;> simp [hg]
/-! ### parted by keys: what some keys' versions are cut to -/
def trimP (S : Key → Bool) (t : Int) : List RV → List RV
  | [] => []
  | x :: r => if S x.f0 = true ∧ keep t x r = false then trimP S t r else x :: trimP S t r
theorem trimP_cons (S : Key → Bool) (t : Int) (x : RV) (r : List RV) : trimP S t (x :: r) = if S x.f0 = true ∧ keep t x r = false then trimP S t r else x :: trimP S t r := rfl
theorem trimP_none (t : Int) : ∀ (l : List RV), trimP (fun _ => false) t l = l
  | [] => rfl
  | x :: r => by unfold trimP; rw [if_neg (by simp), trimP_none t r]
theorem trimP_all {S : Key → Bool} (t : Int) : ∀ {l : List RV}, (∀ x ∈ l, S x.f0 = true) → trimP S t l = trimL t l
  | [], _ => rfl
  | x :: r, h => by
    unfold trimP trimL
    rw [h x (List.mem_cons_self ..), trimP_all t (fun z hz => h z (List.mem_cons_of_mem _ hz))]
    cases keep t x r <;> simp
theorem trimP_sub (S : Key → Bool) (t : Int) : ∀ (l : List RV), (trimP S t l).Sublist l
  | [] => List.Sublist.refl _
  | x :: r => by
    unfold trimP
    split
    · exact (trimP_sub S t r).cons x
    · exact (trimP_sub S t r).cons_cons x
theorem keep_vers {t : Int} {k : Key} {x : RV} (hx : x.f0 = k) (r : List RV) : keep t x (vers r k) = keep t x r := by
  unfold keep
  congr 2
  rw [Bool.eq_iff_iff]
  simp only [Bool.not_eq_true', List.any_eq_false]
  constructor
  · intro h y hy hu
    have hyk : isK k y = true := by
      unfold upto at hu
      have := (Bool.and_eq_true_iff.1 hu).1
      rwa [hx] at this
    exact h y (List.mem_filter.2 ⟨hy, hyk⟩) hu
  · intro h y hy
    exact h y (List.mem_filter.1 hy).1
theorem trimP_in {S : Key → Bool} {k : Key} (hS : S k = true) (t : Int) : ∀ (l : List RV), vers (trimP S t l) k = trimL t (vers l k)
  | [] => rfl
  | x :: r => by
    have ih := trimP_in hS t r
    cases hx : isK k x with
    | true =>
      have ek : x.f0 = k := kb_iff.1 hx
      have e : vers (x :: r) k = x :: vers r k := List.filter_cons_of_pos hx
      rw [e]
      unfold trimP trimL
      rw [keep_vers ek, ek, hS]
      cases hk : keep t x r with
      | true =>
        rw [if_neg (by simp), if_pos rfl]
        show vers (x :: trimP S t r) k = _
        rw [show vers (x :: trimP S t r) k = x :: vers (trimP S t r) k from List.filter_cons_of_pos hx, ih]
      | false => rw [if_pos ⟨rfl, rfl⟩, if_neg (by simp), ih]
    | false =>
      have e : vers (x :: r) k = vers r k := List.filter_cons_of_neg (by simp [hx])
      rw [e, ← ih, trimP_cons]
      split
      · rfl
      · exact List.filter_cons_of_neg (p := isK k) (by simp [hx])
theorem trimP_out {S : Key → Bool} {k : Key} (hS : S k = false) (t : Int) : ∀ (l : List RV), vers (trimP S t l) k = vers l k
  | [] => rfl
  | x :: r => by
    have ih := trimP_out hS t r
    unfold trimP
    cases hx : isK k x with
    | true =>
      have ek : x.f0 = k := kb_iff.1 hx
      rw [ek, hS, if_neg (by simp)]
      unfold vers at ih ⊢
      rw [List.filter_cons_of_pos hx, List.filter_cons_of_pos hx, ih]
    | false =>
      have e : vers (x :: r) k = vers r k := List.filter_cons_of_neg (by simp [hx])
      rw [e, ← ih]
      split
      · rfl
      · exact List.filter_cons_of_neg (by simp [hx])
theorem rest_in {S T : Key → Bool} {k : Key} (h : ∀ j, ¬ j = k → S j = T j) (t : Int) : ∀ (l : List RV), (trimP S t l).filter (fun x => !isK k x) = (trimP T t l).filter (fun x => !isK k x)
  | [] => rfl
  | x :: r => by
    have ih := rest_in h t r
    unfold trimP
    cases hx : isK k x with
    | true =>
      split <;> split <;> simp [hx, ih]
    | false =>
      have e := h x.f0 (fun e => by unfold isK at hx; rw [e, kb_self] at hx; cases hx)
      rw [e]
      split <;> simp [hx, ih]
theorem len_parts (k : Key) (l : List RV) : l.length = (vers l k).length + (l.filter (fun x => !isK k x)).length := by
  unfold vers
  induction l with
  | nil => rfl
  | cons x r ih => cases h : isK k x <;> simp [h, ih] <;> omega
/-- One key more is cut. -/
theorem trimP_step {S T : Key → Bool} {k : Key} (h : ∀ j, ¬ j = k → S j = T j) (hS : S k = false) (hT : T k = true) (t : Int) (l : List RV) : ((trimP T t l).length : Int) = ((trimP S t l).length : Int) - (((vers l k).length : Int) - ((trimL t (vers l k)).length : Int)) := by
  have h1 := len_parts k (trimP T t l)
  have h2 := len_parts k (trimP S t l)
  rw [trimP_in hT, ← rest_in h t l] at h1
  rw [trimP_out hS] at h2
  omega
end Go.Proofs.Ytookpmdgoednfaa.St
