/- Pages alike, in plain words: what Pages, and the law's copied, compute; the two Puts alike. No condition. -/
import Derived.Test.YtookpmdgoednfaaPx
namespace Go.Proofs.Ytookpmdgoednfaa.Pz
open Go.RowKit Go.Proofs.YtookpmdgoednfaaW.PrintWords Go.Proofs.YtookpmdgoednfaaW.PrintLast Go.Proofs.YtookpmdgoednfaaW.PrintMore Go.Proofs.Ytookpmdgoednfaa.PPagePuts Go.Proofs.Ytookpmdgoednfaa.Py Go.Proofs.Ytookpmdgoednfaa.Px
set_option linter.unusedVariables false
def alike (x y : SP) : Prop := x.f0.toList = y.f0.toList ∧ x.f1.toList = y.f1.toList
def Al (p q : List SP) : Prop := p.length = q.length ∧ ∀ j : Nat, ∀ x y, p[j]? = some x → q[j]? = some y → alike x y
def Als (ps qs : List (List SP)) : Prop := ps.length = qs.length ∧ ∀ j : Nat, ∀ p q, ps[j]? = some p → qs[j]? = some q → Al p q
theorem Al_refl (p : List SP) : Al p p := ⟨rfl, fun j x y h1 h2 => by rw [h1] at h2; cases h2; exact ⟨rfl, rfl⟩⟩
theorem Als_refl (ps : List (List SP)) : Als ps ps := ⟨rfl, fun j x y h1 h2 => by rw [h1] at h2; cases h2; exact Al_refl _⟩
theorem mid_get {α : Type} {a b : List α} {x y : α} {j : Nat} {u v : α} (h1 : (a ++ x :: b)[j]? = some u) (h2 : (a ++ y :: b)[j]? = some v) : u = v ∨ (u = x ∧ v = y) := by
  rcases Nat.lt_trichotomy j a.length with h | h | h
  · rw [List.getElem?_append_left h] at h1 h2
    rw [h1] at h2
    cases h2
    exact .inl rfl
  · subst h
    rw [List.getElem?_append_right (Nat.le_refl _), Nat.sub_self] at h1 h2
    simp at h1 h2
    exact .inr ⟨h1.symm, h2.symm⟩
  · rw [List.getElem?_append_right (by omega), show j - a.length = (j - a.length - 1) + 1 by omega, List.getElem?_cons_succ] at h1 h2
    rw [h1] at h2
    cases h2
    exact .inl rfl
theorem Al_mid {a b : List SP} {x y : SP} (h : alike x y) : Al (a ++ x :: b) (a ++ y :: b) := ⟨by simp, fun j u v h1 h2 => by
  rcases mid_get h1 h2 with rfl | ⟨rfl, rfl⟩
  · exact ⟨rfl, rfl⟩
  · exact h⟩
theorem Als_mid {a b : List (List SP)} {x y : List SP} (h : Al x y) : Als (a ++ x :: b) (a ++ y :: b) := ⟨by simp, fun j u v h1 h2 => by
  rcases mid_get h1 h2 with rfl | ⟨rfl, rfl⟩
  · exact Al_refl _
  · exact h⟩
theorem pairs_ev (p q : List SP) (h : Al p q) (hn : p.length ≤ 100000) : Ev (fun k => falseworkref7_Pairs.f k p q) true := by
  have H : ∀ (d j : Nat), p.length - j = d → j ≤ p.length → Ev (fun k => falseworkref7_Pairs.l0 k p q j) true := by
    intro d
    induction d with
    | zero =>
      intro j hd hj
      exact Ev.step (f := fun _ => some true) (fun k => by simp only [falseworkref7_Pairs.l0]; rw [if_neg (by omega)]) (Ev.now true)
    | succ d ih =>
      intro j hd hj
      have hlt : j < p.length := by omega
      have hlq : j < q.length := by rw [← h.1]; exact hlt
      have ha := h.2 j p[j] q[j] (List.getElem?_eq_getElem hlt) (List.getElem?_eq_getElem hlq)
      refine Ev.step (f := fun k => falseworkref7_Pairs.l0 k p q ((j + 1 : Nat) : Int)) (fun k => ?_) (ih (j + 1) (by omega) (by omega))
      simp only [falseworkref7_Pairs.l0]
      rw [if_pos (by omega), if_pos (by omega), if_pos (by omega), rdT hlt, rdT hlq, if_neg (by rw [ha.1, ha.2]; simp), wrap_one hlt (by omega)]
  refine Ev.congr (f := fun k => falseworkref7_Pairs.l0 k p q ((0 : Nat) : Int)) (fun k => ?_) (H p.length 0 (by omega) (by omega))
  unfold falseworkref7_Pairs.f
  rw [if_pos (by rw [h.1])]
  rfl
theorem pages_ev (ps qs : List (List SP)) (h : Als ps qs) (hn : ps.length ≤ 100000) (hl : ∀ p ∈ ps, p.length ≤ 100000) : Ev (fun k => falseworkref7_Pages.f k ps qs) true := by
  have H : ∀ (d j : Nat), ps.length - j = d → j ≤ ps.length → Ev (fun k => falseworkref7_Pages.l0 k ps qs j) true := by
    intro d
    induction d with
    | zero =>
      intro j hd hj
      exact Ev.step (f := fun _ => some true) (fun k => by simp only [falseworkref7_Pages.l0]; rw [if_neg (by omega)]) (Ev.now true)
    | succ d ih =>
      intro j hd hj
      have hlt : j < ps.length := by omega
      have hlq : j < qs.length := by rw [← h.1]; exact hlt
      have ha := h.2 j ps[j] qs[j] (List.getElem?_eq_getElem hlt) (List.getElem?_eq_getElem hlq)
      refine Ev.step (f := fun k => (falseworkref7_Pairs.f k ps[j] qs[j]).bind fun t => if t = true then falseworkref7_Pages.l0 k ps qs ((j + 1 : Nat) : Int) else some false) (fun k => ?_) (Ev.bind (pairs_ev _ _ ha (hl _ (List.getElem_mem hlt))) ?_)
      · simp only [falseworkref7_Pages.l0]
        rw [if_pos (by omega), if_pos (by omega), if_pos (by omega), rdL hlt, rdL hlq, wrap_one hlt (by omega)]
      · exact Ev.congr (fun k => by rw [if_pos rfl]) (ih (j + 1) (by omega) (by omega))
  refine Ev.congr (f := fun k => falseworkref7_Pages.l0 k ps qs ((0 : Nat) : Int)) (fun k => ?_) (H ps.length 0 (by omega) (by omega))
  unfold falseworkref7_Pages.f
  rw [if_pos (by rw [h.1])]
  rfl
theorem copied_ev (ps : List (List SP)) (hn : ps.length ≤ 1000) (hl : ∀ p ∈ ps, p.length ≤ 1000) : Ev (fun k => falseworklaw7_copied.f k ps) ps := by
  have H : ∀ (d j : Nat) (out : List (List SP)), ps.length - j = d → j ≤ ps.length → out.length ≤ 1000 + j → Ev (fun k => falseworklaw7_copied.l0 k ps out j) (out ++ ps.drop j) := by
    intro d
    induction d with
    | zero =>
      intro j out hd hj ho
      refine Ev.step (f := fun _ => some out) (fun k => by simp only [falseworklaw7_copied.l0]; rw [if_neg (by omega)]) ?_
      rw [List.drop_eq_nil_of_le (by omega), List.append_nil]
      exact Ev.now out
    | succ d ih =>
      intro j out hd hj ho
      have hlt : j < ps.length := by omega
      have h8 := hl ps[j] (List.getElem_mem hlt)
      refine Ev.step (f := fun k => falseworklaw7_copied.l0 k ps (out ++ [ps[j]]) ((j + 1 : Nat) : Int)) (fun k => ?_) ?_
      · simp only [falseworklaw7_copied.l0, Option.bind_some, List.nil_append, List.length_nil]
        rw [if_pos (by omega), if_pos (by omega), rdL hlt, if_pos (by omega), if_pos (by omega), wrap_one hlt (by omega)]
      · have h := ih (j + 1) (out ++ [ps[j]]) (by omega) (by omega) (by simp; omega)
        rw [List.append_assoc, List.singleton_append, ← List.drop_eq_getElem_cons hlt] at h
        exact h
  have h := H ps.length 0 [] (by omega) (by omega) (by simp)
  rw [List.drop_zero, List.nil_append] at h
  exact h
theorem refput_not (ps : List (List SP)) (key val : ByteArray) (hn : ps.length ≤ 1000) (hr : right ps = false) : Ev (fun k => falseworkref7_Put.f k ps key val) [] := by
  have h := ref_right ps (by omega)
  rw [hr] at h
  refine Ev.congr (f := fun k => (falseworkref7_Right.f k ps).bind fun t => if t = true then (if (ps.length : Int) = 0 then some [[⟨key, val⟩]] else (falseworkref7_of.f k ps key).bind fun t2 => falseworkref7_Put.l0 k ps key val t2 [] 0) else some []) (fun k => rfl) (Ev.bind h ?_)
  exact Ev.congr (f := fun _ => some []) (fun k => by rw [if_neg (by simp)]) (Ev.now [])
theorem refput_none (key val : ByteArray) : Ev (fun k => falseworkref7_Put.f k [] key val) [[⟨key, val⟩]] := by
  have h := ref_right [] (by simp)
  rw [show right [] = true from rfl] at h
  refine Ev.congr (f := fun k => (falseworkref7_Right.f k []).bind fun t => if t = true then (if (([] : List (List SP)).length : Int) = 0 then some [[⟨key, val⟩]] else (falseworkref7_of.f k [] key).bind fun t2 => falseworkref7_Put.l0 k [] key val t2 [] 0) else some []) (fun k => rfl) (Ev.bind h ?_)
  exact Ev.congr (f := fun _ => some [[⟨key, val⟩]]) (fun k => by rw [if_pos rfl, if_pos (by simp)]) (Ev.now _)
theorem refput (ps : List (List SP)) (key val : ByteArray) (hn : ps.length ≤ 1000) (hr : right ps = true) (hne : 0 < ps.length) (k : Nat) (hk : k ≤ ps.length) (h1 : ∀ t : Nat, t < k → lt key.toList (fk (rd_L2 ps t)) = false) (h2 : ∀ t : Nat, k ≤ t → t < ps.length → lt key.toList (fk (rd_L2 ps t)) = true)
    (p : List SP) (hp : ps[k - 1]? = some p) (i : Nat) (hi : i ≤ p.length) (g1 : ∀ t : Nat, t < i → lt (rd_T41 p t).f0.toList key.toList = true) (g2 : ∀ t : Nat, i ≤ t → t < p.length → lt (rd_T41 p t).f0.toList key.toList = false) (b : Bool) (hb : (decide (i < p.length) && ((rd_T41 p i).f0.toList == key.toList)) = b) :
    Ev (fun r => falseworkref7_Put.f r ps key val) (ps.take (k - 1) ++ Px.part (p.take i ++ [⟨key, val⟩] ++ p.drop (if b = true then i + 1 else i)) ++ ps.drop (k - 1 + 1)) := by
  have hR := ref_right ps (by omega)
  rw [hr] at hR
  have rt := rt_of hr
  obtain ⟨hkl, rfl⟩ := List.getElem?_eq_some_iff.1 hp
  have hl := fun p hp => (rt.len p hp).2
  have hm := List.getElem_mem hkl
  have hof := ref_of ps key (by omega) (fun j hj => by rw [rdL hj]; exact (rt.len _ (List.getElem_mem hj)).1) k hk h1 h2 ps.length 0 0 (by omega) (by omega)
  have e0 : (if 0 < k then ((k - 1 : Nat) : Int) else 0) = ((k - 1 : Nat) : Int) := by
    split
    · rfl
    · rw [show k - 1 = 0 by omega]; rfl
  rw [e0] at hof
  have hin := into_ev ps[k - 1] key val (hl _ hm) (rt.page _ hm) i hi g1 g2 b hb i 0 [] (by omega) (by omega) (by simp)
  rw [List.drop_zero, List.nil_append, Nat.sub_zero] at hin
  have h8 := hl _ hm
  have hq9 : (ps[k - 1].take i ++ [(⟨key, val⟩ : SP)] ++ ps[k - 1].drop (if b = true then i + 1 else i)).length ≤ 9 := by
    simp only [List.length_append, List.length_take, List.length_singleton, List.length_drop]
    split <;> omega
  have hput := put_ev ps key val hn hl (k - 1) hkl _ b hin hq9 (k - 1) 0 [] (by omega) (by omega) (by simp)
  rw [List.drop_zero, List.nil_append, Nat.sub_zero] at hput
  refine Ev.congr (f := fun r => (falseworkref7_Right.f r ps).bind fun t => if t = true then (if (ps.length : Int) = 0 then some [[⟨key, val⟩]] else (falseworkref7_of.f r ps key).bind fun t2 => falseworkref7_Put.l0 r ps key val t2 [] 0) else some []) (fun r => rfl) (Ev.bind hR ?_)
  refine Ev.congr (f := fun r => (falseworkref7_of.f r ps key).bind fun t2 => falseworkref7_Put.l0 r ps key val t2 [] 0) (fun r => by rw [if_pos rfl, if_neg (by omega)]) (Ev.bind hof ?_)
  exact hput
end Go.Proofs.Ytookpmdgoednfaa.Pz
