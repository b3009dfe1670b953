/- page.Get and the reference's Get, side by side: whatever the pages and the key, both answer the same. No condition. -/
import Derived.Test.YtookpmdgoednfaaGe
import Derived.Test.YtookpmdgoednfaaGp
import Derived.Test.YtookpmdgoednfaaGq
namespace Go.Proofs.Ytookpmdgoednfaa.Gb
open Go.RowKit Go.Proofs.YtookpmdgoednfaaW.PrintWords Go.Proofs.YtookpmdgoednfaaW.PrintLast Go.Proofs.YtookpmdgoednfaaW.PrintMore Go.Proofs.Ytookpmdgoednfaa.Mx Go.Proofs.Ytookpmdgoednfaa.PPagePuts Go.Proofs.Ytookpmdgoednfaa.Pa Go.Proofs.Ytookpmdgoednfaa.Gp Go.Proofs.Ytookpmdgoednfaa.Gq
open Go.Proofs.Ytookpmdgoednfaa.Px (lt Bef Rt)
set_option linter.unusedVariables false
abbrev kof := Py.kof
theorem ne_of_lt {a b : List UInt8} (h : lt a b = true) : ¬ a = b := fun e => by rw [e, Px.lt_irrefl] at h; cases h
theorem ne_of_gt {a b : List UInt8} (h : lt b a = true) : ¬ a = b := fun e => by rw [e, Px.lt_irrefl] at h; cases h
section
variable {ps : List (List Py.SP)} {key : List UInt8} {k : Nat}
theorem fk_le {p : List Py.SP} (hp : p.Pairwise Bef) {y : Py.SP} (hy : y ∈ p) (h : lt key (Px.fk p) = true) : lt key (kof y) = true := by
  obtain ⟨t, ht, rfl⟩ := List.mem_iff_getElem.1 hy
  have e : Px.fk p = kof (p[0]'(by omega)) := by
    unfold Px.fk
    rw [show (0 : Int) = ((0 : Nat) : Int) from rfl, Py.rdT (by omega)]
    rfl
  rw [e] at h
  rcases Nat.eq_zero_or_pos t with rfl | h0
  · exact h
  · exact Px.lt_trans h (List.pairwise_iff_getElem.1 hp 0 t (by omega) ht h0)
theorem early (rt : Rt ps) (hk : k ≤ ps.length) (h1 : ∀ t : Nat, t < k → lt key (Px.fk (rd_L2 ps t)) = false) {y : Py.SP} (hy : y ∈ (ps.take (k - 1)).flatten) : lt (kof y) key = true := by
  obtain ⟨p, hp, hyp⟩ := List.mem_flatten.1 hy
  obtain ⟨t, ht, hpt⟩ := List.mem_iff_getElem.1 hp
  rw [List.length_take] at ht
  rw [List.getElem_take] at hpt
  have hkl : k - 1 < ps.length := by omega
  obtain ⟨z, hz, ez⟩ := Px.fk_mem (rt.len _ (List.getElem_mem hkl)).1
  have hb := (List.pairwise_iff_getElem.1 rt.pages) t (k - 1) (by omega) hkl (by omega) y (by rw [hpt]; exact hyp) z hz
  have h2 := h1 (k - 1) (by omega)
  rw [Py.rdL hkl, ez] at h2
  exact not_below hb h2
theorem late (rt : Rt ps) (h2 : ∀ t : Nat, k ≤ t → t < ps.length → lt key (Px.fk (rd_L2 ps t)) = true) {y : Py.SP} (hy : y ∈ (ps.drop (k - 1 + 1)).flatten) : lt key (kof y) = true := by
  obtain ⟨p, hp, hyp⟩ := List.mem_flatten.1 hy
  obtain ⟨t, ht, hpt⟩ := List.mem_iff_getElem.1 hp
  rw [List.length_drop] at ht
  rw [List.getElem_drop] at hpt
  have h3 := h2 (k - 1 + 1 + t) (by omega) (by omega)
  rw [Py.rdL (by omega), hpt] at h3
  exact fk_le (rt.page p (by rw [← hpt]; exact List.getElem_mem _)) hyp h3
end
theorem flat_split {ps : List (List Py.SP)} {n : Nat} {p : List Py.SP} (h : ps[n]? = some p) : ps.flatten = (ps.take n).flatten ++ (p ++ (ps.drop (n + 1)).flatten) := by
  obtain ⟨hn, rfl⟩ := List.getElem?_eq_some_iff.1 h
  rw [← List.flatten_cons, ← List.drop_eq_getElem_cons hn, ← List.flatten_append, List.take_append_drop]
theorem both_get (ps : List (List SP)) (key : ByteArray) (hn : ps.length ≤ 400) : ∃ (v : ByteArray) (b : Bool),
    (∀ (A : Option Addr) (c : Nat) (w : World), Kd.C (Kd.slice 41 kP) w A ps.length ps → ps.length ≤ c → Calls Try.prog 27 #[.slice A ps.length c, .string key] w fun e w' => e = .returned (.tuple #[.string v, .bool b]) ∧ Mem w w' []) ∧
    Ev (fun k => falseworkref7_Get.f k ps key) (v, b) := by
  have hR := Py.page_right ps (by omega)
  obtain ⟨k0, hk0⟩ := hR.rounds
  cases hr : Py.right ps with
  | false =>
    rw [hr] at hk0
    exact ⟨⟨#[]⟩, false, fun A c w hl hc => Ge.Get_not A c ps key w hl hc k0 hk0, refget_not ps key (by omega) hr⟩
  | true =>
    rw [hr] at hk0
    by_cases hne : ps.length = 0
    · obtain rfl := List.eq_nil_of_length_eq_zero hne
      exact ⟨⟨#[]⟩, false, fun A c w hl hc => Ge.Get_none A c key w hl k0 hk0, refget [] key (by simp) (by simp) hr⟩
    · have rt := Px.rt_of hr
      obtain ⟨k, hk, h1, h2⟩ := Px.page_cut rt key.toList
      have hnk : k - 1 < ps.length := by omega
      have hp : ps[k - 1]? = some ps[k - 1] := List.getElem?_eq_getElem hnk
      have hpD : ps.getD (k - 1) [] = ps[k - 1] := by simp [List.getD, hnk]
      have href := refget ps key (by omega) (fun q hq => (rt.len q hq).2) hr
      generalize hpe : ps[k - 1] = p at hp hpD
      have hpm : p ∈ ps := by rw [← hpe]; exact List.getElem_mem hnk
      have hpl := rt.len p hpm
      obtain ⟨i, hi, g1, g2⟩ := Px.pair_cut (rt.page p hpm) key.toList
      rw [flat_split hp] at href
      have he : ∀ y ∈ (ps.take (k - 1)).flatten, ¬ y.f0.toList = key.toList := fun y hy => ne_of_lt (early rt hk h1 hy)
      have hL : ∀ y ∈ (ps.drop (k - 1 + 1)).flatten, ¬ y.f0.toList = key.toList := fun y hy => ne_of_gt (late rt h2 hy)
      cases hb : (decide (i < p.length) && ((rd_T41 p i).f0.toList == key.toList)) with
      | true =>
        have hb' := hb
        rw [Bool.and_eq_true] at hb'
        have hth : i < p.length := of_decide_eq_true hb'.1
        have hke : (rd_T41 p i).f0.toList = key.toList := by simpa using hb'.2
        refine ⟨(rd_T41 p i).f1, true, fun A c w hl hc => Ge.Get_there A c ps key w hl hc k0 hk0 (by omega) (by omega) rt.len k hk h1 h2 p hpD i hi g1 g2 hb hth, ?_⟩
        have e1 : (ps.take (k - 1)).flatten ++ (p ++ (ps.drop (k - 1 + 1)).flatten) = ((ps.take (k - 1)).flatten ++ p.take i) ++ rd_T41 p i :: (p.drop (i + 1) ++ (ps.drop (k - 1 + 1)).flatten) := by
          rw [Py.rdT hth, List.append_assoc, ← List.cons_append, ← List.drop_eq_getElem_cons hth, ← List.append_assoc (p.take i), List.take_append_drop]
        rw [e1, look_there hke (fun y hy => by
          rcases List.mem_append.1 hy with hy | hy
          · exact he y hy
          · obtain ⟨t, ht, rfl⟩ := List.mem_iff_getElem.1 hy
            rw [List.length_take] at ht
            rw [List.getElem_take]
            have := g1 t (by omega)
            rw [Py.rdT (by omega)] at this
            exact ne_of_lt this)] at href
        exact href
      | false =>
        refine ⟨⟨#[]⟩, false, fun A c w hl hc => Ge.Get_away A c ps key w hl hc k0 hk0 (by omega) (by omega) rt.len k hk h1 h2 p hpD i hi g1 g2 hb, ?_⟩
        rw [look_away (fun y hy => by
          rcases List.mem_append.1 hy with hy | hy
          · exact he y hy
          · rcases List.mem_append.1 hy with hy | hy
            · obtain ⟨t, ht, rfl⟩ := List.mem_iff_getElem.1 hy
              rcases Nat.lt_or_ge t i with hti | hti
              · have := g1 t hti
                rw [Py.rdT ht] at this
                exact ne_of_lt this
              · have h3 : i < p.length := by omega
                rw [decide_eq_true h3, Bool.true_and, Py.rdT h3] at hb
                rcases Nat.eq_or_lt_of_le hti with rfl | hti
                · simpa using hb
                · intro e
                  have h4 := g2 i (Nat.le_refl _) h3
                  rw [Py.rdT h3] at h4
                  have h5 : lt (kof p[i]) (kof p[t]) = true := List.pairwise_iff_getElem.1 (rt.page p hpm) i t h3 ht hti
                  have h6 : kof p[t] = key.toList := e
                  rw [h6] at h5
                  have h7 : lt (kof p[i]) key.toList = false := h4
                  rw [h5] at h7
                  cases h7
            · exact hL y hy)] at href
        exact href
end Go.Proofs.Ytookpmdgoednfaa.Gb
