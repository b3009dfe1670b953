/- page.Del and the reference's Del, side by side: whatever the pages and the key, both make the same. No condition. -/
import Derived.Test.YtookpmdgoednfaaDo
import Derived.Test.YtookpmdgoednfaaDr
import Derived.Test.YtookpmdgoednfaaGb
namespace Go.Proofs.Ytookpmdgoednfaa.Dp
open Go.RowKit Go.Proofs.YtookpmdgoednfaaW.PrintWords Go.Proofs.YtookpmdgoednfaaW.PrintLast Go.Proofs.YtookpmdgoednfaaW.PrintMore Go.Proofs.Ytookpmdgoednfaa.Mx Go.Proofs.Ytookpmdgoednfaa.PPagePuts Go.Proofs.Ytookpmdgoednfaa.Pa Go.Proofs.Ytookpmdgoednfaa.Gp
open Go.Proofs.Ytookpmdgoednfaa.Px (lt Bef Rt)
set_option linter.unusedVariables false
theorem without_ev (p : List SP) (key : ByteArray) (hp : p.length ≤ 8) : Ev (fun r => falseworkref7_without.f r p key) (p.filter (fun x => !(x.f0.toList == key.toList))) := by
  have H : ∀ (d j : Nat) (out : List SP), p.length - j = d → j ≤ p.length → out.length ≤ j → Ev (fun r => falseworkref7_without.l0 r p key out j) (out ++ (p.drop j).filter (fun x => !(x.f0.toList == key.toList))) := by
    intro d
    induction d with
    | zero =>
      intro j out hd hj ho
      refine Ev.step (f := fun _ => some out) (fun r => by simp only [falseworkref7_without.l0]; rw [if_neg (by omega)]) ?_
      rw [List.drop_eq_nil_of_le (by omega), List.filter_nil, List.append_nil]
      exact Ev.now out
    | succ d ih =>
      intro j out hd hj ho
      have hlt : j < p.length := by omega
      rw [List.drop_eq_getElem_cons hlt]
      by_cases he : (p[j].f0).toList = key.toList
      · rw [List.filter_cons_of_neg (by simp [he])]
        refine Ev.step (f := fun r => falseworkref7_without.l0 r p key out ((j + 1 : Nat) : Int)) (fun r => ?_) (ih (j + 1) out (by omega) (by omega) (by omega))
        simp only [falseworkref7_without.l0]
        rw [if_pos (by omega), if_pos (by omega), Py.rdT hlt, if_pos he, Py.wrap_one hlt (by omega)]
      · rw [List.filter_cons_of_pos (by simp [he])]
        have h := ih (j + 1) (out ++ [p[j]]) (by omega) (by omega) (by rw [List.length_append, List.length_singleton]; omega)
        rw [List.append_assoc, List.singleton_append] at h
        refine Ev.step (f := fun r => falseworkref7_without.l0 r p key (out ++ [p[j]]) ((j + 1 : Nat) : Int)) (fun r => ?_) h
        simp only [falseworkref7_without.l0]
        rw [if_pos (by omega), if_pos (by omega), Py.rdT hlt, if_neg he, if_pos (by omega), Py.wrap_one hlt (by omega)]
  have h := H p.length 0 [] (by omega) (by omega) (by simp)
  rw [List.drop_zero, List.nil_append] at h
  exact h
theorem filter_erase {p : List SP} {key : ByteArray} (hP : p.Pairwise Bef) {i : Nat} (hi : i < p.length) (he : p[i].f0.toList = key.toList) : p.filter (fun x => !(x.f0.toList == key.toList)) = p.eraseIdx i := by
  have hp := List.pairwise_iff_getElem.1 hP
  conv => lhs; rw [← List.take_append_drop i p, List.drop_eq_getElem_cons hi]
  rw [List.filter_append, List.filter_cons_of_neg (by simp [he]), List.eraseIdx_eq_take_drop_succ]
  have e1 : (p.take i).filter (fun x => !(x.f0.toList == key.toList)) = p.take i := by
    rw [List.filter_eq_self]
    intro x hx
    obtain ⟨j, hj, rfl⟩ := List.mem_iff_getElem.1 hx
    rw [List.length_take] at hj
    rw [List.getElem_take]
    have h1 : lt (Py.kof (p[j]'(by omega))) (Py.kof p[i]) = true := hp j i (by omega) hi (by omega)
    have h2 : ¬ (p[j]'(by omega)).f0.toList = key.toList := by rw [← he]; exact Gb.ne_of_lt h1
    simp [h2]
  have e2 : (p.drop (i + 1)).filter (fun x => !(x.f0.toList == key.toList)) = p.drop (i + 1) := by
    rw [List.filter_eq_self]
    intro x hx
    obtain ⟨j, hj, rfl⟩ := List.mem_iff_getElem.1 hx
    rw [List.length_drop] at hj
    rw [List.getElem_drop]
    have h1 : lt (Py.kof p[i]) (Py.kof (p[i + 1 + j]'(by omega))) = true := hp i (i + 1 + j) hi (by omega) (by omega)
    have h2 : ¬ (p[i + 1 + j]'(by omega)).f0.toList = key.toList := by rw [← he]; exact Gb.ne_of_gt h1
    simp [h2]
  rw [e1, e2]
theorem ref_get {ps : List (List SP)} {key : ByteArray} (hn : ps.length ≤ 400) (hr : Py.right ps = true) {k : Nat} (hk : k ≤ ps.length) (h1 : ∀ t : Nat, t < k → lt key.toList (Px.fk (rd_L2 ps t)) = false) (h2 : ∀ t : Nat, k ≤ t → t < ps.length → lt key.toList (Px.fk (rd_L2 ps t)) = true)
    {p : List SP} (hp : ps[k - 1]? = some p) {i : Nat} (hi : i ≤ p.length) (g1 : ∀ t : Nat, t < i → lt (rd_T41 p t).f0.toList key.toList = true) (g2 : ∀ t : Nat, i ≤ t → t < p.length → lt (rd_T41 p t).f0.toList key.toList = false) {b : Bool} (hb : (decide (i < p.length) && ((rd_T41 p i).f0.toList == key.toList)) = b) :
    ∃ v, Ev (fun r => falseworkref7_Get.f r ps key) (v, b) := by
  have rt := Px.rt_of hr
  have href := refget ps key (by omega) (fun q hq => (rt.len q hq).2) hr
  have hpm := List.mem_of_getElem? hp
  rw [Gb.flat_split hp] at href
  have he : ∀ y ∈ (ps.take (k - 1)).flatten, ¬ y.f0.toList = key.toList := fun y hy => Gb.ne_of_lt (Gb.early rt hk h1 hy)
  have hL : ∀ y ∈ (ps.drop (k - 1 + 1)).flatten, ¬ y.f0.toList = key.toList := fun y hy => Gb.ne_of_gt (Gb.late rt h2 hy)
  cases b with
  | true =>
    have hb' := hb
    rw [Bool.and_eq_true] at hb'
    have hth : i < p.length := of_decide_eq_true hb'.1
    have hke : (rd_T41 p i).f0.toList = key.toList := by simpa using hb'.2
    have e1 : (ps.take (k - 1)).flatten ++ (p ++ (ps.drop (k - 1 + 1)).flatten) = ((ps.take (k - 1)).flatten ++ p.take i) ++ rd_T41 p i :: (p.drop (i + 1) ++ (ps.drop (k - 1 + 1)).flatten) := by
      rw [Py.rdT hth, List.append_assoc, ← List.cons_append, ← List.drop_eq_getElem_cons hth, ← List.append_assoc (p.take i), List.take_append_drop]
    rw [e1, look_there hke (fun y hy => by
      rcases List.mem_append.1 hy with hy | hy
      · exact he y hy
      · obtain ⟨t, ht, rfl⟩ := List.mem_iff_getElem.1 hy
        rw [List.length_take] at ht
        rw [List.getElem_take]
        have := g1 t (by omega)
        rw [Py.rdT (by omega)] at this
        exact Gb.ne_of_lt this)] at href
    exact ⟨_, href⟩
  | false =>
    rw [look_away (fun y hy => by
      rcases List.mem_append.1 hy with hy | hy
      · exact he y hy
      · rcases List.mem_append.1 hy with hy | hy
        · obtain ⟨t, ht, rfl⟩ := List.mem_iff_getElem.1 hy
          rcases Nat.lt_or_ge t i with hti | hti
          · have := g1 t hti
            rw [Py.rdT ht] at this
            exact Gb.ne_of_lt this
          · have h3 : i < p.length := by omega
            rw [decide_eq_true h3, Bool.true_and, Py.rdT h3] at hb
            rcases Nat.eq_or_lt_of_le hti with rfl | hti
            · simpa using hb
            · intro e
              have h4 := g2 i (Nat.le_refl _) h3
              rw [Py.rdT h3] at h4
              have h5 : lt (Py.kof p[i]) (Py.kof p[t]) = true := List.pairwise_iff_getElem.1 (rt.page p hpm) i t h3 ht hti
              have h6 : Py.kof p[t] = key.toList := e
              rw [h6] at h5
              have h7 : lt (Py.kof p[i]) key.toList = false := h4
              rw [h5] at h7
              cases h7
        · exact hL y hy)] at href
    exact ⟨_, href⟩
theorem ref_of {ps : List (List SP)} {key : ByteArray} (hn : ps.length ≤ 400) (rt : Rt ps) {k : Nat} (hk : k ≤ ps.length) (h1 : ∀ t : Nat, t < k → lt key.toList (Px.fk (rd_L2 ps t)) = false) (h2 : ∀ t : Nat, k ≤ t → t < ps.length → lt key.toList (Px.fk (rd_L2 ps t)) = true) : Ev (fun r => falseworkref7_of.f r ps key) ((k - 1 : Nat) : Int) := by
  have hof := Px.ref_of ps key (by omega) (fun j hj => by rw [Py.rdL hj]; exact (rt.len _ (List.getElem_mem hj)).1) k hk h1 h2 ps.length 0 0 (by omega) (by omega)
  have e0 : (if 0 < k then ((k - 1 : Nat) : Int) else 0) = ((k - 1 : Nat) : Int) := by
    split
    · rfl
    · rw [show k - 1 = 0 by omega]; rfl
  rw [e0] at hof
  exact hof
structure BothDel (ps : List (List SP)) (key : ByteArray) (a : List (List SP)) : Prop where
  len : a.length ≤ 100000
  one : ∀ p ∈ a, p.length ≤ 100000
  prg : ∀ (A : Option Addr) (c : Nat) (w : World), Kd.C (Kd.slice 41 kP) w A ps.length ps → ps.length ≤ c → Calls Try.prog 32 #[.slice A ps.length c, .string key] w fun e w' => ∃ (v : Value) (hs : List Hd), e = .returned v ∧ PgM w w' v hs a []
  ref : ∀ (A : Option Addr) (c : Nat) (w : World), Kd.C (Kd.slice 41 kP) w A ps.length ps → ps.length ≤ c → Calls Try.prog 33 #[.slice A ps.length c, .string key] w fun e w' => ∃ (v : Value) (hs : List Hd), e = .returned v ∧ PgM w w' v hs a []
theorem getD_mem {l : List (List SP)} {j : Nat} (h : j < l.length) : l.getD j [] ∈ l := by
  rw [List.getD_eq_getElem?_getD, List.getElem?_eq_getElem h]
  exact List.getElem_mem h
theorem both (ps : List (List SP)) (key : ByteArray) (hn : ps.length ≤ 400) (hpl : ∀ p ∈ ps, p.length ≤ 100000) : ∃ a, BothDel ps key a := by
  obtain ⟨k0, hk0⟩ := (Py.page_right ps (by omega)).rounds
  obtain ⟨k1, hk1⟩ := (Py.ref_right ps (by omega)).rounds
  cases hr : Py.right ps with
  | false =>
    rw [hr] at hk0 hk1
    exact ⟨[], by simp, by simp, fun A c w hl hc => Dl.Del_not A c ps key w hl hc k0 hk0, fun A c w hl hc => Dr.D11_not A c ps key w hl hc (by omega) hpl k1 hk1⟩
  | true =>
    rw [hr] at hk0 hk1
    by_cases hne : ps.length = 0
    · obtain rfl := List.eq_nil_of_length_eq_zero hne
      obtain ⟨k2, hk2⟩ := (refget [] key (by simp) (by simp) hr).rounds
      exact ⟨[], by simp, by simp, fun A c w hl hc => Dl.Del_none A c key w hl k0 hk0, fun A c w hl hc => Dr.D11_away A c [] key w hl hc (by simp) (by simp) k1 k2 _ hk1 hk2⟩
    · have rt := Px.rt_of hr
      obtain ⟨k, hk, h1, h2⟩ := Px.page_cut rt key.toList
      have hnk : k - 1 < ps.length := by omega
      have hp : ps[k - 1]? = some ps[k - 1] := List.getElem?_eq_getElem hnk
      have hpD : ps.getD (k - 1) [] = ps[k - 1] := by simp [List.getD, hnk]
      generalize hpe : ps[k - 1] = p at hp hpD
      have hpm : p ∈ ps := by rw [← hpe]; exact List.getElem_mem hnk
      have hp8 := rt.len p hpm
      obtain ⟨i, hi, g1, g2⟩ := Px.pair_cut (rt.page p hpm) key.toList
      cases hb : (decide (i < p.length) && ((rd_T41 p i).f0.toList == key.toList)) with
      | false =>
        obtain ⟨gv, hg⟩ := ref_get hn hr hk h1 h2 hp hi g1 g2 hb
        obtain ⟨k2, hk2⟩ := hg.rounds
        exact ⟨ps, by omega, hpl, fun A c w hl hc => Dl.Del_away A c ps key w hl hc k0 hk0 (by omega) (by omega) rt.len k hk h1 h2 p hpD i hi g1 g2 hb, fun A c w hl hc => Dr.D11_away A c ps key w hl hc (by omega) hpl k1 k2 gv hk1 hk2⟩
      | true =>
        obtain ⟨gv, hg⟩ := ref_get hn hr hk h1 h2 hp hi g1 g2 hb
        obtain ⟨k2, hk2⟩ := hg.rounds
        obtain ⟨k3, hk3⟩ := (ref_of hn rt hk h1 h2).rounds
        rw [Bool.and_eq_true] at hb
        have hth : i < p.length := of_decide_eq_true hb.1
        have hke : p[i].f0.toList = key.toList := by have := hb.2; rw [Py.rdT hth] at this; simpa using this
        have hwo := without_ev p key hp8.2
        rw [filter_erase (rt.page p hpm) hth hke] at hwo
        obtain ⟨k4, hk4⟩ := hwo.rounds
        obtain ⟨q, hq⟩ : ∃ q, p.eraseIdx i = q := ⟨_, rfl⟩
        rw [hq] at hk4
        have hql : q.length = p.length - 1 := by rw [← hq]; exact List.length_eraseIdx_of_lt hth
        obtain ⟨P, hP⟩ : ∃ P, ps.set (k - 1) q = P := ⟨_, rfl⟩
        have hPl : P.length = ps.length := by rw [← hP, List.length_set]
        have hPn : P.getD (k - 1) [] = q := by rw [← hP]; simp [List.getD, hnk]
        have hP8 : ∀ x ∈ P, x.length ≤ 8 := fun x hx => by
          rw [← hP] at hx
          rcases List.mem_or_eq_of_mem_set hx with hx | rfl
          · exact (rt.len x hx).2
          · omega
        have hone : ∀ j, (P.getD j []).length ≤ 8 := fun j => by
          rcases Nat.lt_or_ge j P.length with h | h
          · exact hP8 _ (getD_mem h)
          · rw [List.getD_eq_getElem?_getD, List.getElem?_eq_none h]; simp
        have hposn : ∀ j, j < P.length → ¬ j = k - 1 → 0 < (P.getD j []).length := fun j hj hne => by
          have e : P.getD j [] = ps.getD j [] := by rw [← hP, List.getD_eq_getElem?_getD, List.getD_eq_getElem?_getD, List.getElem?_set_ne (fun h => hne h.symm)]
          rw [e]
          exact (rt.len _ (getD_mem (by omega))).1
        have hP1 : ∀ x ∈ P, x.length ≤ 100000 := fun x hx => Nat.le_trans (hP8 x hx) (by decide)
        have hnr : ps.length ≤ 100000 := by omega
        by_cases hq0 : q.length = 0
        · refine ⟨P.take (k - 1) ++ P.drop (k - 1 + 1), ?_, ?_, fun A c w hl hc => Dl.Del_gone A c ps key w hl hc k0 hk0 (by omega) hnr rt.len k hk h1 h2 p hpD i hi g1 g2 hth hb.2 q hq P hP hq0, fun A c w hl hc => Dr.D11_gone A c ps key w hl hc hnr hpl k1 k2 k3 k4 gv hk1 hk2 (k - 1) hnk hk3 p q hpD hk4 P hP hq0 hposn⟩
          · rw [List.length_append, List.length_take, List.length_drop]; omega
          · intro x hx
            rcases List.mem_append.1 hx with hx | hx
            · exact hP1 x (List.mem_of_mem_take hx)
            · exact hP1 x (List.mem_of_mem_drop hx)
        · have hqp : 0 < q.length := by omega
          have hpos : ∀ j, j < P.length → 0 < (P.getD j []).length := fun j hj => by
            by_cases e : j = k - 1
            · rw [e, hPn]; exact hqp
            · exact hposn j hj e
          have hone1 : ∀ j, (P.getD j []).length ≤ 1000000 := fun j => Nat.le_trans (hone j) (by decide)
          have hjoin : ∀ f, (P.take f ++ (P.getD f [] ++ P.getD (f + 1) []) :: P.drop (f + 2)).length ≤ 100000 ∧ ∀ x ∈ P.take f ++ (P.getD f [] ++ P.getD (f + 1) []) :: P.drop (f + 2), x.length ≤ 100000 := fun f => by
            refine ⟨?_, fun x hx => ?_⟩
            · rw [List.length_append, List.length_cons, List.length_take, List.length_drop]; omega
            · rcases List.mem_append.1 hx with hx | hx
              · exact hP1 x (List.mem_of_mem_take hx)
              · rcases List.mem_cons.1 hx with rfl | hx
                · rw [List.length_append]; have := hone f; have := hone (f + 1); omega
                · exact hP1 x (List.mem_of_mem_drop hx)
          by_cases hm : k - 1 + 1 < ps.length
          · by_cases hs : 4 < q.length + (P.getD (k - 1 + 1) []).length
            · exact ⟨P, by omega, hP1, fun A c w hl hc => Dl.Del_keep_mid A c ps key w hl hc k0 hk0 (by omega) hnr rt.len k hk h1 h2 p hpD i hi g1 g2 hth hb.2 q hq P hP hqp hm (fun j _ => hone1 j) (by rw [hPn]; exact hs), fun A c w hl hc => Dr.D11_keep_mid A c ps key w hl hc hnr hpl k1 k2 k3 k4 gv hk1 hk2 (k - 1) hnk hk3 p q hpD hk4 P hP hqp hpos hone1 hm hs⟩
            · exact ⟨_, (hjoin (k - 1)).1, (hjoin (k - 1)).2, fun A c w hl hc => Dl.Del_join_mid A c ps key w hl hc k0 hk0 (by omega) hnr rt.len k hk h1 h2 p hpD i hi g1 g2 hth hb.2 q hq P hP hqp hm (fun j _ => hone1 j) (by rw [hPn]; exact hs), fun A c w hl hc => Dr.D11_join_mid A c ps key w hl hc hnr hpl k1 k2 k3 k4 gv hk1 hk2 (k - 1) hnk hk3 p q hpD hk4 P hP hqp hpos hone1 hm hs _ rfl⟩
          · by_cases h0 : k - 1 = 0
            · exact ⟨P, by omega, hP1, fun A c w hl hc => Do.Del_keep_only A c ps key w hl hc k0 hk0 (by omega) hnr rt.len k hk h1 h2 p hpD i hi g1 g2 hth hb.2 q hq P hP hqp ⟨by omega, h0⟩, fun A c w hl hc => Dr.D11_keep_only A c ps key w hl hc hnr hpl k1 k2 k3 k4 gv hk1 hk2 (k - 1) hnk hk3 p q hpD hk4 P hP hqp hpos hone1 ⟨by omega, h0⟩⟩
            · have e1 : k - 1 - 1 + 1 = k - 1 := by omega
              by_cases hs : 4 < q.length + (P.getD (k - 1 - 1) []).length
              · exact ⟨P, by omega, hP1, fun A c w hl hc => Dl.Del_keep_last A c ps key w hl hc k0 hk0 (by omega) hnr rt.len k hk h1 h2 p hpD i hi g1 g2 hth hb.2 q hq P hP hqp ⟨by omega, by omega⟩ (fun j _ => hone1 j) (by rw [e1, hPn]; omega), fun A c w hl hc => Dr.D11_keep_last A c ps key w hl hc hnr hpl k1 k2 k3 k4 gv hk1 hk2 (k - 1) hnk hk3 p q hpD hk4 P hP hqp hpos hone1 ⟨by omega, by omega⟩ hs⟩
              · exact ⟨_, (hjoin (k - 1 - 1)).1, (hjoin (k - 1 - 1)).2, fun A c w hl hc => Dl.Del_join_last A c ps key w hl hc k0 hk0 (by omega) hnr rt.len k hk h1 h2 p hpD i hi g1 g2 hth hb.2 q hq P hP hqp ⟨by omega, by omega⟩ (fun j _ => hone1 j) (by rw [e1, hPn]; omega), fun A c w hl hc => Dr.D11_join_last A c ps key w hl hc hnr hpl k1 k2 k3 k4 gv hk1 hk2 (k - 1) hnk hk3 p q hpD hk4 P hP hqp hpos hone1 ⟨by omega, by omega⟩ hs _ (by rw [e1])⟩
end Go.Proofs.Ytookpmdgoednfaa.Dp
