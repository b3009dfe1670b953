/- Texts laid together: Do, Lp. No condition. -/
import Derived.Lib.Strings
import Derived.Test.YtookpmdgoednfaaYPz10
set_option linter.unusedVariables false
set_option linter.unusedSimpArgs false
set_option maxRecDepth 100000
set_option maxHeartbeats 8000000
namespace Go.Proofs.Ytookpmdgoednfaa.Do
open Go.RowKit YtookpmdgoednfaaW.PrintWords YtookpmdgoednfaaW.PrintLast YtookpmdgoednfaaW.PrintMore Mx PPagePuts Pa Ps Dk Dl
theorem Del_keep_only (A : Option Addr) (c : Nat) (ps : List (List SP)) (key : ByteArray) (w : World) (hl : Kd.C (Kd.slice 41 kP) w A ps.length ps) (hc : ps.length ≤ c) (k0 : Nat) (hR : page_Right.f k0 ps = some true) (hne : 0 < ps.length) (hn : ps.length ≤ 100000) (hpp : ∀ p ∈ ps, 0 < p.length ∧ p.length ≤ 8)
    (k : Nat) (hk : k ≤ ps.length) (h1 : ∀ t : Nat, t < k → Op.bytesLess key.toList (fk (rd_L2 ps t)) = false) (h2 : ∀ t : Nat, k ≤ t → t < ps.length → Op.bytesLess key.toList (fk (rd_L2 ps t)) = true)
    (p : List SP) (hp : ps.getD (k - 1) [] = p) (i : Nat) (hi : i ≤ p.length) (g1 : ∀ t : Nat, t < i → Op.bytesLess (rd_T41 p t).f0.toList key.toList = true) (g2 : ∀ t : Nat, i ≤ t → t < p.length → Op.bytesLess (rd_T41 p t).f0.toList key.toList = false) (hth : i < p.length) (he : ((rd_T41 p i).f0.toList == key.toList) = true) (q : List SP) (hq0 : p.eraseIdx i = q) (P : List (List SP)) (hP0 : ps.set (k - 1) q = P) (hq : 0 < q.length) (hmode : k - 1 + 1 = ps.length ∧ k - 1 = 0) :
    Calls Try.prog 32 #[.slice A ps.length c, .string key] w fun e w' => ∃ (v : Value) (hs : List Hd), e = .returned v ∧ PgM w w' v hs (P) [] := by
  have HQ0 := Aside0.mk hq0
  have HPP0 := Aside0.mk hP0
  clear hq0 hP0
  have HQL := Aside0.mk hq
  have HMODE := Aside0.mk hmode
  clear hq hmode
  have HL := Aside0.mk hl
  have HC := Aside0.mk hc
  have HR := Aside0.mk hR
  have M0 := Aside0.mk (Mem.nil w)
  have HPP := Aside0.mk hpp
  have hnk : k - 1 < ps.length := by omega
  have hpm : p ∈ ps := by
    have e : ps.getD (k - 1) [] = ps[k - 1] := by simp [List.getD, hnk]
    rw [← hp, e]
    exact List.getElem_mem hnk
  have HPL := Aside0.mk (hpp p hpm)
  have HOF := Aside0.mk (fun (B : Option Addr) (d : Nat) (W : World) (hC : Kd.C (Kd.slice 41 kP) W B ps.length ps) => of_calls B d ps key W hC (by omega) (fun j hj => by
      have e : rd_L2 ps (j : Int) = ps[j] := by unfold rd_L2; simp [List.getD, hj]
      rw [e]
      exact (hpp _ (List.getElem_mem hj)).1) k hk h1 h2)
  have HAT := Aside0.mk (fun (B : Option Addr) (d : Nat) (W : World) (hC : Kd.C kP W B p.length p) => at_calls B d p key W hC (by have := (hpp p hpm).2; omega) i hi g1 g2 true (by rw [decide_eq_true hth, he]; rfl))
  have hnz : ((ps.length : Int) == 0) = false := beq_eq_false_iff_ne.mpr (by omega)
  have hnz2 : ¬ (ps.length : Int) = 0 := by omega
  have HP := Aside0.mk hp
  have HN := Aside0.mk hn
  have HI := Aside0.mk hi
  obtain ⟨n, hnn⟩ : ∃ n, n = k - 1 := ⟨_, rfl⟩
  rw [← hnn] at hnk
  have HNN := Aside0.mk hnn
  clear hl hc hR hpp hpm h1 h2 g1 g2 hp hn hi hk hne hnn
  go_enter Try.func32, Try.ntmps32
  go_wp2_with fail
  refine (page_Right.calls k0 A c ps true _ HL.out HC.out HR.out).mono ?_
  rintro e w1 ⟨rfl, hb⟩
  have M1 := Aside0.mk (M0.out.grow hb)
  clear hb
  go_wp2_with fail
  refine (copied_calls A c ps _ (Kd.C_below HL.out M1.out.below) (by have := HN.out; omega) (fun q hq => by have := (HPP.out q hq).2; omega)).mono ?_
  rintro e w2 ⟨v, hs, rfl, hM⟩
  obtain ⟨B, d, rfl, _, _, hC⟩ := hM.read
  have M2 := Aside0.mk (show PgM w w2 _ hs ps [] from ⟨hM.len, (M1.out.trans hM.mem).reindex id id (fun j r hj => ⟨by simpa using hj, rfl⟩)⟩)
  have HC2 := Aside0.mk hC
  clear hM hC M1 M0
  go_wp2_with fail
  refine (HOF.out B d _ HC2.out).mono ?_
  rintro e w3 ⟨rfl, hM⟩
  have M3 := Aside0.mk (M2.out.grow hM.below)
  clear hM M2 HC2
  obtain ⟨g, cap, hd, he, hhd, hcell, hfr, hg, hmem⟩ := M3.out.open_ n hnk
  cases he
  rw [HNN.out, HP.out, ← HNN.out] at hmem
  obtain ⟨g2, c2, hv2, _, hg2, _⟩ := Kd.R_form (hmem.hold (i := 1) rfl) HPL.out.1
  have hdv : hd = ⟨some ⟨g2, 0, none⟩, p.length, c2⟩ := by
    obtain ⟨a, b, c⟩ := hd
    injection hv2 with e1 e2 e3
    subst e1; subst e2; subst e3; rfl
  subst hdv
  change w3.cell? _ = some (.slice (some ⟨g2, 0, none⟩) p.length c2) at hcell
  have M4 := Aside0.mk hmem
  have HHD := Aside0.mk hhd
  clear hmem hhd hv2
  rw [← HNN.out]
  have hi1 : ((n : Int) < (ps.length : Int)) = True := eq_true (by omega)
  have hi2 : n < ps.length := hnk
  have hnb : n < 1000000 := by have := HN.out; omega
  go_wp2_with fail
  refine (HAT.out (some ⟨g2, 0, none⟩) c2 _ (M4.out.row_C 1 rfl)).mono ?_
  rintro e w4 ⟨rfl, hM⟩
  have M5 := Aside0.mk (M4.out.grow hM.below)
  have hcell4 := (hM.below.cell hg).trans hcell
  have hfr4 := (hM.below.frozen hg).trans hfr
  have hg4 := Nat.lt_of_lt_of_le hg hM.below.size
  have hb4 := Aside0.mk hM.below
  have M3' := Aside0.mk (M3.out.grow hM.below)
  clear hM M3 M4 hcell hfr hg
  have hj1 : ((i : Int) < (p.length : Int)) = True := eq_true (by omega)
  have hj2 : i < p.length := hth
  have hib : i < 1000000 := by have := HPL.out.2; omega
  have HPL8 := Aside0.mk (show p.length ≤ 1000000 by have := HPL.out.2; omega)
  have M6 := Aside0.mk (Mem.sel (ps := [_, _]) (F := inner (hs.take n) (ps.take n) ++ (inner (hs.drop (n + 1)) (ps.drop (n + 1)) ++ [])) [1, 0] 2 M5.out rfl rfl)
  go_wp2_with fail
  refine (delP_calls w _ _ _ p i M6.out hj2 HPL8.out).mono ?_
  rintro e w5 ⟨v', rfl, hM⟩
  rw [HQ0.out] at hM
  obtain ⟨B2, d2, rfl, hcd, _⟩ := hM.row_at 0 rfl
  have M7 := Aside0.mk hM
  obtain ⟨k1, k2, k3, k4⟩ := Mem.hd_cell' hM 1 rfl n hnk
  obtain ⟨ov, k0'⟩ := Option.isSome_iff_exists.1 k1
  have K4 := Aside0.mk k4
  clear hM M5 M6 hcell4 hfr4 hg4 k1 k4 hcd
  go_upto_region 9 with (fail)
  have M8 := Aside0.mk (PgM.shut_ (hs := hs) (ps := ps) (n := n) (F := []) M3'.out.len hnk ⟨B2, q.length, d2⟩ q (Mem.sel (ps := [_, _]) (F := inner (hs.take n) (ps.take n) ++ (inner (hs.drop (n + 1)) (ps.drop (n + 1)) ++ [])) [1, 0] 2 (K4.out ⟨B2, q.length, d2⟩) rfl rfl))
  obtain ⟨wx, hwx⟩ : ∃ wx, w5.setCell ⟨g, n, none⟩ (Hd.v ⟨B2, q.length, d2⟩) = wx := ⟨_, rfl⟩
  rw [hwx] at M8
  change w5.setCell ⟨g, n, none⟩ (.slice B2 q.length d2) = wx at hwx
  rw [hwx]
  have HNN' := Aside0.mk (show ps.set n q = P by rw [HNN.out]; exact HPP0.out)
  rw [HNN'.out] at M8
  have M9 := M8
  clear M8 M7 K4 k0' k2 k3 hwx
  obtain ⟨hs2, hhs2⟩ : ∃ hs2, hs.set n ⟨B2, q.length, d2⟩ = hs2 := ⟨_, rfl⟩
  rw [hhs2] at M9
  have hPl : P.length = ps.length := by rw [← HNN'.out, List.length_set]
  have hPn : P.getD n [] = q := by rw [← HNN'.out]; simp [List.getD, hnk]
  obtain ⟨B3, d3, hcn, _⟩ := PgM.cell M9.out n (by omega)
  rw [hPn] at hcn
  have HPL2 := Aside0.mk hPl
  have HPN := Aside0.mk hPn
  have hgx : g < wx.heap.size := World.block_lt_of_cell? wx _ hcn
  clear hPn hPl hhs2
  have hql : ¬ (q.length : Int) = 0 := by have := HQL.out; omega
  have hql2 : ((q.length : Int) == 0) = false := beq_eq_false_iff_ne.mpr hql
  have hf1 : ((n : Int) + 1 == (ps.length : Int)) = true := by have := HMODE.out; have := HNN.out; simp; omega
  have hf2 : (n : Int) + 1 = (ps.length : Int) := by have := HMODE.out; have := HNN.out; omega
  go_upto_region 14 with (fail)
  rw [show (n : Int) - 1 = -1 by have := HMODE.out; have := HNN.out; omega]
  have hm1 : decide ((-1 : Int) < 0) = true := by decide
  clear hcn hf1 hf2
  go_quiet (fail)
  go_wp2
  go_ret
  exact ⟨_, hs2, rfl, ⟨M9.out.len, M9.out.mem.drewN _⟩⟩
end Go.Proofs.Ytookpmdgoednfaa.Do
namespace Go.Proofs.Ytookpmdgoednfaa.Lp
open Go.RowKit YtookpmdgoednfaaW.PrintWords YtookpmdgoednfaaW.PrintLast YtookpmdgoednfaaW.PrintMore Mx PPagePuts Pa
open Px (lt Bef Rt)
abbrev kof := Py.kof
theorem ba_ext {a b : ByteArray} (h : a.toList = b.toList) : a = b := by
  rw [Lib.toList_data, Lib.toList_data] at h
  cases a; cases b
  congr 1
  exact Array.toList_inj.1 h
/-! ### right pages by their list -/
theorem asc_of : ∀ (l : List SP) (o : Option (List UInt8)), l.Pairwise Bef → (∀ k, o = some k → ∀ x ∈ l, lt k (kof x) = true) → Py.asc o l = true
  | [], _, _, _ => rfl
  | x :: l, o, h, ho => by
    obtain ⟨h1, h2⟩ := List.pairwise_cons.1 h
    unfold Py.asc
    rw [asc_of l (some (kof x)) h2 (fun k hk y hy => by cases hk; exact h1 y hy), Bool.and_true]
    cases o with
    | none => rfl
    | some k => exact ho k rfl x (List.mem_cons_self ..)
theorem right_of {ps : List (List SP)} (hs : ∀ p ∈ ps, 0 < p.length ∧ p.length ≤ 8) (h : ps.flatten.Pairwise Bef) : Py.right ps = true := by
  unfold Py.right Py.R Py.sizes
  rw [asc_of _ none h (fun k hk => by cases hk), Bool.and_true, List.all_eq_true]
  intro p hp
  unfold Py.fits
  have := hs p hp
  simp
  omega
/-! ### where a key goes -/
def place (l : List SP) (key : List UInt8) : Nat := (l.takeWhile (fun x => lt (kof x) key)).length
def headIs (l : List SP) (key : List UInt8) : Bool := match l with | x :: _ => kof x == key | [] => false
def there (l : List SP) (key : List UInt8) : Bool := headIs (l.drop (place l key)) key
def after (l : List SP) (key : List UInt8) : Nat := if there l key = true then place l key + 1 else place l key
def ins (l : List SP) (key : ByteArray) (o : Option ByteArray) : List SP := l.take (place l key.toList) ++ (match o with | some v => [⟨key, v⟩] | none => []) ++ l.drop (after l key.toList)
theorem place_app {L R : List SP} {key : List UInt8} (hL : ∀ x ∈ L, lt (kof x) key = true) (hR : ∀ x ∈ R, lt (kof x) key = false) : place (L ++ R) key = L.length := by
  unfold place
  rw [List.takeWhile_append_of_pos (fun x hx => hL x hx)]
  cases R with
  | nil => simp
  | cons x R => rw [List.takeWhile_cons, if_neg (by rw [hR x (List.mem_cons_self ..)]; simp)]; simp
theorem there_app {L R : List SP} {key : List UInt8} (hL : ∀ x ∈ L, lt (kof x) key = true) (hR : ∀ x ∈ R, lt (kof x) key = false) : there (L ++ R) key = headIs R key := by
  unfold there
  rw [place_app hL hR, List.drop_left' rfl]
theorem ins_there {L R : List SP} {x : SP} {key : ByteArray} (hL : ∀ y ∈ L, lt (kof y) key.toList = true) (hR : ∀ y ∈ x :: R, lt (kof y) key.toList = false) (he : kof x = key.toList) (o : Option ByteArray) : ins (L ++ x :: R) key o = L ++ (match o with | some v => [⟨key, v⟩] | none => []) ++ R := by
  have ht : there (L ++ x :: R) key.toList = true := by rw [there_app hL hR]; show (kof x == key.toList) = true; rw [he]; simp
  unfold ins after
  rw [ht, if_pos rfl, place_app hL hR, List.take_left' rfl, List.drop_append, List.drop_eq_nil_of_le (by omega), show L.length + 1 - L.length = 1 by omega, List.drop_succ_cons, List.drop_zero, List.nil_append]
theorem ins_away {L R : List SP} {key : ByteArray} (hL : ∀ y ∈ L, lt (kof y) key.toList = true) (hR : ∀ y ∈ R, lt (kof y) key.toList = false) (he : ∀ y ∈ R, ¬ kof y = key.toList) (o : Option ByteArray) : ins (L ++ R) key o = L ++ (match o with | some v => [⟨key, v⟩] | none => []) ++ R := by
  have ht : there (L ++ R) key.toList = false := by
    rw [there_app hL hR]
    cases R with
    | nil => rfl
    | cons y R => exact beq_eq_false_iff_ne.mpr (he y (List.mem_cons_self ..))
  unfold ins after
  rw [ht, if_neg (by simp), place_app hL hR, List.take_left' rfl, List.drop_left' rfl]
theorem pw_put {L R : List SP} {key v : ByteArray} (h : (L ++ R).Pairwise Bef) (hL : ∀ y ∈ L, lt (kof y) key.toList = true) (hR : ∀ y ∈ R, lt key.toList (kof y) = true) : (L ++ [(⟨key, v⟩ : SP)] ++ R).Pairwise Bef := by
  obtain ⟨h1, h2, h3⟩ := List.pairwise_append.1 h
  rw [List.append_assoc, List.singleton_append, List.pairwise_append]
  refine ⟨h1, List.pairwise_cons.2 ⟨fun y hy => hR y hy, h2⟩, fun x hx y hy => ?_⟩
  rcases List.mem_cons.1 hy with rfl | hy
  · exact hL x hx
  · exact h3 x hx y hy
theorem gt_of {a b : List UInt8} (h : lt b a = false) (hne : ¬ b = a) : lt a b = true := Px.lt_of_not h hne
/-- A list, seen from a key's page and its place there. -/
structure Seen (ps : List (List SP)) (key : ByteArray) (n : Nat) (p : List SP) (i : Nat) : Prop where
  page : ps[n]? = some p
  flat : ps.flatten = ((ps.take n).flatten ++ p.take i) ++ (p.drop i ++ (ps.drop (n + 1)).flatten)
  lo : ∀ x ∈ (ps.take n).flatten ++ p.take i, lt (kof x) key.toList = true
  hi : ∀ x ∈ p.drop i ++ (ps.drop (n + 1)).flatten, lt (kof x) key.toList = false
  late : ∀ x ∈ (ps.drop (n + 1)).flatten, ¬ kof x = key.toList
theorem seen {ps : List (List SP)} {key : ByteArray} (rt : Rt ps) {k : Nat} (hk : k ≤ ps.length) (hne : 0 < ps.length) (h1 : ∀ t : Nat, t < k → lt key.toList (Px.fk (rd_L2 ps t)) = false) (h2 : ∀ t : Nat, k ≤ t → t < ps.length → lt key.toList (Px.fk (rd_L2 ps t)) = true)
    {p : List SP} (hp : ps[k - 1]? = some p) {i : Nat} (hi : i ≤ p.length) (g1 : ∀ t : Nat, t < i → lt (rd_T41 p t).f0.toList key.toList = true) (g2 : ∀ t : Nat, i ≤ t → t < p.length → lt (rd_T41 p t).f0.toList key.toList = false) : Seen ps key (k - 1) p i := by
  have hL : ∀ y ∈ (ps.drop (k - 1 + 1)).flatten, lt key.toList (kof y) = true := fun y hy => Gb.late rt h2 hy
  refine ⟨hp, ?_, fun x hx => ?_, fun x hx => ?_, fun x hx => Gb.ne_of_gt (hL x hx)⟩
  · rw [Gb.flat_split hp, List.append_assoc, ← List.append_assoc (p.take i), List.take_append_drop]
  · rcases List.mem_append.1 hx with hx | hx
    · exact Gb.early rt hk h1 hx
    · obtain ⟨t, ht, rfl⟩ := List.mem_iff_getElem.1 hx
      rw [List.length_take] at ht
      rw [List.getElem_take]
      have := g1 t (by omega)
      rwa [Py.rdT (by omega)] at this
  · rcases List.mem_append.1 hx with hx | hx
    · obtain ⟨t, ht, rfl⟩ := List.mem_iff_getElem.1 hx
      rw [List.length_drop] at ht
      rw [List.getElem_drop]
      have := g2 (i + t) (by omega) (by omega)
      rwa [Py.rdT (by omega)] at this
    · exact Px.lt_asymm (hL x hx)
theorem flat_set {ps : List (List SP)} {n : Nat} (hn : n < ps.length) (q : List SP) : (ps.set n q).flatten = (ps.take n).flatten ++ (q ++ (ps.drop (n + 1)).flatten) := by
  rw [list_set q hn, List.flatten_append, List.flatten_cons]
theorem mem_set {ps : List (List SP)} {n : Nat} {q x : List SP} (h : x ∈ ps.set n q) (hq : 0 < q.length ∧ q.length ≤ 8) (hs : ∀ p ∈ ps, 0 < p.length ∧ p.length ≤ 8) : 0 < x.length ∧ x.length ≤ 8 := by
  rcases List.mem_or_eq_of_mem_set h with h | rfl
  · exact hs x h
  · exact hq
structure Makes (f : Nat) (ps a : List (List SP)) (args : Array Value) : Prop where
  run : ∀ (A : Option Addr) (c : Nat) (w : World), Kd.C (Kd.slice 41 kP) w A ps.length ps → ps.length ≤ c → Calls Try.prog f (#[.slice A ps.length c] ++ args) w fun e w' => ∃ (v : Value) (hs : List Hd), e = .returned v ∧ PgM w w' v hs a []
theorem put_makes (ps : List (List SP)) (key val : ByteArray) (hn : ps.length ≤ 400) (hr : Py.right ps = true) : ∃ a, Makes 25 ps a #[.string key, .string val] ∧ Py.right a = true ∧ a.flatten = ins ps.flatten key (some val) ∧ a.length ≤ ps.length + 1 := by
  obtain ⟨k0, hk0⟩ := (Py.page_right ps (by omega)).rounds
  rw [hr] at hk0
  by_cases hne : ps.length = 0
  · obtain rfl := List.eq_nil_of_length_eq_zero hne
    exact ⟨[[⟨key, val⟩]], ⟨fun A c w hl hc => Pp.Put_none A c key val w hl k0 hk0⟩, rfl, rfl, by simp⟩
  · have rt := Px.rt_of hr
    have hF := Gq.flat_pair rt
    obtain ⟨k, hk, h1, h2⟩ := Px.page_cut rt key.toList
    have hnk : k - 1 < ps.length := by omega
    have hp : ps[k - 1]? = some ps[k - 1] := List.getElem?_eq_getElem hnk
    have hpD : ps.getD (k - 1) [] = ps[k - 1] := by simp [List.getD, hnk]
    generalize hpe : ps[k - 1] = p at hp hpD
    have hpm : p ∈ ps := by rw [← hpe]; exact List.getElem_mem hnk
    have hp8 := rt.len p hpm
    obtain ⟨i, hi, g1, g2⟩ := Px.pair_cut (rt.page p hpm) key.toList
    have S := seen rt hk (by omega) h1 h2 hp hi g1 g2
    cases hb : (decide (i < p.length) && ((rd_T41 p i).f0.toList == key.toList)) with
    | true =>
      have hb' := hb
      rw [Bool.and_eq_true] at hb'
      have hth : i < p.length := of_decide_eq_true hb'.1
      have hke : kof p[i] = key.toList := by have := hb'.2; rw [Py.rdT hth] at this; show p[i].f0.toList = key.toList; simpa using this
      have e0 : (⟨(rd_T41 p i).f0, val⟩ : SP) = ⟨key, val⟩ := by rw [Py.rdT hth, ba_ext hke]
      have eR : p.drop i ++ (ps.drop (k - 1 + 1)).flatten = p[i] :: (p.drop (i + 1) ++ (ps.drop (k - 1 + 1)).flatten) := by rw [List.drop_eq_getElem_cons hth, List.cons_append]
      have hflat := S.flat
      have hhi := S.hi
      rw [eR] at hflat hhi
      have ef : (ps.set (k - 1) (p.set i ⟨(rd_T41 p i).f0, val⟩)).flatten = ins ps.flatten key (some val) := by
        rw [hflat, ins_there S.lo hhi hke, flat_set hnk, e0, list_set _ hth]
        simp
      refine ⟨_, ⟨fun A c w hl hc => Pp.Put_there A c ps key val w hl hc k0 hk0 (by omega) (by omega) rt.len k hk h1 h2 p hpD i hi g1 g2 hth hb'.2⟩, right_of (fun x hx => mem_set hx (by rw [List.length_set]; exact hp8) rt.len) ?_, ef, by rw [List.length_set]; omega⟩
      rw [ef, hflat, ins_there S.lo hhi hke]
      rw [hflat] at hF
      obtain ⟨f1, f2, f3⟩ := List.pairwise_append.1 hF
      obtain ⟨f4, f5⟩ := List.pairwise_cons.1 f2
      exact pw_put (List.pairwise_append.2 ⟨f1, f5, fun x hx y hy => f3 x hx y (List.mem_cons_of_mem _ hy)⟩) S.lo (fun y hy => by rw [← hke]; exact f4 y hy)
    | false =>
      obtain ⟨q, hq⟩ : ∃ q, p.take i ++ [⟨key, val⟩] ++ p.drop i = q := ⟨_, rfl⟩
      have hql : q.length = p.length + 1 := by rw [← hq]; simp only [List.length_append, List.length_take, List.length_singleton, List.length_drop]; omega
      have hne2 : ∀ y ∈ p.drop i ++ (ps.drop (k - 1 + 1)).flatten, ¬ kof y = key.toList := fun y hy => by
        rcases List.mem_append.1 hy with hy | hy
        · obtain ⟨t, ht, rfl⟩ := List.mem_iff_getElem.1 hy
          rw [List.length_drop] at ht
          rw [List.getElem_drop]
          have h3 : i < p.length := by omega
          rw [decide_eq_true h3, Bool.true_and, Py.rdT h3] at hb
          rcases Nat.eq_zero_or_pos t with rfl | ht0
          · show ¬ p[i].f0.toList = key.toList
            simpa using hb
          · intro e
            have h5 : lt (kof p[i]) (kof (p[i + t]'(by omega))) = true := List.pairwise_iff_getElem.1 (rt.page p hpm) i (i + t) h3 (by omega) (by omega)
            have h7 := g2 i (Nat.le_refl _) h3
            rw [Py.rdT h3] at h7
            rw [e] at h5
            have h8 : lt (kof p[i]) key.toList = false := h7
            rw [h5] at h8
            cases h8
        · exact S.late y hy
      have ef : (ps.take (k - 1)).flatten ++ (q ++ (ps.drop (k - 1 + 1)).flatten) = ins ps.flatten key (some val) := by
        rw [S.flat, ins_away S.lo S.hi hne2, ← hq]
        simp
      have hpw : (ins ps.flatten key (some val)).Pairwise Bef := by
        rw [S.flat, ins_away S.lo S.hi hne2]
        rw [S.flat] at hF
        exact pw_put hF S.lo (fun y hy => gt_of (S.hi y hy) (hne2 y hy))
      by_cases h8 : p.length < 8
      · refine ⟨_, ⟨fun A c w hl hc => Pp.Put_fits A c ps key val w hl hc k0 hk0 (by omega) (by omega) rt.len k hk h1 h2 p hpD i hi g1 g2 hb h8 q hq⟩, right_of (fun x hx => mem_set hx (by omega) rt.len) ?_, ?_, by rw [List.length_set]; omega⟩
        · rw [flat_set hnk, ef]; exact hpw
        · rw [flat_set hnk, ef]
      · have e9 : (ps.take (k - 1) ++ q.take 4 :: q.drop 4 :: ps.drop (k - 1 + 1)).flatten = ins ps.flatten key (some val) := by
          rw [← ef]
          simp only [List.flatten_append, List.flatten_cons]
          rw [← List.append_assoc (q.take 4), List.take_append_drop]
        refine ⟨_, ⟨fun A c w hl hc => Pp.Put_parts A c ps key val w hl hc k0 hk0 (by omega) (by omega) rt.len k hk h1 h2 p hpD i hi g1 g2 hb (by omega) q hq⟩, right_of (fun x hx => ?_) (by rw [e9]; exact hpw), e9, ?_⟩
        · simp only [List.mem_append, List.mem_cons] at hx
          rcases hx with hx | rfl | rfl | hx
          · exact rt.len x (List.mem_of_mem_take hx)
          · rw [List.length_take]; omega
          · rw [List.length_drop]; omega
          · exact rt.len x (List.mem_of_mem_drop hx)
        · rw [List.length_append, List.length_cons, List.length_cons, List.length_take, List.length_drop]; omega
theorem del_makes (ps : List (List SP)) (key : ByteArray) (hn : ps.length ≤ 400) (hr : Py.right ps = true) : ∃ a, Makes 32 ps a #[.string key] ∧ Py.right a = true ∧ a.flatten = ins ps.flatten key none ∧ a.length ≤ ps.length := by
  obtain ⟨k0, hk0⟩ := (Py.page_right ps (by omega)).rounds
  rw [hr] at hk0
  by_cases hne : ps.length = 0
  · obtain rfl := List.eq_nil_of_length_eq_zero hne
    exact ⟨[], ⟨fun A c w hl hc => Dl.Del_none A c key w hl k0 hk0⟩, rfl, rfl, by simp⟩
  · have rt := Px.rt_of hr
    have hF := Gq.flat_pair rt
    obtain ⟨k, hk, h1, h2⟩ := Px.page_cut rt key.toList
    have hnk : k - 1 < ps.length := by omega
    have hp : ps[k - 1]? = some ps[k - 1] := List.getElem?_eq_getElem hnk
    have hpD : ps.getD (k - 1) [] = ps[k - 1] := by simp [List.getD, hnk]
    generalize hpe : ps[k - 1] = p at hp hpD
    have hpm : p ∈ ps := by rw [← hpe]; exact List.getElem_mem hnk
    have hp8 := rt.len p hpm
    obtain ⟨i, hi, g1, g2⟩ := Px.pair_cut (rt.page p hpm) key.toList
    have S := seen rt hk (by omega) h1 h2 hp hi g1 g2
    cases hb : (decide (i < p.length) && ((rd_T41 p i).f0.toList == key.toList)) with
    | false =>
      have hne2 : ∀ y ∈ p.drop i ++ (ps.drop (k - 1 + 1)).flatten, ¬ kof y = key.toList := fun y hy => by
        rcases List.mem_append.1 hy with hy | hy
        · obtain ⟨t, ht, rfl⟩ := List.mem_iff_getElem.1 hy
          rw [List.length_drop] at ht
          rw [List.getElem_drop]
          have h3 : i < p.length := by omega
          have hb2 := hb
          rw [decide_eq_true h3, Bool.true_and, Py.rdT h3] at hb2
          rcases Nat.eq_zero_or_pos t with rfl | ht0
          · show ¬ p[i].f0.toList = key.toList
            simpa using hb2
          · intro e
            have h5 : lt (kof p[i]) (kof (p[i + t]'(by omega))) = true := List.pairwise_iff_getElem.1 (rt.page p hpm) i (i + t) h3 (by omega) (by omega)
            have h7 := g2 i (Nat.le_refl _) h3
            rw [Py.rdT h3] at h7
            rw [e] at h5
            have h8 : lt (kof p[i]) key.toList = false := h7
            rw [h5] at h8
            cases h8
        · exact S.late y hy
      exact ⟨ps, ⟨fun A c w hl hc => Dl.Del_away A c ps key w hl hc k0 hk0 (by omega) (by omega) rt.len k hk h1 h2 p hpD i hi g1 g2 hb⟩, hr, by
        conv => rhs; rw [S.flat, ins_away S.lo S.hi hne2]
        rw [List.append_nil]
        exact S.flat, Nat.le_refl _⟩
    | true =>
      rw [Bool.and_eq_true] at hb
      have hth : i < p.length := of_decide_eq_true hb.1
      have hke : kof p[i] = key.toList := by have := hb.2; rw [Py.rdT hth] at this; show p[i].f0.toList = key.toList; simpa using this
      obtain ⟨q, hq⟩ : ∃ q, p.eraseIdx i = q := ⟨_, rfl⟩
      have hql : q.length = p.length - 1 := by rw [← hq]; exact List.length_eraseIdx_of_lt hth
      obtain ⟨P, hP⟩ : ∃ P, ps.set (k - 1) q = P := ⟨_, rfl⟩
      have hPl : P.length = ps.length := by rw [← hP, List.length_set]
      have hPk : k - 1 < P.length := by omega
      have hPn : P.getD (k - 1) [] = q := by rw [← hP]; simp [List.getD, hnk]
      have eR : p.drop i ++ (ps.drop (k - 1 + 1)).flatten = p[i] :: (p.drop (i + 1) ++ (ps.drop (k - 1 + 1)).flatten) := by rw [List.drop_eq_getElem_cons hth, List.cons_append]
      have hflat := S.flat
      have hhi := S.hi
      rw [eR] at hflat hhi
      have ef : P.flatten = ins ps.flatten key none := by
        rw [hflat, ins_there S.lo hhi hke, ← hP, flat_set hnk, ← hq, List.eraseIdx_eq_take_drop_succ]
        simp
      have hpw : P.flatten.Pairwise Bef := by
        rw [ef, hflat, ins_there S.lo hhi hke, List.append_nil]
        rw [hflat] at hF
        obtain ⟨f1, f2, f3⟩ := List.pairwise_append.1 hF
        obtain ⟨f4, f5⟩ := List.pairwise_cons.1 f2
        exact List.pairwise_append.2 ⟨f1, f5, fun x hx y hy => f3 x hx y (List.mem_cons_of_mem _ hy)⟩
      have hPm : ∀ x ∈ P, x = q ∨ x ∈ ps := fun x hx => by
        rw [← hP] at hx
        exact (List.mem_or_eq_of_mem_set hx).elim .inr .inl
      have hnr : ps.length ≤ 100000 := by omega
      by_cases hq0 : q.length = 0
      · have hq1 : q = [] := List.eq_nil_of_length_eq_zero hq0
        have eg : (P.take (k - 1) ++ P.drop (k - 1 + 1)).flatten = P.flatten := by
          have hs : P = P.take (k - 1) ++ P.getD (k - 1) [] :: P.drop (k - 1 + 1) := list_split (by rw [List.getD_eq_getElem?_getD, List.getElem?_eq_getElem hPk]; rfl)
          conv => rhs; rw [hs]
          rw [List.flatten_append, List.flatten_append, List.flatten_cons, hPn, hq1, List.nil_append]
        refine ⟨P.take (k - 1) ++ P.drop (k - 1 + 1), ⟨fun A c w hl hc => Dl.Del_gone A c ps key w hl hc k0 hk0 (by omega) hnr rt.len k hk h1 h2 p hpD i hi g1 g2 hth hb.2 q hq P hP hq0⟩, right_of (fun x hx => ?_) (by rw [eg]; exact hpw), by rw [eg, ef], by rw [List.length_append, List.length_take, List.length_drop]; omega⟩
        rw [← hP] at hx
        rw [list_set q hnk] at hx
        have e1 : (ps.take (k - 1) ++ q :: ps.drop (k - 1 + 1)).take (k - 1) = ps.take (k - 1) := List.take_left' (by rw [List.length_take]; omega)
        have e2 : (ps.take (k - 1) ++ q :: ps.drop (k - 1 + 1)).drop (k - 1 + 1) = ps.drop (k - 1 + 1) := by
          rw [← List.singleton_append, ← List.append_assoc]
          exact List.drop_left' (by rw [List.length_append, List.length_take, List.length_singleton]; omega)
        rw [e1, e2] at hx
        rcases List.mem_append.1 hx with hx | hx
        · exact rt.len x (List.mem_of_mem_take hx)
        · exact rt.len x (List.mem_of_mem_drop hx)
      · have hqp : 0 < q.length := by omega
        have hsz : ∀ x ∈ P, 0 < x.length ∧ x.length ≤ 8 := fun x hx => by
          rcases hPm x hx with rfl | hx
          · omega
          · exact rt.len x hx
        have hone : ∀ j, (P.getD j []).length ≤ 8 := fun j => by
          rcases Nat.lt_or_ge j P.length with h | h
          · rw [List.getD_eq_getElem?_getD, List.getElem?_eq_getElem h]
            exact (hsz _ (List.getElem_mem h)).2
          · rw [List.getD_eq_getElem?_getD, List.getElem?_eq_none h]; simp
        have hone1 : ∀ j, (P.getD j []).length ≤ 1000000 := fun j => Nat.le_trans (hone j) (by decide)
        have hjoin : ∀ f, f + 1 < P.length → ¬ 4 < (P.getD f []).length + (P.getD (f + 1) []).length → Py.right (P.take f ++ (P.getD f [] ++ P.getD (f + 1) []) :: P.drop (f + 2)) = true ∧ (P.take f ++ (P.getD f [] ++ P.getD (f + 1) []) :: P.drop (f + 2)).flatten = ins ps.flatten key none ∧ (P.take f ++ (P.getD f [] ++ P.getD (f + 1) []) :: P.drop (f + 2)).length ≤ ps.length := fun f hf hs => by
          have e1 : P.getD f [] = P[f]'(by omega) := by rw [List.getD_eq_getElem?_getD, List.getElem?_eq_getElem (by omega)]; rfl
          have e2 : P.getD (f + 1) [] = P[f + 1] := by rw [List.getD_eq_getElem?_getD, List.getElem?_eq_getElem hf]; rfl
          have eg : (P.take f ++ (P.getD f [] ++ P.getD (f + 1) []) :: P.drop (f + 2)).flatten = P.flatten := by
            conv => rhs; rw [← List.take_append_drop f P, List.drop_eq_getElem_cons (by omega : f < P.length), List.drop_eq_getElem_cons hf]
            rw [e1, e2]
            simp only [List.flatten_append, List.flatten_cons, List.append_assoc]
          refine ⟨right_of (fun x hx => ?_) (by rw [eg]; exact hpw), by rw [eg, ef], by rw [List.length_append, List.length_cons, List.length_take, List.length_drop]; omega⟩
          rcases List.mem_append.1 hx with hx | hx
          · exact hsz x (List.mem_of_mem_take hx)
          · rcases List.mem_cons.1 hx with rfl | hx
            · rw [List.length_append]
              have h3 : 0 < (P.getD f []).length := by rw [e1]; exact (hsz _ (List.getElem_mem _)).1
              omega
            · exact hsz x (List.mem_of_mem_drop hx)
        have hright : Py.right P = true := right_of hsz hpw
        by_cases hm : k - 1 + 1 < ps.length
        · by_cases hs : 4 < (P.getD (k - 1) []).length + (P.getD (k - 1 + 1) []).length
          · exact ⟨P, ⟨fun A c w hl hc => Dl.Del_keep_mid A c ps key w hl hc k0 hk0 (by omega) hnr rt.len k hk h1 h2 p hpD i hi g1 g2 hth hb.2 q hq P hP hqp hm (fun j _ => hone1 j) hs⟩, hright, ef, by omega⟩
          · exact ⟨_, ⟨fun A c w hl hc => Dl.Del_join_mid A c ps key w hl hc k0 hk0 (by omega) hnr rt.len k hk h1 h2 p hpD i hi g1 g2 hth hb.2 q hq P hP hqp hm (fun j _ => hone1 j) hs⟩, hjoin (k - 1) (by omega) hs⟩
        · by_cases h0 : k - 1 = 0
          · exact ⟨P, ⟨fun A c w hl hc => Do.Del_keep_only A c ps key w hl hc k0 hk0 (by omega) hnr rt.len k hk h1 h2 p hpD i hi g1 g2 hth hb.2 q hq P hP hqp ⟨by omega, h0⟩⟩, hright, ef, by omega⟩
          · by_cases hs : 4 < (P.getD (k - 1 - 1) []).length + (P.getD (k - 1 - 1 + 1) []).length
            · exact ⟨P, ⟨fun A c w hl hc => Dl.Del_keep_last A c ps key w hl hc k0 hk0 (by omega) hnr rt.len k hk h1 h2 p hpD i hi g1 g2 hth hb.2 q hq P hP hqp ⟨by omega, by omega⟩ (fun j _ => hone1 j) hs⟩, hright, ef, by omega⟩
            · exact ⟨_, ⟨fun A c w hl hc => Dl.Del_join_last A c ps key w hl hc k0 hk0 (by omega) hnr rt.len k hk h1 h2 p hpD i hi g1 g2 hth hb.2 q hq P hP hqp ⟨by omega, by omega⟩ (fun j _ => hone1 j) hs⟩, hjoin (k - 1 - 1) (by omega) hs⟩
end Go.Proofs.Ytookpmdgoednfaa.Lp
