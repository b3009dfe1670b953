/- Texts laid together: Dl. No condition. -/
import Derived.Test.YtookpmdgoednfaaYPz9
set_option linter.unusedVariables false
set_option linter.unusedSimpArgs false
set_option maxRecDepth 100000
set_option maxHeartbeats 8000000
namespace Go.Proofs.Ytookpmdgoednfaa.Dl
open Go.RowKit YtookpmdgoednfaaW.PrintWords YtookpmdgoednfaaW.PrintLast YtookpmdgoednfaaW.PrintMore Mx PPagePuts Pa Ps Dk
theorem join_list {α : Type} (l : List α) (f : Nat) (x : α) (h : f + 1 < l.length) : (l.set f x).eraseIdx (f + 1) = l.take f ++ x :: l.drop (f + 2) := by
  rw [list_set x (by omega), List.eraseIdx_eq_take_drop_succ, List.take_append, List.drop_append, List.length_take, Nat.min_eq_left (by omega), show f + 1 - f = 1 by omega, show f + 1 + 1 - f = 2 by omega, List.take_take, Nat.min_eq_right (by omega), List.drop_take, show f - (f + 1 + 1) = 0 by omega]
  simp
theorem PgM.cell {w0 w : World} {g m cap : Nat} {hs : List Hd} {ps : List (List SP)} {F : List Res} (h : PgM w0 w (.slice (some ⟨g, 0, none⟩) m cap) hs ps F) (n : Nat) (hn : n < ps.length) : ∃ B d, w.cell? ⟨g, n, none⟩ = some (.slice B (ps.getD n []).length d) ∧ hs[n]? = some ⟨B, (ps.getD n []).length, d⟩ := by
  obtain ⟨A, c, e, _, hk, hC⟩ := h.read
  injection e with e1 e2 e3
  subst e1
  obtain ⟨ad, A0, c0, e, hx, _⟩ := at_L2 hC (n : Int) (by omega) (by omega)
  injection e with e
  subst e
  rw [Int.toNat_natCast, add_plain] at hx
  have hnh : n < hs.length := by rw [h.len]; exact hn
  obtain ⟨_, _, hk3⟩ := hk
  obtain ⟨ad, e, hr⟩ := hk3 (by omega)
  injection e with e
  subst e
  obtain ⟨cs, g1, g2, g3⟩ := hr n hs[n] (List.getElem?_eq_getElem hnh)
  have g4 : w.cell? ((⟨g, 0, none⟩ : Addr).add (n * 1 + 0)) = some hs[n].v := g3 0 _ (by rw [flatH.rd_ g2]; rfl)
  rw [add_plain, Nat.mul_one, Nat.add_zero] at g4
  refine ⟨A0, c0, hx, ?_⟩
  have g5 : hs[n].v = .slice A0 (rd_L2 ps n).length c0 := Option.some.inj (g4.symm.trans hx)
  rw [List.getElem?_eq_getElem hnh]
  congr 1
  generalize hs[n] = hd at g5
  obtain ⟨a, b, c⟩ := hd
  injection g5 with e1 e2 e3
  subst e1; subst e2; subst e3
  rfl
theorem PgM.drop1 {w0 w : World} {v : Value} {hs hs' : List Hd} {ps : List (List SP)} {n : Nat} (hl : hs.length = ps.length) (hn : n < ps.length) (hh : hs.eraseIdx n = hs') (h : Mem w0 w (row kH 32 v hs' :: (inner hs ps ++ []))) : PgM w0 w v hs' (ps.take n ++ ps.drop (n + 1)) [] := by
  subst hh
  have hnh : n < hs.length := by omega
  rw [inner_split hl (List.getElem?_eq_getElem hnh) (List.getElem?_eq_getElem hn), List.append_assoc, List.cons_append] at h
  refine ⟨by rw [List.length_eraseIdx_of_lt hnh, List.length_append, List.length_take, List.length_drop]; omega, ?_⟩
  have h2 := Mem.sel (ps := [_, _]) (F := inner (hs.take n) (ps.take n) ++ (inner (hs.drop (n + 1)) (ps.drop (n + 1)) ++ [])) [0] 2 (Mem.from_mid (l := inner (hs.take n) (ps.take n)) (F := inner (hs.drop (n + 1)) (ps.drop (n + 1)) ++ []) h) rfl rfl
  have e : inner (hs.eraseIdx n) (ps.take n ++ ps.drop (n + 1)) = inner (hs.take n) (ps.take n) ++ inner (hs.drop (n + 1)) (ps.drop (n + 1)) := by rw [List.eraseIdx_eq_take_drop_succ, inner_app (by rw [List.length_take, List.length_take, hl])]
  rw [e, List.append_assoc]
  exact h2
theorem PgM.open2 {w0 w : World} {v : Value} {hs : List Hd} {ps : List (List SP)} (h : PgM w0 w v hs ps []) (f : Nat) (hf : f + 1 < ps.length) {h1 h2 : Hd} (e1 : hs[f]? = some h1) (e2 : hs[f + 1]? = some h2) :
    Mem w0 w (row kH 32 v hs :: row kP 41 h1.v (ps.getD f []) :: row kP 41 h2.v (ps.getD (f + 1) []) :: (inner (hs.take f) (ps.take f) ++ (inner (hs.drop (f + 2)) (ps.drop (f + 2)) ++ []))) := by
  have hl := h.len
  have hf1 : hs[f]? = some (hs[f]'(by omega)) := List.getElem?_eq_getElem _
  have hf2 : hs[f + 1]? = some (hs[f + 1]'(by omega)) := List.getElem?_eq_getElem _
  have hp1 : ps[f]? = some (ps[f]'(by omega)) := List.getElem?_eq_getElem _
  have hp2 : ps[f + 1]? = some (ps[f + 1]'(by omega)) := List.getElem?_eq_getElem _
  rw [hf1] at e1
  rw [hf2] at e2
  cases e1
  cases e2
  rw [show ps.getD f [] = ps[f]'(by omega) by simp [List.getD, hp1], show ps.getD (f + 1) [] = ps[f + 1]'(by omega) by simp [List.getD, hp2]]
  have hm := h.mem
  have e : inner (hs.drop (f + 1)) (ps.drop (f + 1)) = row kP 41 (hs[f + 1]'(by omega)).v (ps[f + 1]'(by omega)) :: inner (hs.drop (f + 2)) (ps.drop (f + 2)) := by
    rw [List.drop_eq_getElem_cons (by omega : f + 1 < hs.length), List.drop_eq_getElem_cons hf, inner_cons]
  rw [inner_split hl hf1 hp1, List.append_assoc, List.cons_append, e] at hm
  have h2 := Mem.from_mid hm
  have h3 := Mem.from_mid (l := row kP 41 (hs[f]'(by omega)).v (ps[f]'(by omega)) :: inner (hs.take f) (ps.take f)) (F := inner (hs.drop (f + 2)) (ps.drop (f + 2)) ++ []) h2
  exact Mem.sel (ps := [_, _, _]) (F := inner (hs.take f) (ps.take f) ++ (inner (hs.drop (f + 2)) (ps.drop (f + 2)) ++ [])) [0, 2, 1] 3 h3 rfl rfl
theorem Del_none (A : Option Addr) (c : Nat) (key : ByteArray) (w : World) (hl : Kd.C (Kd.slice 41 kP) w A 0 []) (k0 : Nat) (hR : page_Right.f k0 [] = some true) :
    Calls Try.prog 32 #[.slice A 0 c, .string key] w fun e w' => ∃ (v : Value) (hs : List Hd), e = .returned v ∧ PgM w w' v hs [] [] := by
  have HL := Aside0.mk hl
  have HR := Aside0.mk hR
  have M0 := Aside0.mk (PgM.nil w)
  clear hl hR
  go_enter Try.func32, Try.ntmps32
  go_wp2_with fail
  refine (page_Right.calls k0 A c [] true _ HL.out (Nat.zero_le _) HR.out).mono ?_
  rintro e w1 ⟨rfl, hb⟩
  have M1 := Aside0.mk (M0.out.grow hb)
  clear hb
  go_wp2
  go_ret
  exact ⟨_, [], rfl, M1.out⟩
theorem Del_away (A : Option Addr) (c : Nat) (ps : List (List SP)) (key : ByteArray) (w : World) (hl : Kd.C (Kd.slice 41 kP) w A ps.length ps) (hc : ps.length ≤ c) (k0 : Nat) (hR : page_Right.f k0 ps = some true) (hne : 0 < ps.length) (hn : ps.length ≤ 100000) (hpp : ∀ p ∈ ps, 0 < p.length ∧ p.length ≤ 8)
    (k : Nat) (hk : k ≤ ps.length) (h1 : ∀ t : Nat, t < k → Op.bytesLess key.toList (fk (rd_L2 ps t)) = false) (h2 : ∀ t : Nat, k ≤ t → t < ps.length → Op.bytesLess key.toList (fk (rd_L2 ps t)) = true)
    (p : List SP) (hp : ps.getD (k - 1) [] = p) (i : Nat) (hi : i ≤ p.length) (g1 : ∀ t : Nat, t < i → Op.bytesLess (rd_T41 p t).f0.toList key.toList = true) (g2 : ∀ t : Nat, i ≤ t → t < p.length → Op.bytesLess (rd_T41 p t).f0.toList key.toList = false) (hb : (decide (i < p.length) && ((rd_T41 p i).f0.toList == key.toList)) = false) :
    Calls Try.prog 32 #[.slice A ps.length c, .string key] w fun e w' => ∃ (v : Value) (hs : List Hd), e = .returned v ∧ PgM w w' v hs ps [] := by
  have HL := Aside0.mk hl
  have HC := Aside0.mk hc
  have HR := Aside0.mk hR
  have M0 := Aside0.mk (Mem.nil w)
  have HPP := Aside0.mk hpp
  have hnk : k - 1 < ps.length := by omega
  have hpm : p ∈ ps := by
    have e : ps.getD (k - 1) [] = ps[k - 1] := by simp [List.getD, hnk]
    rw [← hp, e]
    exact List.getElem_mem hnk
  have HPL := Aside0.mk (hpp p hpm)
  have HOF := Aside0.mk (fun (B : Option Addr) (d : Nat) (W : World) (hC : Kd.C (Kd.slice 41 kP) W B ps.length ps) => of_calls B d ps key W hC (by omega) (fun j hj => by
      have e : rd_L2 ps (j : Int) = ps[j] := by unfold rd_L2; simp [List.getD, hj]
      rw [e]
      exact (hpp _ (List.getElem_mem hj)).1) k hk h1 h2)
  have HAT := Aside0.mk (fun (B : Option Addr) (d : Nat) (W : World) (hC : Kd.C kP W B p.length p) => at_calls B d p key W hC (by have := (hpp p hpm).2; omega) i hi g1 g2 false hb.symm)
  have hnz : ((ps.length : Int) == 0) = false := beq_eq_false_iff_ne.mpr (by omega)
  have hnz2 : ¬ (ps.length : Int) = 0 := by omega
  have HP := Aside0.mk hp
  have HN := Aside0.mk hn
  have HI := Aside0.mk hi
  obtain ⟨n, hnn⟩ : ∃ n, n = k - 1 := ⟨_, rfl⟩
  rw [← hnn] at hnk
  have HNN := Aside0.mk hnn
  clear hl hc hR hpp hpm h1 h2 g1 g2 hp hn hi hk hne hnn
  go_enter Try.func32, Try.ntmps32
  go_wp2_with fail
  refine (page_Right.calls k0 A c ps true _ HL.out HC.out HR.out).mono ?_
  rintro e w1 ⟨rfl, hb⟩
  have M1 := Aside0.mk (M0.out.grow hb)
  clear hb
  go_wp2_with fail
  refine (copied_calls A c ps _ (Kd.C_below HL.out M1.out.below) (by have := HN.out; omega) (fun q hq => by have := (HPP.out q hq).2; omega)).mono ?_
  rintro e w2 ⟨v, hs, rfl, hM⟩
  obtain ⟨B, d, rfl, _, _, hC⟩ := hM.read
  have M2 := Aside0.mk (show PgM w w2 _ hs ps [] from ⟨hM.len, (M1.out.trans hM.mem).reindex id id (fun j r hj => ⟨by simpa using hj, rfl⟩)⟩)
  have HC2 := Aside0.mk hC
  clear hM hC M1 M0
  go_wp2_with fail
  refine (HOF.out B d _ HC2.out).mono ?_
  rintro e w3 ⟨rfl, hM⟩
  have M3 := Aside0.mk (M2.out.grow hM.below)
  clear hM M2 HC2
  obtain ⟨g, cap, hd, he, hhd, hcell, hfr, hg, hmem⟩ := M3.out.open_ n hnk
  cases he
  rw [HNN.out, HP.out, ← HNN.out] at hmem
  obtain ⟨g2, c2, hv2, _, hg2, _⟩ := Kd.R_form (hmem.hold (i := 1) rfl) HPL.out.1
  have hdv : hd = ⟨some ⟨g2, 0, none⟩, p.length, c2⟩ := by
    obtain ⟨a, b, c⟩ := hd
    injection hv2 with e1 e2 e3
    subst e1; subst e2; subst e3; rfl
  subst hdv
  change w3.cell? _ = some (.slice (some ⟨g2, 0, none⟩) p.length c2) at hcell
  have M4 := Aside0.mk hmem
  have HHD := Aside0.mk hhd
  clear hmem hhd hv2
  rw [← HNN.out]
  have hi1 : ((n : Int) < (ps.length : Int)) = True := eq_true (by omega)
  have hi2 : n < ps.length := hnk
  have hnb : n < 1000000 := by have := HN.out; omega
  go_wp2_with fail
  refine (HAT.out (some ⟨g2, 0, none⟩) c2 _ (M4.out.row_C 1 rfl)).mono ?_
  rintro e w4 ⟨rfl, hM⟩
  have M5 := Aside0.mk (M4.out.grow hM.below)
  have hcell4 := (hM.below.cell hg).trans hcell
  have hfr4 := (hM.below.frozen hg).trans hfr
  have hg4 := Nat.lt_of_lt_of_le hg hM.below.size
  have hb4 := Aside0.mk hM.below
  have M3' := Aside0.mk (M3.out.grow hM.below)
  clear hM M3 M4 hcell hfr hg
  go_wp2_with fail
  go_ret
  exact ⟨_, hs, rfl, M3'.out⟩
theorem Del_gone (A : Option Addr) (c : Nat) (ps : List (List SP)) (key : ByteArray) (w : World) (hl : Kd.C (Kd.slice 41 kP) w A ps.length ps) (hc : ps.length ≤ c) (k0 : Nat) (hR : page_Right.f k0 ps = some true) (hne : 0 < ps.length) (hn : ps.length ≤ 100000) (hpp : ∀ p ∈ ps, 0 < p.length ∧ p.length ≤ 8)
    (k : Nat) (hk : k ≤ ps.length) (h1 : ∀ t : Nat, t < k → Op.bytesLess key.toList (fk (rd_L2 ps t)) = false) (h2 : ∀ t : Nat, k ≤ t → t < ps.length → Op.bytesLess key.toList (fk (rd_L2 ps t)) = true)
    (p : List SP) (hp : ps.getD (k - 1) [] = p) (i : Nat) (hi : i ≤ p.length) (g1 : ∀ t : Nat, t < i → Op.bytesLess (rd_T41 p t).f0.toList key.toList = true) (g2 : ∀ t : Nat, i ≤ t → t < p.length → Op.bytesLess (rd_T41 p t).f0.toList key.toList = false) (hth : i < p.length) (he : ((rd_T41 p i).f0.toList == key.toList) = true) (q : List SP) (hq0 : p.eraseIdx i = q) (P : List (List SP)) (hP0 : ps.set (k - 1) q = P) (hq : q.length = 0) :
    Calls Try.prog 32 #[.slice A ps.length c, .string key] w fun e w' => ∃ (v : Value) (hs : List Hd), e = .returned v ∧ PgM w w' v hs (P.take (k - 1) ++ P.drop (k - 1 + 1)) [] := by
  have HQ0 := Aside0.mk hq0
  have HPP0 := Aside0.mk hP0
  clear hq0 hP0
  have HQL := Aside0.mk hq
  clear hq
  have HL := Aside0.mk hl
  have HC := Aside0.mk hc
  have HR := Aside0.mk hR
  have M0 := Aside0.mk (Mem.nil w)
  have HPP := Aside0.mk hpp
  have hnk : k - 1 < ps.length := by omega
  have hpm : p ∈ ps := by
    have e : ps.getD (k - 1) [] = ps[k - 1] := by simp [List.getD, hnk]
    rw [← hp, e]
    exact List.getElem_mem hnk
  have HPL := Aside0.mk (hpp p hpm)
  have HOF := Aside0.mk (fun (B : Option Addr) (d : Nat) (W : World) (hC : Kd.C (Kd.slice 41 kP) W B ps.length ps) => of_calls B d ps key W hC (by omega) (fun j hj => by
      have e : rd_L2 ps (j : Int) = ps[j] := by unfold rd_L2; simp [List.getD, hj]
      rw [e]
      exact (hpp _ (List.getElem_mem hj)).1) k hk h1 h2)
  have HAT := Aside0.mk (fun (B : Option Addr) (d : Nat) (W : World) (hC : Kd.C kP W B p.length p) => at_calls B d p key W hC (by have := (hpp p hpm).2; omega) i hi g1 g2 true (by rw [decide_eq_true hth, he]; rfl))
  have hnz : ((ps.length : Int) == 0) = false := beq_eq_false_iff_ne.mpr (by omega)
  have hnz2 : ¬ (ps.length : Int) = 0 := by omega
  have HP := Aside0.mk hp
  have HN := Aside0.mk hn
  have HI := Aside0.mk hi
  obtain ⟨n, hnn⟩ : ∃ n, n = k - 1 := ⟨_, rfl⟩
  rw [← hnn] at hnk
  have HNN := Aside0.mk hnn
  clear hl hc hR hpp hpm h1 h2 g1 g2 hp hn hi hk hne hnn
  go_enter Try.func32, Try.ntmps32
  go_wp2_with fail
  refine (page_Right.calls k0 A c ps true _ HL.out HC.out HR.out).mono ?_
  rintro e w1 ⟨rfl, hb⟩
  have M1 := Aside0.mk (M0.out.grow hb)
  clear hb
  go_wp2_with fail
  refine (copied_calls A c ps _ (Kd.C_below HL.out M1.out.below) (by have := HN.out; omega) (fun q hq => by have := (HPP.out q hq).2; omega)).mono ?_
  rintro e w2 ⟨v, hs, rfl, hM⟩
  obtain ⟨B, d, rfl, _, _, hC⟩ := hM.read
  have M2 := Aside0.mk (show PgM w w2 _ hs ps [] from ⟨hM.len, (M1.out.trans hM.mem).reindex id id (fun j r hj => ⟨by simpa using hj, rfl⟩)⟩)
  have HC2 := Aside0.mk hC
  clear hM hC M1 M0
  go_wp2_with fail
  refine (HOF.out B d _ HC2.out).mono ?_
  rintro e w3 ⟨rfl, hM⟩
  have M3 := Aside0.mk (M2.out.grow hM.below)
  clear hM M2 HC2
  obtain ⟨g, cap, hd, he, hhd, hcell, hfr, hg, hmem⟩ := M3.out.open_ n hnk
  cases he
  rw [HNN.out, HP.out, ← HNN.out] at hmem
  obtain ⟨g2, c2, hv2, _, hg2, _⟩ := Kd.R_form (hmem.hold (i := 1) rfl) HPL.out.1
  have hdv : hd = ⟨some ⟨g2, 0, none⟩, p.length, c2⟩ := by
    obtain ⟨a, b, c⟩ := hd
    injection hv2 with e1 e2 e3
    subst e1; subst e2; subst e3; rfl
  subst hdv
  change w3.cell? _ = some (.slice (some ⟨g2, 0, none⟩) p.length c2) at hcell
  have M4 := Aside0.mk hmem
  have HHD := Aside0.mk hhd
  clear hmem hhd hv2
  rw [← HNN.out]
  have hi1 : ((n : Int) < (ps.length : Int)) = True := eq_true (by omega)
  have hi2 : n < ps.length := hnk
  have hnb : n < 1000000 := by have := HN.out; omega
  go_wp2_with fail
  refine (HAT.out (some ⟨g2, 0, none⟩) c2 _ (M4.out.row_C 1 rfl)).mono ?_
  rintro e w4 ⟨rfl, hM⟩
  have M5 := Aside0.mk (M4.out.grow hM.below)
  have hcell4 := (hM.below.cell hg).trans hcell
  have hfr4 := (hM.below.frozen hg).trans hfr
  have hg4 := Nat.lt_of_lt_of_le hg hM.below.size
  have hb4 := Aside0.mk hM.below
  have M3' := Aside0.mk (M3.out.grow hM.below)
  clear hM M3 M4 hcell hfr hg
  have hj1 : ((i : Int) < (p.length : Int)) = True := eq_true (by omega)
  have hj2 : i < p.length := hth
  have hib : i < 1000000 := by have := HPL.out.2; omega
  have HPL8 := Aside0.mk (show p.length ≤ 1000000 by have := HPL.out.2; omega)
  have M6 := Aside0.mk (Mem.sel (ps := [_, _]) (F := inner (hs.take n) (ps.take n) ++ (inner (hs.drop (n + 1)) (ps.drop (n + 1)) ++ [])) [1, 0] 2 M5.out rfl rfl)
  go_wp2_with fail
  refine (delP_calls w _ _ _ p i M6.out hj2 HPL8.out).mono ?_
  rintro e w5 ⟨v', rfl, hM⟩
  rw [HQ0.out] at hM
  obtain ⟨B2, d2, rfl, hcd, _⟩ := hM.row_at 0 rfl
  have M7 := Aside0.mk hM
  obtain ⟨k1, k2, k3, k4⟩ := Mem.hd_cell' hM 1 rfl n hnk
  obtain ⟨ov, k0'⟩ := Option.isSome_iff_exists.1 k1
  have K4 := Aside0.mk k4
  clear hM M5 M6 hcell4 hfr4 hg4 k1 k4 hcd
  go_upto_region 9 with (fail)
  have M8 := Aside0.mk (PgM.shut_ (hs := hs) (ps := ps) (n := n) (F := []) M3'.out.len hnk ⟨B2, q.length, d2⟩ q (Mem.sel (ps := [_, _]) (F := inner (hs.take n) (ps.take n) ++ (inner (hs.drop (n + 1)) (ps.drop (n + 1)) ++ [])) [1, 0] 2 (K4.out ⟨B2, q.length, d2⟩) rfl rfl))
  obtain ⟨wx, hwx⟩ : ∃ wx, w5.setCell ⟨g, n, none⟩ (Hd.v ⟨B2, q.length, d2⟩) = wx := ⟨_, rfl⟩
  rw [hwx] at M8
  change w5.setCell ⟨g, n, none⟩ (.slice B2 q.length d2) = wx at hwx
  rw [hwx]
  have HNN' := Aside0.mk (show ps.set n q = P by rw [HNN.out]; exact HPP0.out)
  rw [HNN'.out] at M8
  have M9 := M8
  clear M8 M7 K4 k0' k2 k3 hwx
  obtain ⟨hs2, hhs2⟩ : ∃ hs2, hs.set n ⟨B2, q.length, d2⟩ = hs2 := ⟨_, rfl⟩
  rw [hhs2] at M9
  have hPl : P.length = ps.length := by rw [← HNN'.out, List.length_set]
  have hPn : P.getD n [] = q := by rw [← HNN'.out]; simp [List.getD, hnk]
  obtain ⟨B3, d3, hcn, _⟩ := PgM.cell M9.out n (by omega)
  rw [hPn] at hcn
  have HPL2 := Aside0.mk hPl
  have HPN := Aside0.mk hPn
  have hgx : g < wx.heap.size := World.block_lt_of_cell? wx _ hcn
  clear hPn hPl hhs2
  have hql : (q.length : Int) = 0 := by have := HQL.out; omega
  have hql2 : ((q.length : Int) == 0) = true := by simp [hql]
  have HNP := Aside0.mk (show n < P.length by have := HPL2.out; omega)
  have HLN := Aside0.mk (show hs2.length ≤ 1000000 by have := M9.out.len; have := HPL2.out; have := HN.out; omega)
  have HLN2 := Aside0.mk (show n < hs2.length by have := M9.out.len; have := HPL2.out; omega)
  go_wp2_with fail
  refine (delH_calls w _ _ _ hs2 n M9.out.mem HLN2.out HLN.out).mono ?_
  rintro e w6 ⟨v6, rfl, hM⟩
  have MA := Aside0.mk hM
  clear hM
  go_wp2_with fail
  go_ret
  rw [← HNN.out]
  exact ⟨_, _, rfl, PgM.drop1 M9.out.len HNP.out rfl MA.out⟩
theorem Del_keep_mid (A : Option Addr) (c : Nat) (ps : List (List SP)) (key : ByteArray) (w : World) (hl : Kd.C (Kd.slice 41 kP) w A ps.length ps) (hc : ps.length ≤ c) (k0 : Nat) (hR : page_Right.f k0 ps = some true) (hne : 0 < ps.length) (hn : ps.length ≤ 100000) (hpp : ∀ p ∈ ps, 0 < p.length ∧ p.length ≤ 8)
    (k : Nat) (hk : k ≤ ps.length) (h1 : ∀ t : Nat, t < k → Op.bytesLess key.toList (fk (rd_L2 ps t)) = false) (h2 : ∀ t : Nat, k ≤ t → t < ps.length → Op.bytesLess key.toList (fk (rd_L2 ps t)) = true)
    (p : List SP) (hp : ps.getD (k - 1) [] = p) (i : Nat) (hi : i ≤ p.length) (g1 : ∀ t : Nat, t < i → Op.bytesLess (rd_T41 p t).f0.toList key.toList = true) (g2 : ∀ t : Nat, i ≤ t → t < p.length → Op.bytesLess (rd_T41 p t).f0.toList key.toList = false) (hth : i < p.length) (he : ((rd_T41 p i).f0.toList == key.toList) = true) (q : List SP) (hq0 : p.eraseIdx i = q) (P : List (List SP)) (hP0 : ps.set (k - 1) q = P) (hq : 0 < q.length) (hmode : k - 1 + 1 < ps.length) (hone : ∀ j, j < P.length → (P.getD j []).length ≤ 1000000) (hsum : 4 < ((P.getD (k - 1) []).length + (P.getD ((k - 1) + 1) []).length)) :
    Calls Try.prog 32 #[.slice A ps.length c, .string key] w fun e w' => ∃ (v : Value) (hs : List Hd), e = .returned v ∧ PgM w w' v hs (P) [] := by
  have HQ0 := Aside0.mk hq0
  have HPP0 := Aside0.mk hP0
  clear hq0 hP0
  have HQL := Aside0.mk hq
  have HMODE := Aside0.mk hmode
  have HSUM := Aside0.mk hsum
  clear hq hmode hsum
  have HONE := Aside0.mk hone
  clear hone
  have HL := Aside0.mk hl
  have HC := Aside0.mk hc
  have HR := Aside0.mk hR
  have M0 := Aside0.mk (Mem.nil w)
  have HPP := Aside0.mk hpp
  have hnk : k - 1 < ps.length := by omega
  have hpm : p ∈ ps := by
    have e : ps.getD (k - 1) [] = ps[k - 1] := by simp [List.getD, hnk]
    rw [← hp, e]
    exact List.getElem_mem hnk
  have HPL := Aside0.mk (hpp p hpm)
  have HOF := Aside0.mk (fun (B : Option Addr) (d : Nat) (W : World) (hC : Kd.C (Kd.slice 41 kP) W B ps.length ps) => of_calls B d ps key W hC (by omega) (fun j hj => by
      have e : rd_L2 ps (j : Int) = ps[j] := by unfold rd_L2; simp [List.getD, hj]
      rw [e]
      exact (hpp _ (List.getElem_mem hj)).1) k hk h1 h2)
  have HAT := Aside0.mk (fun (B : Option Addr) (d : Nat) (W : World) (hC : Kd.C kP W B p.length p) => at_calls B d p key W hC (by have := (hpp p hpm).2; omega) i hi g1 g2 true (by rw [decide_eq_true hth, he]; rfl))
  have hnz : ((ps.length : Int) == 0) = false := beq_eq_false_iff_ne.mpr (by omega)
  have hnz2 : ¬ (ps.length : Int) = 0 := by omega
  have HP := Aside0.mk hp
  have HN := Aside0.mk hn
  have HI := Aside0.mk hi
  obtain ⟨n, hnn⟩ : ∃ n, n = k - 1 := ⟨_, rfl⟩
  rw [← hnn] at hnk
  have HNN := Aside0.mk hnn
  clear hl hc hR hpp hpm h1 h2 g1 g2 hp hn hi hk hne hnn
  go_enter Try.func32, Try.ntmps32
  go_wp2_with fail
  refine (page_Right.calls k0 A c ps true _ HL.out HC.out HR.out).mono ?_
  rintro e w1 ⟨rfl, hb⟩
  have M1 := Aside0.mk (M0.out.grow hb)
  clear hb
  go_wp2_with fail
  refine (copied_calls A c ps _ (Kd.C_below HL.out M1.out.below) (by have := HN.out; omega) (fun q hq => by have := (HPP.out q hq).2; omega)).mono ?_
  rintro e w2 ⟨v, hs, rfl, hM⟩
  obtain ⟨B, d, rfl, _, _, hC⟩ := hM.read
  have M2 := Aside0.mk (show PgM w w2 _ hs ps [] from ⟨hM.len, (M1.out.trans hM.mem).reindex id id (fun j r hj => ⟨by simpa using hj, rfl⟩)⟩)
  have HC2 := Aside0.mk hC
  clear hM hC M1 M0
  go_wp2_with fail
  refine (HOF.out B d _ HC2.out).mono ?_
  rintro e w3 ⟨rfl, hM⟩
  have M3 := Aside0.mk (M2.out.grow hM.below)
  clear hM M2 HC2
  obtain ⟨g, cap, hd, he, hhd, hcell, hfr, hg, hmem⟩ := M3.out.open_ n hnk
  cases he
  rw [HNN.out, HP.out, ← HNN.out] at hmem
  obtain ⟨g2, c2, hv2, _, hg2, _⟩ := Kd.R_form (hmem.hold (i := 1) rfl) HPL.out.1
  have hdv : hd = ⟨some ⟨g2, 0, none⟩, p.length, c2⟩ := by
    obtain ⟨a, b, c⟩ := hd
    injection hv2 with e1 e2 e3
    subst e1; subst e2; subst e3; rfl
  subst hdv
  change w3.cell? _ = some (.slice (some ⟨g2, 0, none⟩) p.length c2) at hcell
  have M4 := Aside0.mk hmem
  have HHD := Aside0.mk hhd
  clear hmem hhd hv2
  rw [← HNN.out]
  have hi1 : ((n : Int) < (ps.length : Int)) = True := eq_true (by omega)
  have hi2 : n < ps.length := hnk
  have hnb : n < 1000000 := by have := HN.out; omega
  go_wp2_with fail
  refine (HAT.out (some ⟨g2, 0, none⟩) c2 _ (M4.out.row_C 1 rfl)).mono ?_
  rintro e w4 ⟨rfl, hM⟩
  have M5 := Aside0.mk (M4.out.grow hM.below)
  have hcell4 := (hM.below.cell hg).trans hcell
  have hfr4 := (hM.below.frozen hg).trans hfr
  have hg4 := Nat.lt_of_lt_of_le hg hM.below.size
  have hb4 := Aside0.mk hM.below
  have M3' := Aside0.mk (M3.out.grow hM.below)
  clear hM M3 M4 hcell hfr hg
  have hj1 : ((i : Int) < (p.length : Int)) = True := eq_true (by omega)
  have hj2 : i < p.length := hth
  have hib : i < 1000000 := by have := HPL.out.2; omega
  have HPL8 := Aside0.mk (show p.length ≤ 1000000 by have := HPL.out.2; omega)
  have M6 := Aside0.mk (Mem.sel (ps := [_, _]) (F := inner (hs.take n) (ps.take n) ++ (inner (hs.drop (n + 1)) (ps.drop (n + 1)) ++ [])) [1, 0] 2 M5.out rfl rfl)
  go_wp2_with fail
  refine (delP_calls w _ _ _ p i M6.out hj2 HPL8.out).mono ?_
  rintro e w5 ⟨v', rfl, hM⟩
  rw [HQ0.out] at hM
  obtain ⟨B2, d2, rfl, hcd, _⟩ := hM.row_at 0 rfl
  have M7 := Aside0.mk hM
  obtain ⟨k1, k2, k3, k4⟩ := Mem.hd_cell' hM 1 rfl n hnk
  obtain ⟨ov, k0'⟩ := Option.isSome_iff_exists.1 k1
  have K4 := Aside0.mk k4
  clear hM M5 M6 hcell4 hfr4 hg4 k1 k4 hcd
  go_upto_region 9 with (fail)
  have M8 := Aside0.mk (PgM.shut_ (hs := hs) (ps := ps) (n := n) (F := []) M3'.out.len hnk ⟨B2, q.length, d2⟩ q (Mem.sel (ps := [_, _]) (F := inner (hs.take n) (ps.take n) ++ (inner (hs.drop (n + 1)) (ps.drop (n + 1)) ++ [])) [1, 0] 2 (K4.out ⟨B2, q.length, d2⟩) rfl rfl))
  obtain ⟨wx, hwx⟩ : ∃ wx, w5.setCell ⟨g, n, none⟩ (Hd.v ⟨B2, q.length, d2⟩) = wx := ⟨_, rfl⟩
  rw [hwx] at M8
  change w5.setCell ⟨g, n, none⟩ (.slice B2 q.length d2) = wx at hwx
  rw [hwx]
  have HNN' := Aside0.mk (show ps.set n q = P by rw [HNN.out]; exact HPP0.out)
  rw [HNN'.out] at M8
  have M9 := M8
  clear M8 M7 K4 k0' k2 k3 hwx
  obtain ⟨hs2, hhs2⟩ : ∃ hs2, hs.set n ⟨B2, q.length, d2⟩ = hs2 := ⟨_, rfl⟩
  rw [hhs2] at M9
  have hPl : P.length = ps.length := by rw [← HNN'.out, List.length_set]
  have hPn : P.getD n [] = q := by rw [← HNN'.out]; simp [List.getD, hnk]
  obtain ⟨B3, d3, hcn, _⟩ := PgM.cell M9.out n (by omega)
  rw [hPn] at hcn
  have HPL2 := Aside0.mk hPl
  have HPN := Aside0.mk hPn
  have hgx : g < wx.heap.size := World.block_lt_of_cell? wx _ hcn
  clear hPn hPl hhs2
  have hql : ¬ (q.length : Int) = 0 := by have := HQL.out; omega
  have hql2 : ((q.length : Int) == 0) = false := beq_eq_false_iff_ne.mpr hql
  have hf1 : ((n : Int) + 1 == (ps.length : Int)) = false := beq_eq_false_iff_ne.mpr (by have := HMODE.out; have := HNN.out; omega)
  have hf2 : ¬ (n : Int) + 1 = (ps.length : Int) := by have := HMODE.out; have := HNN.out; omega
  go_upto_region 14 with (fail)
  obtain ⟨f, hfn⟩ : ∃ f, f = n := ⟨_, rfl⟩
  rw [← hfn]
  have HF := Aside0.mk hfn
  have HF1 := Aside0.mk (show f + 1 < P.length by have := HMODE.out; have := HNN.out; have := HPL2.out; omega)
  obtain ⟨B4, d4, hc4, hh4⟩ := PgM.cell M9.out f (by have := HF1.out; omega)
  obtain ⟨B5, d5, hc5, hh5⟩ := PgM.cell M9.out (f + 1) HF1.out
  have hfl : ((f : Int) < (ps.length : Int)) = True := eq_true (by have := HF1.out; have := HPL2.out; omega)
  have hfl2 : ((f : Int) + 1 < (ps.length : Int)) = True := eq_true (by have := HF1.out; have := HPL2.out; omega)
  have hfl3 : decide ((f : Int) < 0) = false := decide_eq_false (by omega)
  have hfb : f < 1000000 := by have := HF1.out; have := HPL2.out; have := HN.out; omega
  have hlb4 : (P.getD f []).length ≤ 1000000 := HONE.out _ (by have := HF1.out; omega)
  have hlb5 : (P.getD (f + 1) []).length ≤ 1000000 := HONE.out _ HF1.out
  obtain ⟨pf, hpf⟩ : ∃ pf, P.getD f [] = pf := ⟨_, rfl⟩
  obtain ⟨pg, hpg⟩ : ∃ pg, P.getD (f + 1) [] = pg := ⟨_, rfl⟩
  have MO := Aside0.mk (PgM.open2 M9.out f HF1.out hh4 hh5)
  rw [hpf] at hc4 hlb4 MO
  rw [hpg] at hc5 hlb5 MO
  clear hh4 hh5
  have HPF := Aside0.mk hpf
  have HPG := Aside0.mk hpg
  clear hcn hf1 hf2 hfn hpf hpg
  have hfk : f = k - 1 := by have := HF.out; have := HNN.out; omega
  have hs4 : decide (4 < (pf.length : Int) + (pg.length : Int)) = true := decide_eq_true (by have h5 := HSUM.out; rw [← hfk, HPF.out, HPG.out] at h5; omega)
  clear hfk
  go_quiet (fail)
  go_wp2
  go_ret
  exact ⟨_, hs2, rfl, ⟨M9.out.len, M9.out.mem.drewN _⟩⟩
theorem Del_join_mid (A : Option Addr) (c : Nat) (ps : List (List SP)) (key : ByteArray) (w : World) (hl : Kd.C (Kd.slice 41 kP) w A ps.length ps) (hc : ps.length ≤ c) (k0 : Nat) (hR : page_Right.f k0 ps = some true) (hne : 0 < ps.length) (hn : ps.length ≤ 100000) (hpp : ∀ p ∈ ps, 0 < p.length ∧ p.length ≤ 8)
    (k : Nat) (hk : k ≤ ps.length) (h1 : ∀ t : Nat, t < k → Op.bytesLess key.toList (fk (rd_L2 ps t)) = false) (h2 : ∀ t : Nat, k ≤ t → t < ps.length → Op.bytesLess key.toList (fk (rd_L2 ps t)) = true)
    (p : List SP) (hp : ps.getD (k - 1) [] = p) (i : Nat) (hi : i ≤ p.length) (g1 : ∀ t : Nat, t < i → Op.bytesLess (rd_T41 p t).f0.toList key.toList = true) (g2 : ∀ t : Nat, i ≤ t → t < p.length → Op.bytesLess (rd_T41 p t).f0.toList key.toList = false) (hth : i < p.length) (he : ((rd_T41 p i).f0.toList == key.toList) = true) (q : List SP) (hq0 : p.eraseIdx i = q) (P : List (List SP)) (hP0 : ps.set (k - 1) q = P) (hq : 0 < q.length) (hmode : k - 1 + 1 < ps.length) (hone : ∀ j, j < P.length → (P.getD j []).length ≤ 1000000) (hsum : ¬ 4 < ((P.getD (k - 1) []).length + (P.getD ((k - 1) + 1) []).length)) :
    Calls Try.prog 32 #[.slice A ps.length c, .string key] w fun e w' => ∃ (v : Value) (hs : List Hd), e = .returned v ∧ PgM w w' v hs (P.take (k - 1) ++ (P.getD (k - 1) [] ++ P.getD ((k - 1) + 1) []) :: P.drop ((k - 1) + 2)) [] := by
  have HQ0 := Aside0.mk hq0
  have HPP0 := Aside0.mk hP0
  clear hq0 hP0
  have HQL := Aside0.mk hq
  have HMODE := Aside0.mk hmode
  have HSUM := Aside0.mk hsum
  clear hq hmode hsum
  have HONE := Aside0.mk hone
  clear hone
  have HL := Aside0.mk hl
  have HC := Aside0.mk hc
  have HR := Aside0.mk hR
  have M0 := Aside0.mk (Mem.nil w)
  have HPP := Aside0.mk hpp
  have hnk : k - 1 < ps.length := by omega
  have hpm : p ∈ ps := by
    have e : ps.getD (k - 1) [] = ps[k - 1] := by simp [List.getD, hnk]
    rw [← hp, e]
    exact List.getElem_mem hnk
  have HPL := Aside0.mk (hpp p hpm)
  have HOF := Aside0.mk (fun (B : Option Addr) (d : Nat) (W : World) (hC : Kd.C (Kd.slice 41 kP) W B ps.length ps) => of_calls B d ps key W hC (by omega) (fun j hj => by
      have e : rd_L2 ps (j : Int) = ps[j] := by unfold rd_L2; simp [List.getD, hj]
      rw [e]
      exact (hpp _ (List.getElem_mem hj)).1) k hk h1 h2)
  have HAT := Aside0.mk (fun (B : Option Addr) (d : Nat) (W : World) (hC : Kd.C kP W B p.length p) => at_calls B d p key W hC (by have := (hpp p hpm).2; omega) i hi g1 g2 true (by rw [decide_eq_true hth, he]; rfl))
  have hnz : ((ps.length : Int) == 0) = false := beq_eq_false_iff_ne.mpr (by omega)
  have hnz2 : ¬ (ps.length : Int) = 0 := by omega
  have HP := Aside0.mk hp
  have HN := Aside0.mk hn
  have HI := Aside0.mk hi
  obtain ⟨n, hnn⟩ : ∃ n, n = k - 1 := ⟨_, rfl⟩
  rw [← hnn] at hnk
  have HNN := Aside0.mk hnn
  clear hl hc hR hpp hpm h1 h2 g1 g2 hp hn hi hk hne hnn
  go_enter Try.func32, Try.ntmps32
  go_wp2_with fail
  refine (page_Right.calls k0 A c ps true _ HL.out HC.out HR.out).mono ?_
  rintro e w1 ⟨rfl, hb⟩
  have M1 := Aside0.mk (M0.out.grow hb)
  clear hb
  go_wp2_with fail
  refine (copied_calls A c ps _ (Kd.C_below HL.out M1.out.below) (by have := HN.out; omega) (fun q hq => by have := (HPP.out q hq).2; omega)).mono ?_
  rintro e w2 ⟨v, hs, rfl, hM⟩
  obtain ⟨B, d, rfl, _, _, hC⟩ := hM.read
  have M2 := Aside0.mk (show PgM w w2 _ hs ps [] from ⟨hM.len, (M1.out.trans hM.mem).reindex id id (fun j r hj => ⟨by simpa using hj, rfl⟩)⟩)
  have HC2 := Aside0.mk hC
  clear hM hC M1 M0
  go_wp2_with fail
  refine (HOF.out B d _ HC2.out).mono ?_
  rintro e w3 ⟨rfl, hM⟩
  have M3 := Aside0.mk (M2.out.grow hM.below)
  clear hM M2 HC2
  obtain ⟨g, cap, hd, he, hhd, hcell, hfr, hg, hmem⟩ := M3.out.open_ n hnk
  cases he
  rw [HNN.out, HP.out, ← HNN.out] at hmem
  obtain ⟨g2, c2, hv2, _, hg2, _⟩ := Kd.R_form (hmem.hold (i := 1) rfl) HPL.out.1
  have hdv : hd = ⟨some ⟨g2, 0, none⟩, p.length, c2⟩ := by
    obtain ⟨a, b, c⟩ := hd
    injection hv2 with e1 e2 e3
    subst e1; subst e2; subst e3; rfl
  subst hdv
  change w3.cell? _ = some (.slice (some ⟨g2, 0, none⟩) p.length c2) at hcell
  have M4 := Aside0.mk hmem
  have HHD := Aside0.mk hhd
  clear hmem hhd hv2
  rw [← HNN.out]
  have hi1 : ((n : Int) < (ps.length : Int)) = True := eq_true (by omega)
  have hi2 : n < ps.length := hnk
  have hnb : n < 1000000 := by have := HN.out; omega
  go_wp2_with fail
  refine (HAT.out (some ⟨g2, 0, none⟩) c2 _ (M4.out.row_C 1 rfl)).mono ?_
  rintro e w4 ⟨rfl, hM⟩
  have M5 := Aside0.mk (M4.out.grow hM.below)
  have hcell4 := (hM.below.cell hg).trans hcell
  have hfr4 := (hM.below.frozen hg).trans hfr
  have hg4 := Nat.lt_of_lt_of_le hg hM.below.size
  have hb4 := Aside0.mk hM.below
  have M3' := Aside0.mk (M3.out.grow hM.below)
  clear hM M3 M4 hcell hfr hg
  have hj1 : ((i : Int) < (p.length : Int)) = True := eq_true (by omega)
  have hj2 : i < p.length := hth
  have hib : i < 1000000 := by have := HPL.out.2; omega
  have HPL8 := Aside0.mk (show p.length ≤ 1000000 by have := HPL.out.2; omega)
  have M6 := Aside0.mk (Mem.sel (ps := [_, _]) (F := inner (hs.take n) (ps.take n) ++ (inner (hs.drop (n + 1)) (ps.drop (n + 1)) ++ [])) [1, 0] 2 M5.out rfl rfl)
  go_wp2_with fail
  refine (delP_calls w _ _ _ p i M6.out hj2 HPL8.out).mono ?_
  rintro e w5 ⟨v', rfl, hM⟩
  rw [HQ0.out] at hM
  obtain ⟨B2, d2, rfl, hcd, _⟩ := hM.row_at 0 rfl
  have M7 := Aside0.mk hM
  obtain ⟨k1, k2, k3, k4⟩ := Mem.hd_cell' hM 1 rfl n hnk
  obtain ⟨ov, k0'⟩ := Option.isSome_iff_exists.1 k1
  have K4 := Aside0.mk k4
  clear hM M5 M6 hcell4 hfr4 hg4 k1 k4 hcd
  go_upto_region 9 with (fail)
  have M8 := Aside0.mk (PgM.shut_ (hs := hs) (ps := ps) (n := n) (F := []) M3'.out.len hnk ⟨B2, q.length, d2⟩ q (Mem.sel (ps := [_, _]) (F := inner (hs.take n) (ps.take n) ++ (inner (hs.drop (n + 1)) (ps.drop (n + 1)) ++ [])) [1, 0] 2 (K4.out ⟨B2, q.length, d2⟩) rfl rfl))
  obtain ⟨wx, hwx⟩ : ∃ wx, w5.setCell ⟨g, n, none⟩ (Hd.v ⟨B2, q.length, d2⟩) = wx := ⟨_, rfl⟩
  rw [hwx] at M8
  change w5.setCell ⟨g, n, none⟩ (.slice B2 q.length d2) = wx at hwx
  rw [hwx]
  have HNN' := Aside0.mk (show ps.set n q = P by rw [HNN.out]; exact HPP0.out)
  rw [HNN'.out] at M8
  have M9 := M8
  clear M8 M7 K4 k0' k2 k3 hwx
  obtain ⟨hs2, hhs2⟩ : ∃ hs2, hs.set n ⟨B2, q.length, d2⟩ = hs2 := ⟨_, rfl⟩
  rw [hhs2] at M9
  have hPl : P.length = ps.length := by rw [← HNN'.out, List.length_set]
  have hPn : P.getD n [] = q := by rw [← HNN'.out]; simp [List.getD, hnk]
  obtain ⟨B3, d3, hcn, _⟩ := PgM.cell M9.out n (by omega)
  rw [hPn] at hcn
  have HPL2 := Aside0.mk hPl
  have HPN := Aside0.mk hPn
  have hgx : g < wx.heap.size := World.block_lt_of_cell? wx _ hcn
  clear hPn hPl hhs2
  have hql : ¬ (q.length : Int) = 0 := by have := HQL.out; omega
  have hql2 : ((q.length : Int) == 0) = false := beq_eq_false_iff_ne.mpr hql
  have hf1 : ((n : Int) + 1 == (ps.length : Int)) = false := beq_eq_false_iff_ne.mpr (by have := HMODE.out; have := HNN.out; omega)
  have hf2 : ¬ (n : Int) + 1 = (ps.length : Int) := by have := HMODE.out; have := HNN.out; omega
  go_upto_region 14 with (fail)
  obtain ⟨f, hfn⟩ : ∃ f, f = n := ⟨_, rfl⟩
  rw [← hfn]
  have HF := Aside0.mk hfn
  have HF1 := Aside0.mk (show f + 1 < P.length by have := HMODE.out; have := HNN.out; have := HPL2.out; omega)
  obtain ⟨B4, d4, hc4, hh4⟩ := PgM.cell M9.out f (by have := HF1.out; omega)
  obtain ⟨B5, d5, hc5, hh5⟩ := PgM.cell M9.out (f + 1) HF1.out
  have hfl : ((f : Int) < (ps.length : Int)) = True := eq_true (by have := HF1.out; have := HPL2.out; omega)
  have hfl2 : ((f : Int) + 1 < (ps.length : Int)) = True := eq_true (by have := HF1.out; have := HPL2.out; omega)
  have hfl3 : decide ((f : Int) < 0) = false := decide_eq_false (by omega)
  have hfb : f < 1000000 := by have := HF1.out; have := HPL2.out; have := HN.out; omega
  have hlb4 : (P.getD f []).length ≤ 1000000 := HONE.out _ (by have := HF1.out; omega)
  have hlb5 : (P.getD (f + 1) []).length ≤ 1000000 := HONE.out _ HF1.out
  obtain ⟨pf, hpf⟩ : ∃ pf, P.getD f [] = pf := ⟨_, rfl⟩
  obtain ⟨pg, hpg⟩ : ∃ pg, P.getD (f + 1) [] = pg := ⟨_, rfl⟩
  have MO := Aside0.mk (PgM.open2 M9.out f HF1.out hh4 hh5)
  rw [hpf] at hc4 hlb4 MO
  rw [hpg] at hc5 hlb5 MO
  clear hh4 hh5
  have HPF := Aside0.mk hpf
  have HPG := Aside0.mk hpg
  clear hcn hf1 hf2 hfn hpf hpg
  have hfk : f = k - 1 := by have := HF.out; have := HNN.out; omega
  have hs4 : decide (4 < (pf.length : Int) + (pg.length : Int)) = false := decide_eq_false (by have h5 := HSUM.out; rw [← hfk, HPF.out, HPG.out] at h5; omega)
  have hl4 : pf.length + pg.length ≤ 4 := by have h5 := HSUM.out; rw [← hfk, HPF.out, HPG.out] at h5; omega
  have HFK := Aside0.mk hfk
  clear hfk
  go_quiet (fail)
  obtain ⟨pp, hpp1⟩ : ∃ pp, pf ++ pg = pp := ⟨_, rfl⟩
  have HPP1 := Aside0.mk hpp1
  clear hpp1
  have hHL := Aside0.mk (show ps.length = hs2.length by have := M9.out.len; have := HPL2.out; omega)
  go_upto_region 16 with (fail)
  have hwr : IntKind.i64.wrap ((f : Int) + 1) = (f : Int) + 1 := by rw [IntKind.wrap_i64]; omega
  have hwr0 : (0 : Int) ≤ (f : Int) + 1 := by omega
  have hwrn : ((f : Int) + 1).toNat = f + 1 := by omega
  go_region_law (refine Mem.app_step kP (MO.out.drewN _).drew 1 _ pf pg (by rfl) (.tmp 88) (.tmp 93) 32 41 _ _ rfl Try.underlying32 info41 rfl (by decide) (by omega) B5 _ d5 (by first | (simp [Act.eval, Act.put]; done) | (simp [Act.eval, Act.put]; rfl)) (by first | (simp [Act.eval, Act.put]; done) | (simp [Act.eval, Act.put]; rfl)) rfl ((MO.out.drewN _).drew.row_C 2 rfl) (fun x cs h => by obtain rfl := flatP.rd_ h; exact flatP.mk_ _ _ _ x) (by omega) ?_; intro v1 w1 hM1; rw [HPP1.out] at hM1; obtain ⟨B6, d6, e6, hc6, _⟩ := hM1.row_at 1 rfl; subst e6; have MP := Aside0.mk hM1; clear hM1; obtain ⟨k1, k2, k3, k4⟩ := Mem.hd_cell' MP.out 0 rfl f (by have := HF1.out; have := HPL2.out; omega); obtain ⟨ov, k0'⟩ := Option.isSome_iff_exists.1 k1; have K4 := Aside0.mk k4; clear k4 k1 hc6)
  all_goals
    have MQ := Aside0.mk (K4.out ⟨B6, pp.length, d6⟩)
    have XD := Aside0.mk (fun (W : World) (R : List Res) (hm : Mem w W (row kH 32 (.slice (some ⟨g, 0, none⟩) ps.length d) (hs2.set f ⟨B6, pp.length, d6⟩) :: R)) => by
      have h := delH_calls w W R _ (hs2.set f ⟨B6, pp.length, d6⟩) (f + 1) hm (by rw [List.length_set, ← hHL.out]; have := HF1.out; have := HPL2.out; omega) (by rw [List.length_set, ← hHL.out]; have := HN.out; omega)
      rw [show ((f + 1 : Nat) : Int) = (f : Int) + 1 by omega, show (f : Int) + 1 + 1 = (f : Int) + 2 by omega] at h
      exact h)
    have hfb2 : (f : Int) + 2 ≤ 1000002 := by omega
    clear hwr hwr0 hwrn K4
    go_wp2_with fail
    refine (XD.out _ _ MQ.out).mono ?_
    rintro e w6 ⟨v6, rfl, hM⟩
    rw [join_list _ _ _ (by rw [← hHL.out]; have := HF1.out; have := HPL2.out; omega)] at hM
    have MR := Aside0.mk hM
    clear hM MQ
    go_wp2_with fail
    go_ret
    refine ⟨_, hs2.take f ++ ⟨B6, pp.length, d6⟩ :: hs2.drop (f + 2), rfl, ?_⟩
    rw [← HFK.out, HPF.out, HPG.out, HPP1.out]
    refine ⟨?_, ?_⟩
    · have h5 := M9.out.len
      simp only [List.length_append, List.length_cons, List.length_take, List.length_drop, h5]
    · have h1 := Mem.sel (ps := [_, _, _]) (F := inner (hs2.take f) (P.take f) ++ (inner (hs2.drop (f + 2)) (P.drop (f + 2)) ++ [])) [0, 1] 3 MR.out rfl rfl
      have h2 := Mem.to_mid (l := inner (hs2.take f) (P.take f)) (F := inner (hs2.drop (f + 2)) (P.drop (f + 2)) ++ []) h1
      rw [inner_app (by rw [List.length_take, List.length_take, M9.out.len]), inner_cons, List.append_assoc]
      exact h2
theorem Del_keep_last (A : Option Addr) (c : Nat) (ps : List (List SP)) (key : ByteArray) (w : World) (hl : Kd.C (Kd.slice 41 kP) w A ps.length ps) (hc : ps.length ≤ c) (k0 : Nat) (hR : page_Right.f k0 ps = some true) (hne : 0 < ps.length) (hn : ps.length ≤ 100000) (hpp : ∀ p ∈ ps, 0 < p.length ∧ p.length ≤ 8)
    (k : Nat) (hk : k ≤ ps.length) (h1 : ∀ t : Nat, t < k → Op.bytesLess key.toList (fk (rd_L2 ps t)) = false) (h2 : ∀ t : Nat, k ≤ t → t < ps.length → Op.bytesLess key.toList (fk (rd_L2 ps t)) = true)
    (p : List SP) (hp : ps.getD (k - 1) [] = p) (i : Nat) (hi : i ≤ p.length) (g1 : ∀ t : Nat, t < i → Op.bytesLess (rd_T41 p t).f0.toList key.toList = true) (g2 : ∀ t : Nat, i ≤ t → t < p.length → Op.bytesLess (rd_T41 p t).f0.toList key.toList = false) (hth : i < p.length) (he : ((rd_T41 p i).f0.toList == key.toList) = true) (q : List SP) (hq0 : p.eraseIdx i = q) (P : List (List SP)) (hP0 : ps.set (k - 1) q = P) (hq : 0 < q.length) (hmode : k - 1 + 1 = ps.length ∧ 0 < k - 1) (hone : ∀ j, j < P.length → (P.getD j []).length ≤ 1000000) (hsum : 4 < ((P.getD (k - 1 - 1) []).length + (P.getD ((k - 1 - 1) + 1) []).length)) :
    Calls Try.prog 32 #[.slice A ps.length c, .string key] w fun e w' => ∃ (v : Value) (hs : List Hd), e = .returned v ∧ PgM w w' v hs (P) [] := by
  have HQ0 := Aside0.mk hq0
  have HPP0 := Aside0.mk hP0
  clear hq0 hP0
  have HQL := Aside0.mk hq
  have HMODE := Aside0.mk hmode
  have HSUM := Aside0.mk hsum
  clear hq hmode hsum
  have HONE := Aside0.mk hone
  clear hone
  have HL := Aside0.mk hl
  have HC := Aside0.mk hc
  have HR := Aside0.mk hR
  have M0 := Aside0.mk (Mem.nil w)
  have HPP := Aside0.mk hpp
  have hnk : k - 1 < ps.length := by omega
  have hpm : p ∈ ps := by
    have e : ps.getD (k - 1) [] = ps[k - 1] := by simp [List.getD, hnk]
    rw [← hp, e]
    exact List.getElem_mem hnk
  have HPL := Aside0.mk (hpp p hpm)
  have HOF := Aside0.mk (fun (B : Option Addr) (d : Nat) (W : World) (hC : Kd.C (Kd.slice 41 kP) W B ps.length ps) => of_calls B d ps key W hC (by omega) (fun j hj => by
      have e : rd_L2 ps (j : Int) = ps[j] := by unfold rd_L2; simp [List.getD, hj]
      rw [e]
      exact (hpp _ (List.getElem_mem hj)).1) k hk h1 h2)
  have HAT := Aside0.mk (fun (B : Option Addr) (d : Nat) (W : World) (hC : Kd.C kP W B p.length p) => at_calls B d p key W hC (by have := (hpp p hpm).2; omega) i hi g1 g2 true (by rw [decide_eq_true hth, he]; rfl))
  have hnz : ((ps.length : Int) == 0) = false := beq_eq_false_iff_ne.mpr (by omega)
  have hnz2 : ¬ (ps.length : Int) = 0 := by omega
  have HP := Aside0.mk hp
  have HN := Aside0.mk hn
  have HI := Aside0.mk hi
  obtain ⟨n, hnn⟩ : ∃ n, n = k - 1 := ⟨_, rfl⟩
  rw [← hnn] at hnk
  have HNN := Aside0.mk hnn
  clear hl hc hR hpp hpm h1 h2 g1 g2 hp hn hi hk hne hnn
  go_enter Try.func32, Try.ntmps32
  go_wp2_with fail
  refine (page_Right.calls k0 A c ps true _ HL.out HC.out HR.out).mono ?_
  rintro e w1 ⟨rfl, hb⟩
  have M1 := Aside0.mk (M0.out.grow hb)
  clear hb
  go_wp2_with fail
  refine (copied_calls A c ps _ (Kd.C_below HL.out M1.out.below) (by have := HN.out; omega) (fun q hq => by have := (HPP.out q hq).2; omega)).mono ?_
  rintro e w2 ⟨v, hs, rfl, hM⟩
  obtain ⟨B, d, rfl, _, _, hC⟩ := hM.read
  have M2 := Aside0.mk (show PgM w w2 _ hs ps [] from ⟨hM.len, (M1.out.trans hM.mem).reindex id id (fun j r hj => ⟨by simpa using hj, rfl⟩)⟩)
  have HC2 := Aside0.mk hC
  clear hM hC M1 M0
  go_wp2_with fail
  refine (HOF.out B d _ HC2.out).mono ?_
  rintro e w3 ⟨rfl, hM⟩
  have M3 := Aside0.mk (M2.out.grow hM.below)
  clear hM M2 HC2
  obtain ⟨g, cap, hd, he, hhd, hcell, hfr, hg, hmem⟩ := M3.out.open_ n hnk
  cases he
  rw [HNN.out, HP.out, ← HNN.out] at hmem
  obtain ⟨g2, c2, hv2, _, hg2, _⟩ := Kd.R_form (hmem.hold (i := 1) rfl) HPL.out.1
  have hdv : hd = ⟨some ⟨g2, 0, none⟩, p.length, c2⟩ := by
    obtain ⟨a, b, c⟩ := hd
    injection hv2 with e1 e2 e3
    subst e1; subst e2; subst e3; rfl
  subst hdv
  change w3.cell? _ = some (.slice (some ⟨g2, 0, none⟩) p.length c2) at hcell
  have M4 := Aside0.mk hmem
  have HHD := Aside0.mk hhd
  clear hmem hhd hv2
  rw [← HNN.out]
  have hi1 : ((n : Int) < (ps.length : Int)) = True := eq_true (by omega)
  have hi2 : n < ps.length := hnk
  have hnb : n < 1000000 := by have := HN.out; omega
  go_wp2_with fail
  refine (HAT.out (some ⟨g2, 0, none⟩) c2 _ (M4.out.row_C 1 rfl)).mono ?_
  rintro e w4 ⟨rfl, hM⟩
  have M5 := Aside0.mk (M4.out.grow hM.below)
  have hcell4 := (hM.below.cell hg).trans hcell
  have hfr4 := (hM.below.frozen hg).trans hfr
  have hg4 := Nat.lt_of_lt_of_le hg hM.below.size
  have hb4 := Aside0.mk hM.below
  have M3' := Aside0.mk (M3.out.grow hM.below)
  clear hM M3 M4 hcell hfr hg
  have hj1 : ((i : Int) < (p.length : Int)) = True := eq_true (by omega)
  have hj2 : i < p.length := hth
  have hib : i < 1000000 := by have := HPL.out.2; omega
  have HPL8 := Aside0.mk (show p.length ≤ 1000000 by have := HPL.out.2; omega)
  have M6 := Aside0.mk (Mem.sel (ps := [_, _]) (F := inner (hs.take n) (ps.take n) ++ (inner (hs.drop (n + 1)) (ps.drop (n + 1)) ++ [])) [1, 0] 2 M5.out rfl rfl)
  go_wp2_with fail
  refine (delP_calls w _ _ _ p i M6.out hj2 HPL8.out).mono ?_
  rintro e w5 ⟨v', rfl, hM⟩
  rw [HQ0.out] at hM
  obtain ⟨B2, d2, rfl, hcd, _⟩ := hM.row_at 0 rfl
  have M7 := Aside0.mk hM
  obtain ⟨k1, k2, k3, k4⟩ := Mem.hd_cell' hM 1 rfl n hnk
  obtain ⟨ov, k0'⟩ := Option.isSome_iff_exists.1 k1
  have K4 := Aside0.mk k4
  clear hM M5 M6 hcell4 hfr4 hg4 k1 k4 hcd
  go_upto_region 9 with (fail)
  have M8 := Aside0.mk (PgM.shut_ (hs := hs) (ps := ps) (n := n) (F := []) M3'.out.len hnk ⟨B2, q.length, d2⟩ q (Mem.sel (ps := [_, _]) (F := inner (hs.take n) (ps.take n) ++ (inner (hs.drop (n + 1)) (ps.drop (n + 1)) ++ [])) [1, 0] 2 (K4.out ⟨B2, q.length, d2⟩) rfl rfl))
  obtain ⟨wx, hwx⟩ : ∃ wx, w5.setCell ⟨g, n, none⟩ (Hd.v ⟨B2, q.length, d2⟩) = wx := ⟨_, rfl⟩
  rw [hwx] at M8
  change w5.setCell ⟨g, n, none⟩ (.slice B2 q.length d2) = wx at hwx
  rw [hwx]
  have HNN' := Aside0.mk (show ps.set n q = P by rw [HNN.out]; exact HPP0.out)
  rw [HNN'.out] at M8
  have M9 := M8
  clear M8 M7 K4 k0' k2 k3 hwx
  obtain ⟨hs2, hhs2⟩ : ∃ hs2, hs.set n ⟨B2, q.length, d2⟩ = hs2 := ⟨_, rfl⟩
  rw [hhs2] at M9
  have hPl : P.length = ps.length := by rw [← HNN'.out, List.length_set]
  have hPn : P.getD n [] = q := by rw [← HNN'.out]; simp [List.getD, hnk]
  obtain ⟨B3, d3, hcn, _⟩ := PgM.cell M9.out n (by omega)
  rw [hPn] at hcn
  have HPL2 := Aside0.mk hPl
  have HPN := Aside0.mk hPn
  have hgx : g < wx.heap.size := World.block_lt_of_cell? wx _ hcn
  clear hPn hPl hhs2
  have hql : ¬ (q.length : Int) = 0 := by have := HQL.out; omega
  have hql2 : ((q.length : Int) == 0) = false := beq_eq_false_iff_ne.mpr hql
  have hf1 : ((n : Int) + 1 == (ps.length : Int)) = true := by have := HMODE.out; have := HNN.out; simp; omega
  have hf2 : (n : Int) + 1 = (ps.length : Int) := by have := HMODE.out; have := HNN.out; omega
  go_upto_region 14 with (fail)
  obtain ⟨f, hfn⟩ : ∃ f, f + 1 = n := ⟨n - 1, by have := HMODE.out; have := HNN.out; omega⟩
  rw [show (n : Int) - 1 = (f : Int) by omega]
  have HF := Aside0.mk hfn
  have HF1 := Aside0.mk (show f + 1 < P.length by have := HMODE.out; have := HNN.out; have := HPL2.out; omega)
  obtain ⟨B4, d4, hc4, hh4⟩ := PgM.cell M9.out f (by have := HF1.out; omega)
  obtain ⟨B5, d5, hc5, hh5⟩ := PgM.cell M9.out (f + 1) HF1.out
  have hfl : ((f : Int) < (ps.length : Int)) = True := eq_true (by have := HF1.out; have := HPL2.out; omega)
  have hfl2 : ((f : Int) + 1 < (ps.length : Int)) = True := eq_true (by have := HF1.out; have := HPL2.out; omega)
  have hfl3 : decide ((f : Int) < 0) = false := decide_eq_false (by omega)
  have hfb : f < 1000000 := by have := HF1.out; have := HPL2.out; have := HN.out; omega
  have hlb4 : (P.getD f []).length ≤ 1000000 := HONE.out _ (by have := HF1.out; omega)
  have hlb5 : (P.getD (f + 1) []).length ≤ 1000000 := HONE.out _ HF1.out
  obtain ⟨pf, hpf⟩ : ∃ pf, P.getD f [] = pf := ⟨_, rfl⟩
  obtain ⟨pg, hpg⟩ : ∃ pg, P.getD (f + 1) [] = pg := ⟨_, rfl⟩
  have MO := Aside0.mk (PgM.open2 M9.out f HF1.out hh4 hh5)
  rw [hpf] at hc4 hlb4 MO
  rw [hpg] at hc5 hlb5 MO
  clear hh4 hh5
  have HPF := Aside0.mk hpf
  have HPG := Aside0.mk hpg
  clear hcn hf1 hf2 hfn hpf hpg
  have hfk : f = k - 1 - 1 := by have := HF.out; have := HNN.out; omega
  have hs4 : decide (4 < (pf.length : Int) + (pg.length : Int)) = true := decide_eq_true (by have h5 := HSUM.out; rw [← hfk, HPF.out, HPG.out] at h5; omega)
  clear hfk
  go_quiet (fail)
  go_wp2
  go_ret
  exact ⟨_, hs2, rfl, ⟨M9.out.len, M9.out.mem.drewN _⟩⟩
theorem Del_join_last (A : Option Addr) (c : Nat) (ps : List (List SP)) (key : ByteArray) (w : World) (hl : Kd.C (Kd.slice 41 kP) w A ps.length ps) (hc : ps.length ≤ c) (k0 : Nat) (hR : page_Right.f k0 ps = some true) (hne : 0 < ps.length) (hn : ps.length ≤ 100000) (hpp : ∀ p ∈ ps, 0 < p.length ∧ p.length ≤ 8)
    (k : Nat) (hk : k ≤ ps.length) (h1 : ∀ t : Nat, t < k → Op.bytesLess key.toList (fk (rd_L2 ps t)) = false) (h2 : ∀ t : Nat, k ≤ t → t < ps.length → Op.bytesLess key.toList (fk (rd_L2 ps t)) = true)
    (p : List SP) (hp : ps.getD (k - 1) [] = p) (i : Nat) (hi : i ≤ p.length) (g1 : ∀ t : Nat, t < i → Op.bytesLess (rd_T41 p t).f0.toList key.toList = true) (g2 : ∀ t : Nat, i ≤ t → t < p.length → Op.bytesLess (rd_T41 p t).f0.toList key.toList = false) (hth : i < p.length) (he : ((rd_T41 p i).f0.toList == key.toList) = true) (q : List SP) (hq0 : p.eraseIdx i = q) (P : List (List SP)) (hP0 : ps.set (k - 1) q = P) (hq : 0 < q.length) (hmode : k - 1 + 1 = ps.length ∧ 0 < k - 1) (hone : ∀ j, j < P.length → (P.getD j []).length ≤ 1000000) (hsum : ¬ 4 < ((P.getD (k - 1 - 1) []).length + (P.getD ((k - 1 - 1) + 1) []).length)) :
    Calls Try.prog 32 #[.slice A ps.length c, .string key] w fun e w' => ∃ (v : Value) (hs : List Hd), e = .returned v ∧ PgM w w' v hs (P.take (k - 1 - 1) ++ (P.getD (k - 1 - 1) [] ++ P.getD ((k - 1 - 1) + 1) []) :: P.drop ((k - 1 - 1) + 2)) [] := by
  have HQ0 := Aside0.mk hq0
  have HPP0 := Aside0.mk hP0
  clear hq0 hP0
  have HQL := Aside0.mk hq
  have HMODE := Aside0.mk hmode
  have HSUM := Aside0.mk hsum
  clear hq hmode hsum
  have HONE := Aside0.mk hone
  clear hone
  have HL := Aside0.mk hl
  have HC := Aside0.mk hc
  have HR := Aside0.mk hR
  have M0 := Aside0.mk (Mem.nil w)
  have HPP := Aside0.mk hpp
  have hnk : k - 1 < ps.length := by omega
  have hpm : p ∈ ps := by
    have e : ps.getD (k - 1) [] = ps[k - 1] := by simp [List.getD, hnk]
    rw [← hp, e]
    exact List.getElem_mem hnk
  have HPL := Aside0.mk (hpp p hpm)
  have HOF := Aside0.mk (fun (B : Option Addr) (d : Nat) (W : World) (hC : Kd.C (Kd.slice 41 kP) W B ps.length ps) => of_calls B d ps key W hC (by omega) (fun j hj => by
      have e : rd_L2 ps (j : Int) = ps[j] := by unfold rd_L2; simp [List.getD, hj]
      rw [e]
      exact (hpp _ (List.getElem_mem hj)).1) k hk h1 h2)
  have HAT := Aside0.mk (fun (B : Option Addr) (d : Nat) (W : World) (hC : Kd.C kP W B p.length p) => at_calls B d p key W hC (by have := (hpp p hpm).2; omega) i hi g1 g2 true (by rw [decide_eq_true hth, he]; rfl))
  have hnz : ((ps.length : Int) == 0) = false := beq_eq_false_iff_ne.mpr (by omega)
  have hnz2 : ¬ (ps.length : Int) = 0 := by omega
  have HP := Aside0.mk hp
  have HN := Aside0.mk hn
  have HI := Aside0.mk hi
  obtain ⟨n, hnn⟩ : ∃ n, n = k - 1 := ⟨_, rfl⟩
  rw [← hnn] at hnk
  have HNN := Aside0.mk hnn
  clear hl hc hR hpp hpm h1 h2 g1 g2 hp hn hi hk hne hnn
  go_enter Try.func32, Try.ntmps32
  go_wp2_with fail
  refine (page_Right.calls k0 A c ps true _ HL.out HC.out HR.out).mono ?_
  rintro e w1 ⟨rfl, hb⟩
  have M1 := Aside0.mk (M0.out.grow hb)
  clear hb
  go_wp2_with fail
  refine (copied_calls A c ps _ (Kd.C_below HL.out M1.out.below) (by have := HN.out; omega) (fun q hq => by have := (HPP.out q hq).2; omega)).mono ?_
  rintro e w2 ⟨v, hs, rfl, hM⟩
  obtain ⟨B, d, rfl, _, _, hC⟩ := hM.read
  have M2 := Aside0.mk (show PgM w w2 _ hs ps [] from ⟨hM.len, (M1.out.trans hM.mem).reindex id id (fun j r hj => ⟨by simpa using hj, rfl⟩)⟩)
  have HC2 := Aside0.mk hC
  clear hM hC M1 M0
  go_wp2_with fail
  refine (HOF.out B d _ HC2.out).mono ?_
  rintro e w3 ⟨rfl, hM⟩
  have M3 := Aside0.mk (M2.out.grow hM.below)
  clear hM M2 HC2
  obtain ⟨g, cap, hd, he, hhd, hcell, hfr, hg, hmem⟩ := M3.out.open_ n hnk
  cases he
  rw [HNN.out, HP.out, ← HNN.out] at hmem
  obtain ⟨g2, c2, hv2, _, hg2, _⟩ := Kd.R_form (hmem.hold (i := 1) rfl) HPL.out.1
  have hdv : hd = ⟨some ⟨g2, 0, none⟩, p.length, c2⟩ := by
    obtain ⟨a, b, c⟩ := hd
    injection hv2 with e1 e2 e3
    subst e1; subst e2; subst e3; rfl
  subst hdv
  change w3.cell? _ = some (.slice (some ⟨g2, 0, none⟩) p.length c2) at hcell
  have M4 := Aside0.mk hmem
  have HHD := Aside0.mk hhd
  clear hmem hhd hv2
  rw [← HNN.out]
  have hi1 : ((n : Int) < (ps.length : Int)) = True := eq_true (by omega)
  have hi2 : n < ps.length := hnk
  have hnb : n < 1000000 := by have := HN.out; omega
  go_wp2_with fail
  refine (HAT.out (some ⟨g2, 0, none⟩) c2 _ (M4.out.row_C 1 rfl)).mono ?_
  rintro e w4 ⟨rfl, hM⟩
  have M5 := Aside0.mk (M4.out.grow hM.below)
  have hcell4 := (hM.below.cell hg).trans hcell
  have hfr4 := (hM.below.frozen hg).trans hfr
  have hg4 := Nat.lt_of_lt_of_le hg hM.below.size
  have hb4 := Aside0.mk hM.below
  have M3' := Aside0.mk (M3.out.grow hM.below)
  clear hM M3 M4 hcell hfr hg
  have hj1 : ((i : Int) < (p.length : Int)) = True := eq_true (by omega)
  have hj2 : i < p.length := hth
  have hib : i < 1000000 := by have := HPL.out.2; omega
  have HPL8 := Aside0.mk (show p.length ≤ 1000000 by have := HPL.out.2; omega)
  have M6 := Aside0.mk (Mem.sel (ps := [_, _]) (F := inner (hs.take n) (ps.take n) ++ (inner (hs.drop (n + 1)) (ps.drop (n + 1)) ++ [])) [1, 0] 2 M5.out rfl rfl)
  go_wp2_with fail
  refine (delP_calls w _ _ _ p i M6.out hj2 HPL8.out).mono ?_
  rintro e w5 ⟨v', rfl, hM⟩
  rw [HQ0.out] at hM
  obtain ⟨B2, d2, rfl, hcd, _⟩ := hM.row_at 0 rfl
  have M7 := Aside0.mk hM
  obtain ⟨k1, k2, k3, k4⟩ := Mem.hd_cell' hM 1 rfl n hnk
  obtain ⟨ov, k0'⟩ := Option.isSome_iff_exists.1 k1
  have K4 := Aside0.mk k4
  clear hM M5 M6 hcell4 hfr4 hg4 k1 k4 hcd
  go_upto_region 9 with (fail)
  have M8 := Aside0.mk (PgM.shut_ (hs := hs) (ps := ps) (n := n) (F := []) M3'.out.len hnk ⟨B2, q.length, d2⟩ q (Mem.sel (ps := [_, _]) (F := inner (hs.take n) (ps.take n) ++ (inner (hs.drop (n + 1)) (ps.drop (n + 1)) ++ [])) [1, 0] 2 (K4.out ⟨B2, q.length, d2⟩) rfl rfl))
  obtain ⟨wx, hwx⟩ : ∃ wx, w5.setCell ⟨g, n, none⟩ (Hd.v ⟨B2, q.length, d2⟩) = wx := ⟨_, rfl⟩
  rw [hwx] at M8
  change w5.setCell ⟨g, n, none⟩ (.slice B2 q.length d2) = wx at hwx
  rw [hwx]
  have HNN' := Aside0.mk (show ps.set n q = P by rw [HNN.out]; exact HPP0.out)
  rw [HNN'.out] at M8
  have M9 := M8
  clear M8 M7 K4 k0' k2 k3 hwx
  obtain ⟨hs2, hhs2⟩ : ∃ hs2, hs.set n ⟨B2, q.length, d2⟩ = hs2 := ⟨_, rfl⟩
  rw [hhs2] at M9
  have hPl : P.length = ps.length := by rw [← HNN'.out, List.length_set]
  have hPn : P.getD n [] = q := by rw [← HNN'.out]; simp [List.getD, hnk]
  obtain ⟨B3, d3, hcn, _⟩ := PgM.cell M9.out n (by omega)
  rw [hPn] at hcn
  have HPL2 := Aside0.mk hPl
  have HPN := Aside0.mk hPn
  have hgx : g < wx.heap.size := World.block_lt_of_cell? wx _ hcn
  clear hPn hPl hhs2
  have hql : ¬ (q.length : Int) = 0 := by have := HQL.out; omega
  have hql2 : ((q.length : Int) == 0) = false := beq_eq_false_iff_ne.mpr hql
  have hf1 : ((n : Int) + 1 == (ps.length : Int)) = true := by have := HMODE.out; have := HNN.out; simp; omega
  have hf2 : (n : Int) + 1 = (ps.length : Int) := by have := HMODE.out; have := HNN.out; omega
  go_upto_region 14 with (fail)
  obtain ⟨f, hfn⟩ : ∃ f, f + 1 = n := ⟨n - 1, by have := HMODE.out; have := HNN.out; omega⟩
  rw [show (n : Int) - 1 = (f : Int) by omega]
  have HF := Aside0.mk hfn
  have HF1 := Aside0.mk (show f + 1 < P.length by have := HMODE.out; have := HNN.out; have := HPL2.out; omega)
  obtain ⟨B4, d4, hc4, hh4⟩ := PgM.cell M9.out f (by have := HF1.out; omega)
  obtain ⟨B5, d5, hc5, hh5⟩ := PgM.cell M9.out (f + 1) HF1.out
  have hfl : ((f : Int) < (ps.length : Int)) = True := eq_true (by have := HF1.out; have := HPL2.out; omega)
  have hfl2 : ((f : Int) + 1 < (ps.length : Int)) = True := eq_true (by have := HF1.out; have := HPL2.out; omega)
  have hfl3 : decide ((f : Int) < 0) = false := decide_eq_false (by omega)
  have hfb : f < 1000000 := by have := HF1.out; have := HPL2.out; have := HN.out; omega
  have hlb4 : (P.getD f []).length ≤ 1000000 := HONE.out _ (by have := HF1.out; omega)
  have hlb5 : (P.getD (f + 1) []).length ≤ 1000000 := HONE.out _ HF1.out
  obtain ⟨pf, hpf⟩ : ∃ pf, P.getD f [] = pf := ⟨_, rfl⟩
  obtain ⟨pg, hpg⟩ : ∃ pg, P.getD (f + 1) [] = pg := ⟨_, rfl⟩
  have MO := Aside0.mk (PgM.open2 M9.out f HF1.out hh4 hh5)
  rw [hpf] at hc4 hlb4 MO
  rw [hpg] at hc5 hlb5 MO
  clear hh4 hh5
  have HPF := Aside0.mk hpf
  have HPG := Aside0.mk hpg
  clear hcn hf1 hf2 hfn hpf hpg
  have hfk : f = k - 1 - 1 := by have := HF.out; have := HNN.out; omega
  have hs4 : decide (4 < (pf.length : Int) + (pg.length : Int)) = false := decide_eq_false (by have h5 := HSUM.out; rw [← hfk, HPF.out, HPG.out] at h5; omega)
  have hl4 : pf.length + pg.length ≤ 4 := by have h5 := HSUM.out; rw [← hfk, HPF.out, HPG.out] at h5; omega
  have HFK := Aside0.mk hfk
  clear hfk
  go_quiet (fail)
  obtain ⟨pp, hpp1⟩ : ∃ pp, pf ++ pg = pp := ⟨_, rfl⟩
  have HPP1 := Aside0.mk hpp1
  clear hpp1
  have hHL := Aside0.mk (show ps.length = hs2.length by have := M9.out.len; have := HPL2.out; omega)
  go_upto_region 16 with (fail)
  have hwr : IntKind.i64.wrap ((f : Int) + 1) = (f : Int) + 1 := by rw [IntKind.wrap_i64]; omega
  have hwr0 : (0 : Int) ≤ (f : Int) + 1 := by omega
  have hwrn : ((f : Int) + 1).toNat = f + 1 := by omega
  go_region_law (refine Mem.app_step kP (MO.out.drewN _).drew 1 _ pf pg (by rfl) (.tmp 88) (.tmp 93) 32 41 _ _ rfl Try.underlying32 info41 rfl (by decide) (by omega) B5 _ d5 (by first | (simp [Act.eval, Act.put]; done) | (simp [Act.eval, Act.put]; rfl)) (by first | (simp [Act.eval, Act.put]; done) | (simp [Act.eval, Act.put]; rfl)) rfl ((MO.out.drewN _).drew.row_C 2 rfl) (fun x cs h => by obtain rfl := flatP.rd_ h; exact flatP.mk_ _ _ _ x) (by omega) ?_; intro v1 w1 hM1; rw [HPP1.out] at hM1; obtain ⟨B6, d6, e6, hc6, _⟩ := hM1.row_at 1 rfl; subst e6; have MP := Aside0.mk hM1; clear hM1; obtain ⟨k1, k2, k3, k4⟩ := Mem.hd_cell' MP.out 0 rfl f (by have := HF1.out; have := HPL2.out; omega); obtain ⟨ov, k0'⟩ := Option.isSome_iff_exists.1 k1; have K4 := Aside0.mk k4; clear k4 k1 hc6)
  all_goals
    have MQ := Aside0.mk (K4.out ⟨B6, pp.length, d6⟩)
    have XD := Aside0.mk (fun (W : World) (R : List Res) (hm : Mem w W (row kH 32 (.slice (some ⟨g, 0, none⟩) ps.length d) (hs2.set f ⟨B6, pp.length, d6⟩) :: R)) => by
      have h := delH_calls w W R _ (hs2.set f ⟨B6, pp.length, d6⟩) (f + 1) hm (by rw [List.length_set, ← hHL.out]; have := HF1.out; have := HPL2.out; omega) (by rw [List.length_set, ← hHL.out]; have := HN.out; omega)
      rw [show ((f + 1 : Nat) : Int) = (f : Int) + 1 by omega, show (f : Int) + 1 + 1 = (f : Int) + 2 by omega] at h
      exact h)
    have hfb2 : (f : Int) + 2 ≤ 1000002 := by omega
    clear hwr hwr0 hwrn K4
    go_wp2_with fail
    refine (XD.out _ _ MQ.out).mono ?_
    rintro e w6 ⟨v6, rfl, hM⟩
    rw [join_list _ _ _ (by rw [← hHL.out]; have := HF1.out; have := HPL2.out; omega)] at hM
    have MR := Aside0.mk hM
    clear hM MQ
    go_wp2_with fail
    go_ret
    refine ⟨_, hs2.take f ++ ⟨B6, pp.length, d6⟩ :: hs2.drop (f + 2), rfl, ?_⟩
    rw [← HFK.out, HPF.out, HPG.out, HPP1.out]
    refine ⟨?_, ?_⟩
    · have h5 := M9.out.len
      simp only [List.length_append, List.length_cons, List.length_take, List.length_drop, h5]
    · have h1 := Mem.sel (ps := [_, _, _]) (F := inner (hs2.take f) (P.take f) ++ (inner (hs2.drop (f + 2)) (P.drop (f + 2)) ++ [])) [0, 1] 3 MR.out rfl rfl
      have h2 := Mem.to_mid (l := inner (hs2.take f) (P.take f)) (F := inner (hs2.drop (f + 2)) (P.drop (f + 2)) ++ []) h1
      rw [inner_app (by rw [List.length_take, List.length_take, M9.out.len]), inner_cons, List.append_assoc]
      exact h2
end Go.Proofs.Ytookpmdgoednfaa.Dl
