/- Texts laid together: Pp, Dk. No condition. -/
import Derived.Deep.RegionLaw
import Derived.Test.YtookpmdgoednfaaYPz7
import Derived.Test.YtookpmdgoednfaaYPz8
set_option linter.unusedVariables false
set_option linter.unusedSimpArgs false
set_option maxRecDepth 100000
set_option maxHeartbeats 8000000
namespace Go.Proofs.Ytookpmdgoednfaa.Pp
open Go.RowKit YtookpmdgoednfaaW.PrintWords YtookpmdgoednfaaW.PrintLast YtookpmdgoednfaaW.PrintMore Mx PPagePuts Pa Ps Go.Proofs.Ytookpmdgoednfaa.Pi
theorem Put_none (A : Option Addr) (c : Nat) (key val : ByteArray) (w : World) (hl : Kd.C (Kd.slice 41 kP) w A 0 []) (k0 : Nat) (hR : page_Right.f k0 [] = some true) :
    Calls Try.prog 25 #[.slice A 0 c, .string key, .string val] w fun e w' => ∃ (v : Value) (hs : List Hd), e = .returned v ∧ PgM w w' v hs [[⟨key, val⟩]] [] := by
  have HL := Aside0.mk hl
  have HR := Aside0.mk hR
  have M0 := Aside0.mk (Mem.nil w)
  clear hl hR
  go_enter Try.func25, Try.ntmps25
  go_wp2_with fail
  refine (page_Right.calls k0 A c [] true _ HL.out (Nat.zero_le _) HR.out).mono ?_
  rintro e w1 ⟨rfl, hb⟩
  have M1 := Aside0.mk (M0.out.grow hb)
  clear hb
  go_wp2_with fail
  refine (copied_calls A c [] _ (Kd.C_below HL.out M1.out.below) (by simp) (by simp)).mono ?_
  rintro e w2 ⟨v, hs, rfl, hM⟩
  obtain ⟨B, d, hv, _, _⟩ := hM.read
  have M2 := Aside0.mk (M1.out.trans hM.mem)
  clear hM
  subst hv
  have M3 := Aside0.mk (((((M2.out.allocAt #[.string key, .string val] 41 w2.heap.size rfl).lit 0 kP [⟨key, val⟩] rfl (flat_reps (enc := encP) (fun _ => rfl) (fun x w => flatP.mk_ _ _ _ x) [⟨key, val⟩]) (by simp)).allocAt #[.slice (some ⟨w2.heap.size, 0, none⟩) 1 1] 32 (w2.heap.size + 1) (by simp)).lit 0 kH [⟨some ⟨w2.heap.size, 0, none⟩, 1, 1⟩] rfl (flat_reps (enc := fun h : Hd => [h.v]) (fun _ => rfl) (fun x w => flatH.mk_ _ _ _ x) [⟨some ⟨w2.heap.size, 0, none⟩, 1, 1⟩]) (by simp)))
  go_wp2_with fail
  all_goals
    go_ret
    refine ⟨_, [⟨some ⟨w2.heap.size, 0, none⟩, 1, 1⟩], rfl, ⟨rfl, ?_⟩⟩
    exact M3.out.reindex id id (fun i r hi => ⟨by
      match i, hi with
      | 0, hi => exact hi
      | 1, hi => exact hi
      | (i + 2), hi => simp [inner] at hi, rfl⟩)
theorem Put_there (A : Option Addr) (c : Nat) (ps : List (List SP)) (key val : ByteArray) (w : World) (hl : Kd.C (Kd.slice 41 kP) w A ps.length ps) (hc : ps.length ≤ c) (k0 : Nat) (hR : page_Right.f k0 ps = some true) (hne : 0 < ps.length) (hn : ps.length ≤ 100000) (hpp : ∀ p ∈ ps, 0 < p.length ∧ p.length ≤ 8)
    (k : Nat) (hk : k ≤ ps.length) (h1 : ∀ t : Nat, t < k → Op.bytesLess key.toList (fk (rd_L2 ps t)) = false) (h2 : ∀ t : Nat, k ≤ t → t < ps.length → Op.bytesLess key.toList (fk (rd_L2 ps t)) = true)
    (p : List SP) (hp : ps.getD (k - 1) [] = p) (i : Nat) (hi : i ≤ p.length) (g1 : ∀ t : Nat, t < i → Op.bytesLess (rd_T41 p t).f0.toList key.toList = true) (g2 : ∀ t : Nat, i ≤ t → t < p.length → Op.bytesLess (rd_T41 p t).f0.toList key.toList = false) (hth : i < p.length) (he : ((rd_T41 p i).f0.toList == key.toList) = true) :
    Calls Try.prog 25 #[.slice A ps.length c, .string key, .string val] w fun e w' => ∃ (v : Value) (hs : List Hd), e = .returned v ∧ PgM w w' v hs (ps.set (k - 1) (p.set i ⟨(rd_T41 p i).f0, val⟩)) [] := by
  have HL := Aside0.mk hl
  have HC := Aside0.mk hc
  have HR := Aside0.mk hR
  have M0 := Aside0.mk (Mem.nil w)
  have HPP := Aside0.mk hpp
  have hnk : k - 1 < ps.length := by omega
  have hpm : p ∈ ps := by
    have e : ps.getD (k - 1) [] = ps[k - 1] := by simp [List.getD, hnk]
    rw [← hp, e]
    exact List.getElem_mem hnk
  have HPL := Aside0.mk (hpp p hpm)
  have HOF := Aside0.mk (fun (B : Option Addr) (d : Nat) (W : World) (hC : Kd.C (Kd.slice 41 kP) W B ps.length ps) => of_calls B d ps key W hC (by omega) (fun j hj => by
      have e : rd_L2 ps (j : Int) = ps[j] := by unfold rd_L2; simp [List.getD, hj]
      rw [e]
      exact (hpp _ (List.getElem_mem hj)).1) k hk h1 h2)
  have HAT := Aside0.mk (fun (B : Option Addr) (d : Nat) (W : World) (hC : Kd.C kP W B p.length p) => at_calls B d p key W hC (by have := (hpp p hpm).2; omega) i hi g1 g2 true (by rw [decide_eq_true hth, he]; rfl))
  have hnz : ((ps.length : Int) == 0) = false := beq_eq_false_iff_ne.mpr (by omega)
  have hnz2 : ¬ (ps.length : Int) = 0 := by omega
  have HP := Aside0.mk hp
  have HN := Aside0.mk hn
  have HI := Aside0.mk hi
  obtain ⟨n, hnn⟩ : ∃ n, n = k - 1 := ⟨_, rfl⟩
  rw [← hnn] at hnk
  have HNN := Aside0.mk hnn
  clear hl hc hR hpp hpm h1 h2 g1 g2 hp hn hi hk hne hnn
  go_enter Try.func25, Try.ntmps25
  go_wp2_with fail
  refine (page_Right.calls k0 A c ps true _ HL.out HC.out HR.out).mono ?_
  rintro e w1 ⟨rfl, hb⟩
  have M1 := Aside0.mk (M0.out.grow hb)
  clear hb
  go_wp2_with fail
  refine (copied_calls A c ps _ (Kd.C_below HL.out M1.out.below) (by have := HN.out; omega) (fun q hq => by have := (HPP.out q hq).2; omega)).mono ?_
  rintro e w2 ⟨v, hs, rfl, hM⟩
  obtain ⟨B, d, rfl, _, _, hC⟩ := hM.read
  have M2 := Aside0.mk (show PgM w w2 _ hs ps [] from ⟨hM.len, (M1.out.trans hM.mem).reindex id id (fun j r hj => ⟨by simpa using hj, rfl⟩)⟩)
  have HC2 := Aside0.mk hC
  clear hM hC M1 M0
  go_wp2_with fail
  refine (HOF.out B d _ HC2.out).mono ?_
  rintro e w3 ⟨rfl, hM⟩
  have M3 := Aside0.mk (M2.out.grow hM.below)
  clear hM M2 HC2
  obtain ⟨g, cap, hd, he, hhd, hcell, hfr, hg, hmem⟩ := M3.out.open_ n hnk
  cases he
  rw [HNN.out, HP.out, ← HNN.out] at hmem
  obtain ⟨g2, c2, hv2, _, hg2, _⟩ := Kd.R_form (hmem.hold (i := 1) rfl) HPL.out.1
  have hdv : hd = ⟨some ⟨g2, 0, none⟩, p.length, c2⟩ := by
    obtain ⟨a, b, c⟩ := hd
    injection hv2 with e1 e2 e3
    subst e1; subst e2; subst e3; rfl
  subst hdv
  change w3.cell? _ = some (.slice (some ⟨g2, 0, none⟩) p.length c2) at hcell
  have M4 := Aside0.mk hmem
  have HHD := Aside0.mk hhd
  clear hmem hhd hv2
  rw [← HNN.out]
  have hi1 : ((n : Int) < (ps.length : Int)) = True := eq_true (by omega)
  have hi2 : n < ps.length := hnk
  have hnb : n < 1000000 := by have := HN.out; omega
  go_wp2_with fail
  refine (HAT.out (some ⟨g2, 0, none⟩) c2 _ (M4.out.row_C 1 rfl)).mono ?_
  rintro e w4 ⟨rfl, hM⟩
  have M5 := Aside0.mk (M4.out.grow hM.below)
  have hcell4 := (hM.below.cell hg).trans hcell
  have hfr4 := (hM.below.frozen hg).trans hfr
  have hg4 := Nat.lt_of_lt_of_le hg hM.below.size
  have hb4 := Aside0.mk hM.below
  have M3' := Aside0.mk (M3.out.grow hM.below)
  clear hM M3 M4 hcell hfr hg
  have hj1 : ((i : Int) < (p.length : Int)) = True := eq_true (by omega)
  have hj2 : i < p.length := hth
  have hib : i < 1000000 := by have := HPL.out.2; omega
  obtain ⟨hx1, hx2, hx3, hx4⟩ := Mem.val_put M5.out 1 rfl i hth val
  obtain ⟨vold, hx0⟩ := Option.isSome_iff_exists.1 hx1
  have M6 := Aside0.mk hx4
  clear hx4 hx1
  go_wp2_with fail
  all_goals
    go_ret
    refine ⟨_, hs, rfl, ?_⟩
    have h5 := PgM.shut_ (hs := hs) (ps := ps) (n := n) (F := []) M3'.out.len hnk ⟨some ⟨g2, 0, none⟩, p.length, c2⟩ (p.set i ⟨(rd_T41 p i).f0, val⟩) (by
      have e : hs.set n ⟨some ⟨g2, 0, none⟩, p.length, c2⟩ = hs := by
        obtain ⟨h6, h7⟩ := List.getElem?_eq_some_iff.1 HHD.out
        rw [← h7]
        exact List.set_getElem_self h6
      rw [e]
      exact M6.out)
    have e : hs.set n ⟨some ⟨g2, 0, none⟩, p.length, c2⟩ = hs := by
      obtain ⟨h6, h7⟩ := List.getElem?_eq_some_iff.1 HHD.out
      rw [← h7]
      exact List.set_getElem_self h6
    rw [e, HNN.out] at h5
    exact h5
theorem Put_fits (A : Option Addr) (c : Nat) (ps : List (List SP)) (key val : ByteArray) (w : World) (hl : Kd.C (Kd.slice 41 kP) w A ps.length ps) (hc : ps.length ≤ c) (k0 : Nat) (hR : page_Right.f k0 ps = some true) (hne : 0 < ps.length) (hn : ps.length ≤ 100000) (hpp : ∀ p ∈ ps, 0 < p.length ∧ p.length ≤ 8)
    (k : Nat) (hk : k ≤ ps.length) (h1 : ∀ t : Nat, t < k → Op.bytesLess key.toList (fk (rd_L2 ps t)) = false) (h2 : ∀ t : Nat, k ≤ t → t < ps.length → Op.bytesLess key.toList (fk (rd_L2 ps t)) = true)
    (p : List SP) (hp : ps.getD (k - 1) [] = p) (i : Nat) (hi : i ≤ p.length) (g1 : ∀ t : Nat, t < i → Op.bytesLess (rd_T41 p t).f0.toList key.toList = true) (g2 : ∀ t : Nat, i ≤ t → t < p.length → Op.bytesLess (rd_T41 p t).f0.toList key.toList = false) (hb : (decide (i < p.length) && ((rd_T41 p i).f0.toList == key.toList)) = false) (h8 : p.length < 8) (q : List SP) (hq0 : p.take i ++ [⟨key, val⟩] ++ p.drop i = q) :
    Calls Try.prog 25 #[.slice A ps.length c, .string key, .string val] w fun e w' => ∃ (v : Value) (hs : List Hd), e = .returned v ∧ PgM w w' v hs (ps.set (k - 1) q) [] := by
  have HL := Aside0.mk hl
  have HC := Aside0.mk hc
  have HR := Aside0.mk hR
  have M0 := Aside0.mk (Mem.nil w)
  have HPP := Aside0.mk hpp
  have hnk : k - 1 < ps.length := by omega
  have hpm : p ∈ ps := by
    have e : ps.getD (k - 1) [] = ps[k - 1] := by simp [List.getD, hnk]
    rw [← hp, e]
    exact List.getElem_mem hnk
  have HPL := Aside0.mk (hpp p hpm)
  have HOF := Aside0.mk (fun (B : Option Addr) (d : Nat) (W : World) (hC : Kd.C (Kd.slice 41 kP) W B ps.length ps) => of_calls B d ps key W hC (by omega) (fun j hj => by
      have e : rd_L2 ps (j : Int) = ps[j] := by unfold rd_L2; simp [List.getD, hj]
      rw [e]
      exact (hpp _ (List.getElem_mem hj)).1) k hk h1 h2)
  have HAT := Aside0.mk (fun (B : Option Addr) (d : Nat) (W : World) (hC : Kd.C kP W B p.length p) => at_calls B d p key W hC (by have := (hpp p hpm).2; omega) i hi g1 g2 false hb.symm)
  have hnz : ((ps.length : Int) == 0) = false := beq_eq_false_iff_ne.mpr (by omega)
  have hnz2 : ¬ (ps.length : Int) = 0 := by omega
  have HP := Aside0.mk hp
  have HN := Aside0.mk hn
  have HI := Aside0.mk hi
  obtain ⟨n, hnn⟩ : ∃ n, n = k - 1 := ⟨_, rfl⟩
  rw [← hnn] at hnk
  have HNN := Aside0.mk hnn
  clear hl hc hR hpp hpm h1 h2 g1 g2 hp hn hi hk hne hnn
  go_enter Try.func25, Try.ntmps25
  go_wp2_with fail
  refine (page_Right.calls k0 A c ps true _ HL.out HC.out HR.out).mono ?_
  rintro e w1 ⟨rfl, hb⟩
  have M1 := Aside0.mk (M0.out.grow hb)
  clear hb
  go_wp2_with fail
  refine (copied_calls A c ps _ (Kd.C_below HL.out M1.out.below) (by have := HN.out; omega) (fun q hq => by have := (HPP.out q hq).2; omega)).mono ?_
  rintro e w2 ⟨v, hs, rfl, hM⟩
  obtain ⟨B, d, rfl, _, _, hC⟩ := hM.read
  have M2 := Aside0.mk (show PgM w w2 _ hs ps [] from ⟨hM.len, (M1.out.trans hM.mem).reindex id id (fun j r hj => ⟨by simpa using hj, rfl⟩)⟩)
  have HC2 := Aside0.mk hC
  clear hM hC M1 M0
  go_wp2_with fail
  refine (HOF.out B d _ HC2.out).mono ?_
  rintro e w3 ⟨rfl, hM⟩
  have M3 := Aside0.mk (M2.out.grow hM.below)
  clear hM M2 HC2
  obtain ⟨g, cap, hd, he, hhd, hcell, hfr, hg, hmem⟩ := M3.out.open_ n hnk
  cases he
  rw [HNN.out, HP.out, ← HNN.out] at hmem
  obtain ⟨g2, c2, hv2, _, hg2, _⟩ := Kd.R_form (hmem.hold (i := 1) rfl) HPL.out.1
  have hdv : hd = ⟨some ⟨g2, 0, none⟩, p.length, c2⟩ := by
    obtain ⟨a, b, c⟩ := hd
    injection hv2 with e1 e2 e3
    subst e1; subst e2; subst e3; rfl
  subst hdv
  change w3.cell? _ = some (.slice (some ⟨g2, 0, none⟩) p.length c2) at hcell
  have M4 := Aside0.mk hmem
  have HHD := Aside0.mk hhd
  clear hmem hhd hv2
  rw [← HNN.out]
  have hi1 : ((n : Int) < (ps.length : Int)) = True := eq_true (by omega)
  have hi2 : n < ps.length := hnk
  have hnb : n < 1000000 := by have := HN.out; omega
  go_wp2_with fail
  refine (HAT.out (some ⟨g2, 0, none⟩) c2 _ (M4.out.row_C 1 rfl)).mono ?_
  rintro e w4 ⟨rfl, hM⟩
  have M5 := Aside0.mk (M4.out.grow hM.below)
  have hcell4 := (hM.below.cell hg).trans hcell
  have hfr4 := (hM.below.frozen hg).trans hfr
  have hg4 := Nat.lt_of_lt_of_le hg hM.below.size
  have hb4 := Aside0.mk hM.below
  have M3' := Aside0.mk (M3.out.grow hM.below)
  clear hM M3 M4 hcell hfr hg
  have hib : i ≤ 1000000 := by have := HPL.out.2; have := HI.out; omega
  have HQ := Aside0.mk hq0
  have HQL := Aside0.mk (show q.length = p.length + 1 by rw [← hq0]; simp; have := HI.out; omega)
  clear hq0
  have M6 := Aside0.mk (Mem.sel (ps := [_, _, _]) (F := inner (hs.take n) (ps.take n) ++ (inner (hs.drop (n + 1)) (ps.drop (n + 1)) ++ [])) [2, 0, 1] 3 (M5.out.allocAt #[.string key, .string val] 41 w4.heap.size rfl) rfl rfl)
  go_wp2_with fail
  refine (insP_calls w _ _ _ w4.heap.size i 1 p [⟨key, val⟩] M6.out rfl (by decide) (by decide) (by have := HPL.out.2; omega) HPL.out.1 HI.out q HQ.out).mono ?_
  rintro e w5 ⟨v', rfl, hM⟩
  obtain ⟨g3, c3, rfl, _, hg3, _⟩ := Kd.R_form (hM.hold (i := 0) rfl) (by have := HQL.out; omega : 0 < q.length)
  obtain ⟨_, _, hq3, hc3, _⟩ := hM.row_at 0 rfl
  cases hq3
  have M7 := Aside0.mk hM
  obtain ⟨k1, k2, k3, k4⟩ := Mem.hd_cell' hM 1 rfl n hnk
  obtain ⟨ov, k0'⟩ := Option.isSome_iff_exists.1 k1
  have K4 := Aside0.mk k4
  have HC3 := Aside0.mk hc3
  clear hM M5 M6 hcell4 hfr4 hg4 k1 k4 hc3
  have hq8 : decide ((q.length : Int) ≤ 8) = true := decide_eq_true (by have := HQL.out; omega)
  go_wp2_with fail
  all_goals
    go_ret
    refine ⟨_, hs.set n ⟨some ⟨g3, 0, none⟩, q.length, c3⟩, rfl, ?_⟩
    have h5 := PgM.shut_ (hs := hs) (ps := ps) (n := n) (F := []) M3'.out.len hnk ⟨some ⟨g3, 0, none⟩, q.length, c3⟩ q (Mem.sel (ps := [_, _]) (F := inner (hs.take n) (ps.take n) ++ (inner (hs.drop (n + 1)) (ps.drop (n + 1)) ++ [])) [1, 0] 2 (K4.out ⟨some ⟨g3, 0, none⟩, q.length, c3⟩) rfl rfl)
    rw [← HNN.out]
    exact h5
theorem Put_parts (A : Option Addr) (c : Nat) (ps : List (List SP)) (key val : ByteArray) (w : World) (hl : Kd.C (Kd.slice 41 kP) w A ps.length ps) (hc : ps.length ≤ c) (k0 : Nat) (hR : page_Right.f k0 ps = some true) (hne : 0 < ps.length) (hn : ps.length ≤ 100000) (hpp : ∀ p ∈ ps, 0 < p.length ∧ p.length ≤ 8)
    (k : Nat) (hk : k ≤ ps.length) (h1 : ∀ t : Nat, t < k → Op.bytesLess key.toList (fk (rd_L2 ps t)) = false) (h2 : ∀ t : Nat, k ≤ t → t < ps.length → Op.bytesLess key.toList (fk (rd_L2 ps t)) = true)
    (p : List SP) (hp : ps.getD (k - 1) [] = p) (i : Nat) (hi : i ≤ p.length) (g1 : ∀ t : Nat, t < i → Op.bytesLess (rd_T41 p t).f0.toList key.toList = true) (g2 : ∀ t : Nat, i ≤ t → t < p.length → Op.bytesLess (rd_T41 p t).f0.toList key.toList = false) (hb : (decide (i < p.length) && ((rd_T41 p i).f0.toList == key.toList)) = false) (h8 : p.length = 8) (q : List SP) (hq0 : p.take i ++ [⟨key, val⟩] ++ p.drop i = q) :
    Calls Try.prog 25 #[.slice A ps.length c, .string key, .string val] w fun e w' => ∃ (v : Value) (hs : List Hd), e = .returned v ∧ PgM w w' v hs (ps.take (k - 1) ++ q.take 4 :: q.drop 4 :: ps.drop (k - 1 + 1)) [] := by
  have H8 := Aside0.mk h8
  clear h8
  have HL := Aside0.mk hl
  have HC := Aside0.mk hc
  have HR := Aside0.mk hR
  have M0 := Aside0.mk (Mem.nil w)
  have HPP := Aside0.mk hpp
  have hnk : k - 1 < ps.length := by omega
  have hpm : p ∈ ps := by
    have e : ps.getD (k - 1) [] = ps[k - 1] := by simp [List.getD, hnk]
    rw [← hp, e]
    exact List.getElem_mem hnk
  have HPL := Aside0.mk (hpp p hpm)
  have HOF := Aside0.mk (fun (B : Option Addr) (d : Nat) (W : World) (hC : Kd.C (Kd.slice 41 kP) W B ps.length ps) => of_calls B d ps key W hC (by omega) (fun j hj => by
      have e : rd_L2 ps (j : Int) = ps[j] := by unfold rd_L2; simp [List.getD, hj]
      rw [e]
      exact (hpp _ (List.getElem_mem hj)).1) k hk h1 h2)
  have HAT := Aside0.mk (fun (B : Option Addr) (d : Nat) (W : World) (hC : Kd.C kP W B p.length p) => at_calls B d p key W hC (by have := (hpp p hpm).2; omega) i hi g1 g2 false hb.symm)
  have hnz : ((ps.length : Int) == 0) = false := beq_eq_false_iff_ne.mpr (by omega)
  have hnz2 : ¬ (ps.length : Int) = 0 := by omega
  have HP := Aside0.mk hp
  have HN := Aside0.mk hn
  have HI := Aside0.mk hi
  obtain ⟨n, hnn⟩ : ∃ n, n = k - 1 := ⟨_, rfl⟩
  rw [← hnn] at hnk
  have HNN := Aside0.mk hnn
  clear hl hc hR hpp hpm h1 h2 g1 g2 hp hn hi hk hne hnn
  go_enter Try.func25, Try.ntmps25
  go_wp2_with fail
  refine (page_Right.calls k0 A c ps true _ HL.out HC.out HR.out).mono ?_
  rintro e w1 ⟨rfl, hb⟩
  have M1 := Aside0.mk (M0.out.grow hb)
  clear hb
  go_wp2_with fail
  refine (copied_calls A c ps _ (Kd.C_below HL.out M1.out.below) (by have := HN.out; omega) (fun q hq => by have := (HPP.out q hq).2; omega)).mono ?_
  rintro e w2 ⟨v, hs, rfl, hM⟩
  obtain ⟨B, d, rfl, _, _, hC⟩ := hM.read
  have M2 := Aside0.mk (show PgM w w2 _ hs ps [] from ⟨hM.len, (M1.out.trans hM.mem).reindex id id (fun j r hj => ⟨by simpa using hj, rfl⟩)⟩)
  have HC2 := Aside0.mk hC
  clear hM hC M1 M0
  go_wp2_with fail
  refine (HOF.out B d _ HC2.out).mono ?_
  rintro e w3 ⟨rfl, hM⟩
  have M3 := Aside0.mk (M2.out.grow hM.below)
  clear hM M2 HC2
  obtain ⟨g, cap, hd, he, hhd, hcell, hfr, hg, hmem⟩ := M3.out.open_ n hnk
  cases he
  rw [HNN.out, HP.out, ← HNN.out] at hmem
  obtain ⟨g2, c2, hv2, _, hg2, _⟩ := Kd.R_form (hmem.hold (i := 1) rfl) HPL.out.1
  have hdv : hd = ⟨some ⟨g2, 0, none⟩, p.length, c2⟩ := by
    obtain ⟨a, b, c⟩ := hd
    injection hv2 with e1 e2 e3
    subst e1; subst e2; subst e3; rfl
  subst hdv
  change w3.cell? _ = some (.slice (some ⟨g2, 0, none⟩) p.length c2) at hcell
  have M4 := Aside0.mk hmem
  have HHD := Aside0.mk hhd
  clear hmem hhd hv2
  rw [← HNN.out]
  have hi1 : ((n : Int) < (ps.length : Int)) = True := eq_true (by omega)
  have hi2 : n < ps.length := hnk
  have hnb : n < 1000000 := by have := HN.out; omega
  go_wp2_with fail
  refine (HAT.out (some ⟨g2, 0, none⟩) c2 _ (M4.out.row_C 1 rfl)).mono ?_
  rintro e w4 ⟨rfl, hM⟩
  have M5 := Aside0.mk (M4.out.grow hM.below)
  have hcell4 := (hM.below.cell hg).trans hcell
  have hfr4 := (hM.below.frozen hg).trans hfr
  have hg4 := Nat.lt_of_lt_of_le hg hM.below.size
  have hb4 := Aside0.mk hM.below
  have M3' := Aside0.mk (M3.out.grow hM.below)
  clear hM M3 M4 hcell hfr hg
  have hib : i ≤ 1000000 := by have := HPL.out.2; have := HI.out; omega
  have HQ := Aside0.mk hq0
  have HQL := Aside0.mk (show q.length = p.length + 1 by rw [← hq0]; simp; have := HI.out; omega)
  clear hq0
  have M6 := Aside0.mk (Mem.sel (ps := [_, _, _]) (F := inner (hs.take n) (ps.take n) ++ (inner (hs.drop (n + 1)) (ps.drop (n + 1)) ++ [])) [2, 0, 1] 3 (M5.out.allocAt #[.string key, .string val] 41 w4.heap.size rfl) rfl rfl)
  go_wp2_with fail
  refine (insP_calls w _ _ _ w4.heap.size i 1 p [⟨key, val⟩] M6.out rfl (by decide) (by decide) (by have := HPL.out.2; omega) HPL.out.1 HI.out q HQ.out).mono ?_
  rintro e w5 ⟨v', rfl, hM⟩
  obtain ⟨g3, c3, rfl, _, hg3, _⟩ := Kd.R_form (hM.hold (i := 0) rfl) (by have := HQL.out; omega : 0 < q.length)
  obtain ⟨_, _, hq3, hc3, _⟩ := hM.row_at 0 rfl
  cases hq3
  have M7 := Aside0.mk hM
  obtain ⟨k1, k2, k3, k4⟩ := Mem.hd_cell' hM 1 rfl n hnk
  obtain ⟨ov, k0'⟩ := Option.isSome_iff_exists.1 k1
  have K4 := Aside0.mk k4
  have HC3 := Aside0.mk hc3
  clear hM M5 M6 hcell4 hfr4 hg4 k1 k4 hc3
  have hq8 : decide ((q.length : Int) ≤ 8) = false := decide_eq_false (by have := HQL.out; have := H8.out; omega)
  have hl9 : q.length = 9 := by have := HQL.out; have := H8.out; omega
  obtain ⟨l4, hl4⟩ : ∃ l, l = q.take 4 := ⟨_, rfl⟩
  obtain ⟨l5, hl5⟩ : ∃ l, l = q.drop 4 := ⟨_, rfl⟩
  have hn4 : l4.length = 4 := by rw [hl4, List.length_take]; omega
  have hn5 : l5.length = q.length - 4 := by rw [hl5, List.length_drop]
  have C4 := Aside0.mk (show Kd.C kP w5 (some ⟨g3, 0, none⟩) l4.length l4 by rw [hl4]; exact Kd.C_take (M7.out.row_C 0 rfl) (by omega))
  have C5 := Aside0.mk (show Kd.C kP w5 (some ⟨g3, 8, none⟩) l5.length l5 by have h := Kd.C_drop (m := 4) (c := c3) (M7.out.row_C 0 rfl) (by omega) HC3.out; rw [if_neg (by have := HC3.out; omega)] at h; rw [hl5]; exact h)
  have X4 := Aside0.mk (fun (W : World) (hC : Kd.C kP W (some ⟨g3, 0, none⟩) l4.length l4) => by have h := clone_calls (some ⟨g3, 0, none⟩) c3 l4 W hC (by omega); rw [hn4] at h; exact h)
  have X5 := Aside0.mk (fun (W : World) (hC : Kd.C kP W (some ⟨g3, 8, none⟩) l5.length l5) => by have h := clone_calls (some ⟨g3, 8, none⟩) (c3 - 4) l5 W hC (by omega); rw [hn5] at h; exact h)
  have HL4 := Aside0.mk hl4
  have HL5 := Aside0.mk hl5
  have HN4 := Aside0.mk hn4
  have HN5 := Aside0.mk hn5
  have HL9 := Aside0.mk hl9
  have hc31 : ¬ c3 = 4 := by have := HC3.out; omega
  have hc32 : (4 : Int) ≤ (q.length : Int) := by omega
  have hc33 : 4 ≤ q.length := by omega
  have hc34 : 4 ≤ c3 := by have := HC3.out; omega
  have hc35 : (4 : Int) ≤ (c3 : Int) := by omega
  clear hl4 hl5 hn4 hn5 hl9
  go_wp2_with fail
  refine (X4.out _ C4.out).mono ?_
  rintro e w6 ⟨v4, rfl, hM⟩
  obtain ⟨B4, d4, rfl, _, _⟩ := hM.row_at 0 rfl
  rw [HN4.out] at hM
  rw [HN4.out]
  have M8 := Aside0.mk (M7.out.trans hM)
  have C5' := Aside0.mk (Kd.C_below C5.out hM.below)
  clear hM
  obtain ⟨k1, k2, k3, k4⟩ := Mem.hd_cell' M8.out 2 rfl n hnk
  obtain ⟨ov2, k0''⟩ := Option.isSome_iff_exists.1 k1
  have M9 := Aside0.mk (k4 ⟨B4, 4, d4⟩)
  clear k4 k1 M7
  have HH := Aside0.mk (show (hs.set n ⟨B4, 4, d4⟩).length = ps.length by rw [List.length_set]; exact M3'.out.len)
  have XI := Aside0.mk (fun (W : World) (R : List Res) (gv : Nat) (h2 : Hd) (hm : Mem w W (row kH 32 (.slice (some ⟨g, 0, none⟩) ps.length d) (hs.set n ⟨B4, 4, d4⟩) :: blk gv 32 #[h2.v] :: R)) => by
    have h := insH_calls w W R (.slice (some ⟨g, 0, none⟩) ps.length d) gv (n + 1) 1 (hs.set n ⟨B4, 4, d4⟩) [h2] hm rfl (by decide) (by decide) (by rw [HH.out]; have := HN.out; omega) (by rw [HH.out]; omega) (by rw [HH.out]; omega) (hs.take n ++ ⟨B4, 4, d4⟩ :: h2 :: hs.drop (n + 1)) (by
      have hnh : n < hs.length := by rw [M3'.out.len]; exact hnk
      rw [list_set _ hnh, List.take_append, List.drop_append, List.length_take, Nat.min_eq_left (by omega), show n + 1 - n = 1 by omega, List.take_take, Nat.min_eq_right (by omega), List.drop_take, show n - (n + 1) = 0 by omega]
      simp)
    rw [show ((n + 1 : Nat) : Int) = (n : Int) + 1 by omega] at h
    exact h)
  go_wp2_with fail
  refine (X5.out _ (show Kd.C kP _ (some ⟨g3, 8, none⟩) l5.length l5 by have h := Kd.C_drop (m := 4) (c := c3) (M9.out.row_C 1 rfl) (by omega) HC3.out; rw [if_neg hc31] at h; rw [HL5.out]; exact h)).mono ?_
  rintro e w7 ⟨v5, rfl, hM⟩
  obtain ⟨B5, d5, rfl, _, _⟩ := hM.row_at 0 rfl
  rw [HN5.out] at hM
  rw [HN5.out]
  have MA := Aside0.mk (M9.out.trans hM)
  clear hM M9
  have MB := Aside0.mk (Mem.sel (ps := [_, _, _, _, _]) (F := inner (hs.take n) (ps.take n) ++ (inner (hs.drop (n + 1)) (ps.drop (n + 1)) ++ [])) [4, 0, 2, 1] 5 (MA.out.allocAt #[.slice B5 (q.length - 4) d5] 32 w7.heap.size rfl) rfl rfl)
  go_wp2_with fail
  refine (XI.out _ _ w7.heap.size ⟨B5, q.length - 4, d5⟩ MB.out).mono ?_
  rintro e w8 ⟨v8, rfl, hM⟩
  have MC := Aside0.mk hM
  clear hM MA MB
  go_wp2_with fail
  all_goals
    go_ret
    refine ⟨_, hs.take n ++ ⟨B4, 4, d4⟩ :: ⟨B5, q.length - 4, d5⟩ :: hs.drop (n + 1), rfl, ⟨?_, ?_⟩⟩
    · have hl := M3'.out.len
      simp only [List.length_append, List.length_cons, List.length_take, List.length_drop]
      rw [← HNN.out, hl]
    · have h1 := Mem.sel (ps := [_, _, _]) (F := inner (hs.take n) (ps.take n) ++ (inner (hs.drop (n + 1)) (ps.drop (n + 1)) ++ [])) [0, 2, 1] 3 MC.out rfl rfl
      have h2 := Mem.to_mid (l := row kP 41 (.slice B4 4 d4) l4 :: inner (hs.take n) (ps.take n)) (F := inner (hs.drop (n + 1)) (ps.drop (n + 1)) ++ []) h1
      have h3 := Mem.to_mid (l := inner (hs.take n) (ps.take n)) (F := row kP 41 (.slice B5 (q.length - 4) d5) l5 :: (inner (hs.drop (n + 1)) (ps.drop (n + 1)) ++ [])) h2
      rw [← HL4.out, ← HL5.out, ← HNN.out, inner_app (by rw [List.length_take, List.length_take, M3'.out.len]), inner_cons, inner_cons, List.append_assoc]
      exact h3
end Go.Proofs.Ytookpmdgoednfaa.Pp
namespace Go.Proofs.Ytookpmdgoednfaa.Dk
open Go.RowKit YtookpmdgoednfaaW.PrintWords YtookpmdgoednfaaW.PrintLast YtookpmdgoednfaaW.PrintMore Mx PPagePuts Pa
def zP : Value := .agg #[.string ⟨#[]⟩, .string ⟨#[]⟩]
theorem zeroP (w : World) : (zeroValue 41).run Try.prog w = .ok zP w := by kernel_rfl
theorem delP_calls (w0 w : World) (F : List Res) (v : Value) (xs : List SP) (k : Nat) (hM : Mem w0 w (row kP 41 v xs :: F)) (hk : k < xs.length) (hl : xs.length ≤ 1000000) :
    Calls Try.prog 77 #[v, .int .i64 k, .int .i64 ((k : Int) + 1)] w fun e w' => ∃ v', e = .returned v' ∧ Mem w0 w' (row kP 41 v' (xs.eraseIdx k) :: F) := by
  obtain ⟨g, c, rfl, _, _, hcc⟩ := Kd.R_form (hM.hold (i := 0) rfl) (by omega : 0 < xs.length)
  obtain ⟨_, _, he, hc, _⟩ := hM.row_at 0 rfl
  cases he
  obtain ⟨n, hn⟩ : ∃ n, xs.length = n + 1 := ⟨xs.length - 1, by omega⟩
  rw [hn] at hM hc hk hl ⊢
  have M0 := Aside0.mk hM
  clear hM
  have e1 : ((k : Int) == (k : Int) + 1) = false := beq_eq_false_iff_ne.mpr (by omega)
  have e2 : ¬ (k : Int) = (k : Int) + 1 := by omega
  have hkc : k ≤ c := by omega
  have hkc1 : k + 1 ≤ c := by omega
  have hk1 : k + 1 ≤ n + 1 := by omega
  have hk2 : (0 : Int) ≤ (k : Int) + 1 := by omega
  have hk3 : (k : Int) + 1 ≤ (n : Int) + 1 := by omega
  have hk4 : (k : Int) + 1 ≤ ((n + 1 : Nat) : Int) := by omega
  have hn1 : n ≤ n + 1 := by omega
  have hn2 : n ≤ c := by omega
  have hn3 : n < c := by omega
  have hn4 : ¬ c = n := by omega
  have hn5 : (n : Int) ≤ ((n + 1 : Nat) : Int) := by omega
  go_enter Try.func77, Try.ntmps77
  go_wp2_with fail
  go_region_law (refine Mem.delete_step kP M0.out.drew 0 (by rfl) (.tmp 22) (.tmp 25) 32 41 rfl Try.underlying32 (by kernel_rfl) (g := g) (n := n + 1) (c := c) (k := k) (by simp [Act.eval, Act.put]) (A := if c = k + 1 then some ⟨g, 0, none⟩ else some ⟨g, (k + 1) * 2, none⟩) (m := n + 1 - (k + 1)) (c2 := c - (k + 1)) (by simp [Act.eval, Act.put]) (by simp [Addr.add]; rfl) rfl (by rfl) hk ?_; intro w1 hM1; have M1 := Aside0.mk hM1; clear hM1; rw [Nat.add_sub_cancel]; obtain ⟨w2, hcl, hM2⟩ := Mem.clear_run (P := Try.prog) kP M1.out 0 32 41 0 zP Try.underlying32 zeroP (by decide) (by rfl) (g := g) (n := n) (c := c) (c2 := c - n) rfl hn3 (n * 2) rfl; have M2 := Aside0.mk hM2; clear hM2)
  go_wp2
  all_goals go_ret
  · rename_i h
    refine ⟨_, rfl, ?_⟩
    rw [← h]
    exact M2.out
  · exact ⟨_, rfl, M2.out⟩
def zH : Value := .slice none 0 0
theorem zeroH (w : World) : (zeroValue 32).run Try.prog w = .ok zH w := by kernel_rfl
theorem delH_calls (w0 w : World) (F : List Res) (v : Value) (xs : List Hd) (k : Nat) (hM : Mem w0 w (row kH 32 v xs :: F)) (hk : k < xs.length) (hl : xs.length ≤ 1000000) :
    Calls Try.prog 78 #[v, .int .i64 k, .int .i64 ((k : Int) + 1)] w fun e w' => ∃ v', e = .returned v' ∧ Mem w0 w' (row kH 32 v' (xs.eraseIdx k) :: F) := by
  obtain ⟨g, c, rfl, _, _, hcc⟩ := Kd.R_form (hM.hold (i := 0) rfl) (by omega : 0 < xs.length)
  obtain ⟨_, _, he, hc, _⟩ := hM.row_at 0 rfl
  cases he
  obtain ⟨n, hn⟩ : ∃ n, xs.length = n + 1 := ⟨xs.length - 1, by omega⟩
  rw [hn] at hM hc hk hl ⊢
  have M0 := Aside0.mk hM
  clear hM
  have e1 : ((k : Int) == (k : Int) + 1) = false := beq_eq_false_iff_ne.mpr (by omega)
  have e2 : ¬ (k : Int) = (k : Int) + 1 := by omega
  have hkc : k ≤ c := by omega
  have hkc1 : k + 1 ≤ c := by omega
  have hk1 : k + 1 ≤ n + 1 := by omega
  have hk2 : (0 : Int) ≤ (k : Int) + 1 := by omega
  have hk3 : (k : Int) + 1 ≤ (n : Int) + 1 := by omega
  have hk4 : (k : Int) + 1 ≤ ((n + 1 : Nat) : Int) := by omega
  have hn1 : n ≤ n + 1 := by omega
  have hn2 : n ≤ c := by omega
  have hn3 : n < c := by omega
  have hn4 : ¬ c = n := by omega
  have hn5 : (n : Int) ≤ ((n + 1 : Nat) : Int) := by omega
  go_enter Try.func78, Try.ntmps78
  go_wp2_with fail
  go_region_law (refine Mem.delete_step kH M0.out.drew 0 (by rfl) (.tmp 22) (.tmp 25) 22 32 rfl Try.underlying22 (by kernel_rfl) (g := g) (n := n + 1) (c := c) (k := k) (by simp [Act.eval, Act.put]) (A := if c = k + 1 then some ⟨g, 0, none⟩ else some ⟨g, k + 1, none⟩) (m := n + 1 - (k + 1)) (c2 := c - (k + 1)) (by simp [Act.eval, Act.put]) (by simp [Addr.add, show kH.sz = 1 from rfl]) rfl (by rfl) hk ?_; intro w1 hM1; have M1 := Aside0.mk hM1; clear hM1; rw [Nat.add_sub_cancel]; obtain ⟨w2, hcl, hM2⟩ := Mem.clear_run (P := Try.prog) kH M1.out 0 22 32 0 zH Try.underlying22 zeroH (by decide) (by rfl) (g := g) (n := n) (c := c) (c2 := c - n) rfl hn3 (n) (Nat.mul_one n).symm; have M2 := Aside0.mk hM2; clear hM2)
  go_wp2
  all_goals go_ret
  · rename_i h
    refine ⟨_, rfl, ?_⟩
    rw [← h]
    exact M2.out
  · exact ⟨_, rfl, M2.out⟩
end Go.Proofs.Ytookpmdgoednfaa.Dk
