/- Walks: page.Del where the only page keeps some pairs. -/
import Derived.Test.YtookpmdgoednfaaDl
namespace Go.Proofs.Ytookpmdgoednfaa.Do
open Go.RowKit Go.Proofs.YtookpmdgoednfaaW.PrintWords Go.Proofs.YtookpmdgoednfaaW.PrintLast Go.Proofs.YtookpmdgoednfaaW.PrintMore Go.Proofs.Ytookpmdgoednfaa.Mx Go.Proofs.Ytookpmdgoednfaa.PPagePuts Go.Proofs.Ytookpmdgoednfaa.Pa Go.Proofs.Ytookpmdgoednfaa.Ps Go.Proofs.Ytookpmdgoednfaa.Dk Go.Proofs.Ytookpmdgoednfaa.Dl
set_option linter.unusedVariables false
set_option linter.unusedSimpArgs false
set_option maxRecDepth 100000 in
set_option maxHeartbeats 8000000 in
theorem Del_keep_only (A : Option Addr) (c : Nat) (ps : List (List SP)) (key : ByteArray) (w : World) (hl : Kd.C (Kd.slice 41 kP) w A ps.length ps) (hc : ps.length ≤ c) (k0 : Nat) (hR : page_Right.f k0 ps = some true) (hne : 0 < ps.length) (hn : ps.length ≤ 100000) (hpp : ∀ p ∈ ps, 0 < p.length ∧ p.length ≤ 8)
    (k : Nat) (hk : k ≤ ps.length) (h1 : ∀ t : Nat, t < k → Op.bytesLess key.toList (fk (rd_L2 ps t)) = false) (h2 : ∀ t : Nat, k ≤ t → t < ps.length → Op.bytesLess key.toList (fk (rd_L2 ps t)) = true)
    (p : List SP) (hp : ps.getD (k - 1) [] = p) (i : Nat) (hi : i ≤ p.length) (g1 : ∀ t : Nat, t < i → Op.bytesLess (rd_T41 p t).f0.toList key.toList = true) (g2 : ∀ t : Nat, i ≤ t → t < p.length → Op.bytesLess (rd_T41 p t).f0.toList key.toList = false) (hth : i < p.length) (he : ((rd_T41 p i).f0.toList == key.toList) = true) (q : List SP) (hq0 : p.eraseIdx i = q) (P : List (List SP)) (hP0 : ps.set (k - 1) q = P) (hq : 0 < q.length) (hmode : k - 1 + 1 = ps.length ∧ k - 1 = 0) :
    Calls Try.prog 32 #[.slice A ps.length c, .string key] w fun e w' => ∃ (v : Value) (hs : List Hd), e = .returned v ∧ PgM w w' v hs (P) [] := by
  have HQ0 := Aside0.mk hq0
  have HPP0 := Aside0.mk hP0
  clear hq0 hP0
  have HQL := Aside0.mk hq
  have HMODE := Aside0.mk hmode
  clear hq hmode
  have HL := Aside0.mk hl
  have HC := Aside0.mk hc
  have HR := Aside0.mk hR
  have M0 := Aside0.mk (Mem.nil w)
  have HPP := Aside0.mk hpp
  have hnk : k - 1 < ps.length := by omega
  have hpm : p ∈ ps := by
    have e : ps.getD (k - 1) [] = ps[k - 1] := by simp [List.getD, hnk]
    rw [← hp, e]
    exact List.getElem_mem hnk
  have HPL := Aside0.mk (hpp p hpm)
  have HOF := Aside0.mk (fun (B : Option Addr) (d : Nat) (W : World) (hC : Kd.C (Kd.slice 41 kP) W B ps.length ps) => of_calls B d ps key W hC (by omega) (fun j hj => by
      have e : rd_L2 ps (j : Int) = ps[j] := by unfold rd_L2; simp [List.getD, hj]
      rw [e]
      exact (hpp _ (List.getElem_mem hj)).1) k hk h1 h2)
  have HAT := Aside0.mk (fun (B : Option Addr) (d : Nat) (W : World) (hC : Kd.C kP W B p.length p) => at_calls B d p key W hC (by have := (hpp p hpm).2; omega) i hi g1 g2 true (by rw [decide_eq_true hth, he]; rfl))
  have hnz : ((ps.length : Int) == 0) = false := beq_eq_false_iff_ne.mpr (by omega)
  have hnz2 : ¬ (ps.length : Int) = 0 := by omega
  have HP := Aside0.mk hp
  have HN := Aside0.mk hn
  have HI := Aside0.mk hi
  obtain ⟨n, hnn⟩ : ∃ n, n = k - 1 := ⟨_, rfl⟩
  rw [← hnn] at hnk
  have HNN := Aside0.mk hnn
  clear hl hc hR hpp hpm h1 h2 g1 g2 hp hn hi hk hne hnn
  go_enter Try.func32, Try.ntmps32
  go_wp2_with fail
  refine (page_Right.calls k0 A c ps true _ HL.out HC.out HR.out).mono ?_
  rintro e w1 ⟨rfl, hb⟩
  have M1 := Aside0.mk (M0.out.grow hb)
  clear hb
  go_wp2_with fail
  refine (copied_calls A c ps _ (Kd.C_below HL.out M1.out.below) (by have := HN.out; omega) (fun q hq => by have := (HPP.out q hq).2; omega)).mono ?_
  rintro e w2 ⟨v, hs, rfl, hM⟩
  obtain ⟨B, d, rfl, _, _, hC⟩ := hM.read
  have M2 := Aside0.mk (show PgM w w2 _ hs ps [] from ⟨hM.len, (M1.out.trans hM.mem).reindex id id (fun j r hj => ⟨by simpa using hj, rfl⟩)⟩)
  have HC2 := Aside0.mk hC
  clear hM hC M1 M0
  go_wp2_with fail
  refine (HOF.out B d _ HC2.out).mono ?_
  rintro e w3 ⟨rfl, hM⟩
  have M3 := Aside0.mk (M2.out.grow hM.below)
  clear hM M2 HC2
  obtain ⟨g, cap, hd, he, hhd, hcell, hfr, hg, hmem⟩ := M3.out.open_ n hnk
  cases he
  rw [HNN.out, HP.out, ← HNN.out] at hmem
  obtain ⟨g2, c2, hv2, _, hg2, _⟩ := Kd.R_form (hmem.hold (i := 1) rfl) HPL.out.1
  have hdv : hd = ⟨some ⟨g2, 0, none⟩, p.length, c2⟩ := by
    obtain ⟨a, b, c⟩ := hd
    injection hv2 with e1 e2 e3
    subst e1; subst e2; subst e3; rfl
  subst hdv
  change w3.cell? _ = some (.slice (some ⟨g2, 0, none⟩) p.length c2) at hcell
  have M4 := Aside0.mk hmem
  have HHD := Aside0.mk hhd
  clear hmem hhd hv2
  rw [← HNN.out]
  have hi1 : ((n : Int) < (ps.length : Int)) = True := eq_true (by omega)
  have hi2 : n < ps.length := hnk
  have hnb : n < 1000000 := by have := HN.out; omega
  go_wp2_with fail
  refine (HAT.out (some ⟨g2, 0, none⟩) c2 _ (M4.out.row_C 1 rfl)).mono ?_
  rintro e w4 ⟨rfl, hM⟩
  have M5 := Aside0.mk (M4.out.grow hM.below)
  have hcell4 := (hM.below.cell hg).trans hcell
  have hfr4 := (hM.below.frozen hg).trans hfr
  have hg4 := Nat.lt_of_lt_of_le hg hM.below.size
  have hb4 := Aside0.mk hM.below
  have M3' := Aside0.mk (M3.out.grow hM.below)
  clear hM M3 M4 hcell hfr hg
  have hj1 : ((i : Int) < (p.length : Int)) = True := eq_true (by omega)
  have hj2 : i < p.length := hth
  have hib : i < 1000000 := by have := HPL.out.2; omega
  have HPL8 := Aside0.mk (show p.length ≤ 1000000 by have := HPL.out.2; omega)
  have M6 := Aside0.mk (Mem.sel (ps := [_, _]) (F := inner (hs.take n) (ps.take n) ++ (inner (hs.drop (n + 1)) (ps.drop (n + 1)) ++ [])) [1, 0] 2 M5.out rfl rfl)
  go_wp2_with fail
  refine (delP_calls w _ _ _ p i M6.out hj2 HPL8.out).mono ?_
  rintro e w5 ⟨v', rfl, hM⟩
  rw [HQ0.out] at hM
  obtain ⟨B2, d2, rfl, hcd, _⟩ := hM.row_at 0 rfl
  have M7 := Aside0.mk hM
  obtain ⟨k1, k2, k3, k4⟩ := Mem.hd_cell' hM 1 rfl n hnk
  obtain ⟨ov, k0'⟩ := Option.isSome_iff_exists.1 k1
  have K4 := Aside0.mk k4
  clear hM M5 M6 hcell4 hfr4 hg4 k1 k4 hcd
  go_upto_region 9 with (fail)
  have M8 := Aside0.mk (PgM.shut_ (hs := hs) (ps := ps) (n := n) (F := []) M3'.out.len hnk ⟨B2, q.length, d2⟩ q (Mem.sel (ps := [_, _]) (F := inner (hs.take n) (ps.take n) ++ (inner (hs.drop (n + 1)) (ps.drop (n + 1)) ++ [])) [1, 0] 2 (K4.out ⟨B2, q.length, d2⟩) rfl rfl))
  obtain ⟨wx, hwx⟩ : ∃ wx, w5.setCell ⟨g, n, none⟩ (Hd.v ⟨B2, q.length, d2⟩) = wx := ⟨_, rfl⟩
  rw [hwx] at M8
  change w5.setCell ⟨g, n, none⟩ (.slice B2 q.length d2) = wx at hwx
  rw [hwx]
  have HNN' := Aside0.mk (show ps.set n q = P by rw [HNN.out]; exact HPP0.out)
  rw [HNN'.out] at M8
  have M9 := M8
  clear M8 M7 K4 k0' k2 k3 hwx
  obtain ⟨hs2, hhs2⟩ : ∃ hs2, hs.set n ⟨B2, q.length, d2⟩ = hs2 := ⟨_, rfl⟩
  rw [hhs2] at M9
  have hPl : P.length = ps.length := by rw [← HNN'.out, List.length_set]
  have hPn : P.getD n [] = q := by rw [← HNN'.out]; simp [List.getD, hnk]
  obtain ⟨B3, d3, hcn, _⟩ := PgM.cell M9.out n (by omega)
  rw [hPn] at hcn
  have HPL2 := Aside0.mk hPl
  have HPN := Aside0.mk hPn
  have hgx : g < wx.heap.size := World.block_lt_of_cell? wx _ hcn
  clear hPn hPl hhs2
  have hql : ¬ (q.length : Int) = 0 := by have := HQL.out; omega
  have hql2 : ((q.length : Int) == 0) = false := beq_eq_false_iff_ne.mpr hql
  have hf1 : ((n : Int) + 1 == (ps.length : Int)) = true := by have := HMODE.out; have := HNN.out; simp; omega
  have hf2 : (n : Int) + 1 = (ps.length : Int) := by have := HMODE.out; have := HNN.out; omega
  go_upto_region 14 with (fail)
  rw [show (n : Int) - 1 = -1 by have := HMODE.out; have := HNN.out; omega]
  have hm1 : decide ((-1 : Int) < 0) = true := by decide
  clear hcn hf1 hf2
  go_quiet (fail)
  go_wp2
  go_ret
  exact ⟨_, hs2, rfl, ⟨M9.out.len, M9.out.mem.drewN _⟩⟩
end Go.Proofs.Ytookpmdgoednfaa.Do
