/- Walks: page.Get. -/
import Derived.Test.YtookpmdgoednfaaPo
import Derived.Test.YtookpmdgoednfaaPs
namespace Go.Proofs.Ytookpmdgoednfaa.Ge
open Go.RowKit Go.Proofs.YtookpmdgoednfaaW.PrintWords Go.Proofs.YtookpmdgoednfaaW.PrintLast Go.Proofs.YtookpmdgoednfaaW.PrintMore Go.Proofs.Ytookpmdgoednfaa.Mx Go.Proofs.Ytookpmdgoednfaa.PPagePuts Go.Proofs.Ytookpmdgoednfaa.Pa Go.Proofs.Ytookpmdgoednfaa.Ps
set_option linter.unusedVariables false
set_option linter.unusedSimpArgs false
set_option maxRecDepth 100000 in
set_option maxHeartbeats 8000000 in
theorem Get_not (A : Option Addr) (c : Nat) (ps : List (List SP)) (key : ByteArray) (w : World) (hl : Kd.C (Kd.slice 41 kP) w A ps.length ps) (hc : ps.length ≤ c) (k0 : Nat) (hR : page_Right.f k0 ps = some false) :
    Calls Try.prog 27 #[.slice A ps.length c, .string key] w fun e w' => e = .returned (.tuple #[.string ⟨#[]⟩, .bool false]) ∧ Mem w w' [] := by
  have HL := Aside0.mk hl
  have HC := Aside0.mk hc
  have HR := Aside0.mk hR
  have M0 := Aside0.mk (Mem.nil w)
  clear hl hc hR
  go_enter Try.func27, Try.ntmps27
  go_wp2_with fail
  refine (page_Right.calls k0 A c ps false _ HL.out HC.out HR.out).mono ?_
  rintro e w1 ⟨rfl, hb⟩
  have M1 := Aside0.mk (M0.out.grow hb)
  clear hb
  go_wp2
  go_ret2
  exact ⟨rfl, M1.out⟩
set_option maxRecDepth 100000 in
set_option maxHeartbeats 8000000 in
theorem Get_none (A : Option Addr) (c : Nat) (key : ByteArray) (w : World) (hl : Kd.C (Kd.slice 41 kP) w A 0 []) (k0 : Nat) (hR : page_Right.f k0 [] = some true) :
    Calls Try.prog 27 #[.slice A 0 c, .string key] w fun e w' => e = .returned (.tuple #[.string ⟨#[]⟩, .bool false]) ∧ Mem w w' [] := by
  have HL := Aside0.mk hl
  have HR := Aside0.mk hR
  have M0 := Aside0.mk (Mem.nil w)
  clear hl hR
  go_enter Try.func27, Try.ntmps27
  go_wp2_with fail
  refine (page_Right.calls k0 A c [] true _ HL.out (Nat.zero_le _) HR.out).mono ?_
  rintro e w1 ⟨rfl, hb⟩
  have M1 := Aside0.mk (M0.out.grow hb)
  clear hb
  go_wp2
  go_ret2
  exact ⟨rfl, M1.out⟩
set_option maxRecDepth 100000 in
set_option maxHeartbeats 8000000 in
theorem Get_there (A : Option Addr) (c : Nat) (ps : List (List SP)) (key : ByteArray) (w : World) (hl : Kd.C (Kd.slice 41 kP) w A ps.length ps) (hc : ps.length ≤ c) (k0 : Nat) (hR : page_Right.f k0 ps = some true) (hne : 0 < ps.length) (hn : ps.length ≤ 100000) (hpp : ∀ p ∈ ps, 0 < p.length ∧ p.length ≤ 8)
    (k : Nat) (hk : k ≤ ps.length) (h1 : ∀ t : Nat, t < k → Op.bytesLess key.toList (fk (rd_L2 ps t)) = false) (h2 : ∀ t : Nat, k ≤ t → t < ps.length → Op.bytesLess key.toList (fk (rd_L2 ps t)) = true)
    (p : List SP) (hp : ps.getD (k - 1) [] = p) (i : Nat) (hi : i ≤ p.length) (g1 : ∀ t : Nat, t < i → Op.bytesLess (rd_T41 p t).f0.toList key.toList = true) (g2 : ∀ t : Nat, i ≤ t → t < p.length → Op.bytesLess (rd_T41 p t).f0.toList key.toList = false) (hb : (decide (i < p.length) && ((rd_T41 p i).f0.toList == key.toList)) = true) (hth : i < p.length) :
    Calls Try.prog 27 #[.slice A ps.length c, .string key] w fun e w' => e = .returned (.tuple #[.string (rd_T41 p i).f1, .bool true]) ∧ Mem w w' [] := by
  have HL := Aside0.mk hl
  have HC := Aside0.mk hc
  have HR := Aside0.mk hR
  have M0 := Aside0.mk (Mem.nil w)
  have hnk : k - 1 < ps.length := by omega
  have hpm : p ∈ ps := by
    have e : ps.getD (k - 1) [] = ps[k - 1] := by simp [List.getD, hnk]
    rw [← hp, e]
    exact List.getElem_mem hnk
  have hp8 := (hpp p hpm).2
  have HOF := Aside0.mk (fun (B : Option Addr) (d : Nat) (W : World) (hC : Kd.C (Kd.slice 41 kP) W B ps.length ps) => of_calls B d ps key W hC (by omega) (fun j hj => by
      have e : rd_L2 ps (j : Int) = ps[j] := by unfold rd_L2; simp [List.getD, hj]
      rw [e]
      exact (hpp _ (List.getElem_mem hj)).1) k hk h1 h2)
  have HAT := Aside0.mk (fun (B : Option Addr) (d : Nat) (W : World) (hC : Kd.C kP W B p.length p) => at_calls B d p key W hC (by omega) i hi g1 g2 true hb.symm)
  have hnz : ((ps.length : Int) == 0) = false := beq_eq_false_iff_ne.mpr (by omega)
  have hnz2 : ¬ (ps.length : Int) = 0 := by omega
  obtain ⟨n, hnn⟩ : ∃ n, n = k - 1 := ⟨_, rfl⟩
  rw [← hnn] at hnk hp
  have HNN := Aside0.mk hnn
  obtain ⟨ad, B, d, e, hy, hd0, hC0⟩ := at_L2 hl (n : Int) (by omega) (by omega)
  cases e
  rw [show rd_L2 ps (n : Int) = p by unfold rd_L2; simpa using hp, Int.toNat_natCast] at hy
  rw [show rd_L2 ps (n : Int) = p by unfold rd_L2; simpa using hp] at hd0 hC0
  have hyl := World.block_lt_of_cell? w _ hy
  have HCP := Aside0.mk hC0
  obtain ⟨ap, e, _, hz⟩ := at_T41 hC0 (i : Int) (by omega) (by omega)
  cases e
  rw [Int.toNat_natCast] at hz
  have hzl := World.block_lt_of_cell? w _ hz
  have HZ := Aside0.mk hz
  have HI2 := Aside0.mk (show ((i : Int) < (p.length : Int)) = True from eq_true (by omega))
  clear hz
  have hib : i < 1000000 := by omega
  have hi1 : ((n : Int) < (ps.length : Int)) = True := eq_true (by omega)
  have hnb : n < 1000000 := by omega
  clear hl hc hR hpp hpm h1 h2 g1 g2 hp hn hi hk hne hnn hd0 hC0 hp8
  go_enter Try.func27, Try.ntmps27
  go_wp2_with fail
  refine (page_Right.calls k0 (some ad) c ps true _ HL.out HC.out HR.out).mono ?_
  rintro e w1 ⟨rfl, hb1⟩
  have M1 := Aside0.mk (M0.out.grow hb1)
  clear hb1
  go_wp2_with fail
  refine (HOF.out (some ad) c _ (Kd.C_below HL.out M1.out.below)).mono ?_
  rintro e w2 ⟨rfl, hM⟩
  have M2 := Aside0.mk (M1.out.trans hM)
  clear hM
  rw [← HNN.out]
  have hy2 := (M2.out.below.cell hyl).trans hy
  go_wp2_with fail
  refine (HAT.out (some ap) d _ (Kd.C_below HCP.out M2.out.below)).mono ?_
  rintro e w3 ⟨rfl, hM⟩
  have M3 := Aside0.mk (M2.out.trans hM)
  clear hM
  have hz3 := (M3.out.below.cell (p := ⟨(ap.add (i * 2)).block, (ap.add (i * 2)).off + 1, none⟩) hzl).trans HZ.out
  have hi2 := HI2.out
  clear hy2 hy hi1
  go_wp2
  go_ret2
  exact ⟨rfl, M3.out⟩
set_option maxRecDepth 100000 in
set_option maxHeartbeats 8000000 in
theorem Get_away (A : Option Addr) (c : Nat) (ps : List (List SP)) (key : ByteArray) (w : World) (hl : Kd.C (Kd.slice 41 kP) w A ps.length ps) (hc : ps.length ≤ c) (k0 : Nat) (hR : page_Right.f k0 ps = some true) (hne : 0 < ps.length) (hn : ps.length ≤ 100000) (hpp : ∀ p ∈ ps, 0 < p.length ∧ p.length ≤ 8)
    (k : Nat) (hk : k ≤ ps.length) (h1 : ∀ t : Nat, t < k → Op.bytesLess key.toList (fk (rd_L2 ps t)) = false) (h2 : ∀ t : Nat, k ≤ t → t < ps.length → Op.bytesLess key.toList (fk (rd_L2 ps t)) = true)
    (p : List SP) (hp : ps.getD (k - 1) [] = p) (i : Nat) (hi : i ≤ p.length) (g1 : ∀ t : Nat, t < i → Op.bytesLess (rd_T41 p t).f0.toList key.toList = true) (g2 : ∀ t : Nat, i ≤ t → t < p.length → Op.bytesLess (rd_T41 p t).f0.toList key.toList = false) (hb : (decide (i < p.length) && ((rd_T41 p i).f0.toList == key.toList)) = false) :
    Calls Try.prog 27 #[.slice A ps.length c, .string key] w fun e w' => e = .returned (.tuple #[.string ⟨#[]⟩, .bool false]) ∧ Mem w w' [] := by
  have HL := Aside0.mk hl
  have HC := Aside0.mk hc
  have HR := Aside0.mk hR
  have M0 := Aside0.mk (Mem.nil w)
  have hnk : k - 1 < ps.length := by omega
  have hpm : p ∈ ps := by
    have e : ps.getD (k - 1) [] = ps[k - 1] := by simp [List.getD, hnk]
    rw [← hp, e]
    exact List.getElem_mem hnk
  have hp8 := (hpp p hpm).2
  have HOF := Aside0.mk (fun (B : Option Addr) (d : Nat) (W : World) (hC : Kd.C (Kd.slice 41 kP) W B ps.length ps) => of_calls B d ps key W hC (by omega) (fun j hj => by
      have e : rd_L2 ps (j : Int) = ps[j] := by unfold rd_L2; simp [List.getD, hj]
      rw [e]
      exact (hpp _ (List.getElem_mem hj)).1) k hk h1 h2)
  have HAT := Aside0.mk (fun (B : Option Addr) (d : Nat) (W : World) (hC : Kd.C kP W B p.length p) => at_calls B d p key W hC (by omega) i hi g1 g2 false hb.symm)
  have hnz : ((ps.length : Int) == 0) = false := beq_eq_false_iff_ne.mpr (by omega)
  have hnz2 : ¬ (ps.length : Int) = 0 := by omega
  obtain ⟨n, hnn⟩ : ∃ n, n = k - 1 := ⟨_, rfl⟩
  rw [← hnn] at hnk hp
  have HNN := Aside0.mk hnn
  obtain ⟨ad, B, d, e, hy, hd0, hC0⟩ := at_L2 hl (n : Int) (by omega) (by omega)
  cases e
  rw [show rd_L2 ps (n : Int) = p by unfold rd_L2; simpa using hp, Int.toNat_natCast] at hy
  rw [show rd_L2 ps (n : Int) = p by unfold rd_L2; simpa using hp] at hd0 hC0
  have hyl := World.block_lt_of_cell? w _ hy
  have HCP := Aside0.mk hC0
  have hi1 : ((n : Int) < (ps.length : Int)) = True := eq_true (by omega)
  have hnb : n < 1000000 := by omega
  clear hl hc hR hpp hpm h1 h2 g1 g2 hp hn hi hk hne hnn hd0 hC0 hp8
  go_enter Try.func27, Try.ntmps27
  go_wp2_with fail
  refine (page_Right.calls k0 (some ad) c ps true _ HL.out HC.out HR.out).mono ?_
  rintro e w1 ⟨rfl, hb1⟩
  have M1 := Aside0.mk (M0.out.grow hb1)
  clear hb1
  go_wp2_with fail
  refine (HOF.out (some ad) c _ (Kd.C_below HL.out M1.out.below)).mono ?_
  rintro e w2 ⟨rfl, hM⟩
  have M2 := Aside0.mk (M1.out.trans hM)
  clear hM
  rw [← HNN.out]
  have hy2 := (M2.out.below.cell hyl).trans hy
  go_wp2_with fail
  refine (HAT.out (B) d _ (Kd.C_below HCP.out M2.out.below)).mono ?_
  rintro e w3 ⟨rfl, hM⟩
  have M3 := Aside0.mk (M2.out.trans hM)
  clear hM
  go_wp2
  go_ret2
  exact ⟨rfl, M3.out⟩
end Go.Proofs.Ytookpmdgoednfaa.Ge
