/- PageRights' walk. -/
import Derived.Test.YtookpmdgoednfaaPn
import Derived.Test.YtookpmdgoednfaaGr
namespace Go.Proofs.Ytookpmdgoednfaa.Lr
open Go.RowKit Go.Proofs.YtookpmdgoednfaaW.PrintWords Go.Proofs.YtookpmdgoednfaaW.PrintLast Go.Proofs.YtookpmdgoednfaaW.PrintMore Go.Proofs.Ytookpmdgoednfaa.Mx Go.Proofs.Ytookpmdgoednfaa.PPagePuts Go.Proofs.Ytookpmdgoednfaa.Pa Go.Proofs.Ytookpmdgoednfaa.Pn Go.Proofs.Ytookpmdgoednfaa.Gr
set_option linter.unusedVariables false
set_option linter.unusedSimpArgs false
/-- Lengths of what is read are lengths. -/
theorem page_len {w : World} {A : Option Addr} {ps : List (List SP)} (h : Kd.C (Kd.slice 41 kP) w A ps.length ps) : ∀ p ∈ ps, p.length ≤ 9223372036854775807 := by
  intro p hp
  obtain ⟨j, hj, rfl⟩ := List.getElem_of_mem hp
  obtain ⟨ad, A0, c0, _, _, _, hC⟩ := at_L2 h (j : Int) (by omega) (by omega)
  have e : rd_L2 ps (j : Int) = ps[j] := Py.rdL hj
  rw [e] at hC
  exact hC.2.1
set_option maxRecDepth 100000 in
set_option maxHeartbeats 4000000 in
theorem rights_calls (A : Option Addr) (c : Nat) (ps : List (List SP)) (w : World) (hC : Kd.C (Kd.slice 41 kP) w A ps.length ps) (hc : ps.length ≤ c) :
    Calls Try.prog 3 #[.slice A ps.length c] w fun e w' => e = .returned (.bool true) ∧ Mem w w' [] := by
  obtain ⟨k, b, hG, _⟩ := great_ev ps hC.2.1 (page_len hC)
  obtain ⟨k1, hR1⟩ := (Py.page_right ps hC.2.1).rounds
  obtain ⟨k2, hR2⟩ := (Py.ref_right ps hC.2.1).rounds
  obtain ⟨r, hr⟩ : ∃ r, Py.right ps = r := ⟨_, rfl⟩
  rw [hr] at hR1 hR2
  have HG := Aside0.mk hG
  have H1 := Aside0.mk hR1
  have H2 := Aside0.mk hR2
  have HC := Aside0.mk hC
  have HL := Aside0.mk hc
  have M0 := Aside0.mk (Mem.nil w)
  clear hG hR1 hR2 hC hc hr
  cases b with
  | true =>
    go_enter Try.func3, Try.ntmps3
    go_wp2_with (go_at_call 19; refine (falseworklaw7_great.calls k A c ps true _ HC.out HL.out HG.out).mono ?_; rintro e w1 ⟨rfl, hb⟩; have M1 := Aside0.mk (M0.out.grow hb); clear hb)
    go_ret
    exact ⟨rfl, M1.out⟩
  | false =>
    have err : (r == r) = true := by simp
    go_enter Try.func3, Try.ntmps3
    go_wp2_with fail
    refine (falseworklaw7_great.calls k A c ps false _ HC.out HL.out HG.out).mono ?_
    rintro e w1 ⟨rfl, hb⟩
    have M1 := Aside0.mk (M0.out.grow hb)
    clear hb
    go_wp2_with fail
    refine (page_Right.calls k1 A c ps r _ (Kd.C_below HC.out M1.out.below) HL.out H1.out).mono ?_
    rintro e w2 ⟨rfl, hb⟩
    have M2 := Aside0.mk (M1.out.grow hb)
    clear hb
    go_wp2_with fail
    refine (falseworkref7_Right.calls k2 A c ps r _ (Kd.C_below HC.out M2.out.below) HL.out H2.out).mono ?_
    rintro e w3 ⟨rfl, hD⟩
    have M3 := Aside0.mk (M2.out.drawn hD)
    clear hD
    go_wp2_with fail
    refine (awake_calls _).mono ?_
    rintro e w4 ⟨rfl, hM⟩
    have M4 := Aside0.mk (M3.out.trans hM)
    clear hM
    go_wp2
    go_ret
    exact ⟨rfl, M4.out⟩
end Go.Proofs.Ytookpmdgoednfaa.Lr
