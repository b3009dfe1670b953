/- PageDels' walk. -/
import Derived.Test.YtookpmdgoednfaaDp
import Derived.Test.YtookpmdgoednfaaLr
namespace Go.Proofs.Ytookpmdgoednfaa.Dw
open Go.RowKit Go.Proofs.YtookpmdgoednfaaW.PrintWords Go.Proofs.YtookpmdgoednfaaW.PrintLast Go.Proofs.YtookpmdgoednfaaW.PrintMore Go.Proofs.Ytookpmdgoednfaa.Mx Go.Proofs.Ytookpmdgoednfaa.PPagePuts Go.Proofs.Ytookpmdgoednfaa.Pa Go.Proofs.Ytookpmdgoednfaa.Pn Go.Proofs.Ytookpmdgoednfaa.Gr
set_option linter.unusedVariables false
set_option linter.unusedSimpArgs false
set_option maxRecDepth 100000 in
set_option maxHeartbeats 4000000 in
theorem dels_calls (A : Option Addr) (c : Nat) (ps : List (List SP)) (key : ByteArray) (w : World) (hC : Kd.C (Kd.slice 41 kP) w A ps.length ps) (hc : ps.length ≤ c) :
    Calls Try.prog 6 #[.slice A ps.length c, .string key] w fun e w' => e = .returned (.bool true) ∧ Mem w w' [] := by
  obtain ⟨k, b, hG, hg⟩ := great_ev ps hC.2.1 (Lr.page_len hC)
  have HG := Aside0.mk hG
  have HC := Aside0.mk hC
  have HL := Aside0.mk hc
  have M0 := Aside0.mk (Mem.nil w)
  clear hG hC hc
  cases b with
  | true =>
    clear hg
    go_enter Try.func6, Try.ntmps6
    go_wp2_with fail
    refine (falseworklaw7_great.calls k A c ps true _ HC.out HL.out HG.out).mono ?_
    rintro e w1 ⟨rfl, hb⟩
    have M1 := Aside0.mk (M0.out.grow hb)
    clear hb
    go_wp2_with fail
    refine (awake_calls _).mono ?_
    rintro e w9 ⟨rfl, hM⟩
    have M9 := Aside0.mk (M1.out.trans hM)
    clear hM
    go_wp2
    go_ret
    exact ⟨rfl, M9.out.reindex id id (fun i r hi => by simp at hi)⟩
  | false =>
    have hN := hg rfl
    clear hg
    by_cases h1 : 1000 < key.size
    · have hd1 : decide (1000 < (key.size : Int)) = true := decide_eq_true (by omega)
      clear h1 hN
      go_enter Try.func6, Try.ntmps6
      go_wp2_with fail
      refine (falseworklaw7_great.calls k A c ps false _ HC.out HL.out HG.out).mono ?_
      rintro e w1 ⟨rfl, hb⟩
      have M1 := Aside0.mk (M0.out.grow hb)
      clear hb
      go_wp2_with fail
      refine (awake_calls _).mono ?_
      rintro e w9 ⟨rfl, hM⟩
      have M9 := Aside0.mk (M1.out.trans hM)
      clear hM
      go_wp2
      go_ret
      exact ⟨rfl, M9.out.reindex id id (fun i r hi => by simp at hi)⟩
    · have hd1 : decide (1000 < (key.size : Int)) = false := decide_eq_false (by omega)
      clear h1
      obtain ⟨a, hB⟩ := Dp.both ps key hN.1 (fun p hp => Nat.le_trans (hN.2 p hp) (by decide))
      obtain ⟨k1, hcop⟩ := (Pz.copied_ev ps (Nat.le_trans hN.1 (by decide)) (fun p hp => Nat.le_trans (hN.2 p hp) (by decide))).rounds
      obtain ⟨k3, hpg1⟩ := (Pz.pages_ev a a (Pz.Als_refl a) hB.len hB.one).rounds
      obtain ⟨k4, hpg2⟩ := (Pz.pages_ev ps ps (Pz.Als_refl ps) (Nat.le_trans hN.1 (by decide)) (fun p hp => Nat.le_trans (hN.2 p hp) (by decide))).rounds
      have HP := Aside0.mk hB.prg
      have HR := Aside0.mk hB.ref
      have H1 := Aside0.mk hcop
      have H3 := Aside0.mk hpg1
      have H4 := Aside0.mk hpg2
      clear hN hB hcop hpg1 hpg2
      go_enter Try.func6, Try.ntmps6
      go_wp2_with fail
      refine (falseworklaw7_great.calls k A c ps false _ HC.out HL.out HG.out).mono ?_
      rintro e w1 ⟨rfl, hb⟩
      have M1 := Aside0.mk (M0.out.grow hb)
      clear hb
      go_wp2_with fail
      refine (falseworklaw7_copied.calls k1 A c ps ps _ (Kd.C_below HC.out M1.out.below) HL.out H1.out).mono ?_
      rintro e w2 ⟨v, rfl, hS, hb⟩
      have M2 := Aside0.mk (M1.out.grow hb)
      obtain ⟨A1, c1, rfl, hc1, hC1⟩ := Kd.S_reads hS
      have HC1 := Aside0.mk hC1
      have HL1 := Aside0.mk hc1
      clear hb hS hC1 hc1
      go_wp2_with fail
      refine (HP.out A c _ (Kd.C_below HC.out M2.out.below) HL.out).mono ?_
      rintro e w3 ⟨v, hs, rfl, hM⟩
      obtain ⟨A2, c2, rfl, hc2, _, hC2⟩ := hM.read
      have M3 := Aside0.mk (M2.out.trans hM.mem)
      have M31 := Aside0.mk hM.mem.below
      have HC2 := Aside0.mk hC2
      have HL2 := Aside0.mk hc2
      clear hM hC2 hc2
      go_wp2_with fail
      refine (HR.out A c _ (Kd.C_below HC.out M3.out.below) HL.out).mono ?_
      rintro e w4 ⟨v, hs2, rfl, hM⟩
      obtain ⟨A3, c3, rfl, hc3, _, hC3⟩ := hM.read
      have hb := hM.mem.below
      have M4 := Aside0.mk (M3.out.trans hM.mem)
      have HC22 := Aside0.mk (Kd.C_below HC2.out hb)
      have HC3 := Aside0.mk hC3
      have HL3 := Aside0.mk hc3
      have HC12 := Aside0.mk (Kd.C_below (Kd.C_below HC1.out M31.out) hb)
      clear hM hb hC3 hc3
      go_wp2_with fail
      refine (falseworkref7_Pages.calls k3 A2 c2 a A3 c3 a true _ HC22.out HL2.out HC3.out HL3.out H3.out).mono ?_
      rintro e w5 ⟨rfl, hD⟩
      have M5 := Aside0.mk (M4.out.drawn hD)
      have HC13 := Aside0.mk (Kd.C_below HC12.out hD.below)
      clear hD
      go_wp2_with fail
      refine (falseworkref7_Pages.calls k4 A c ps A1 c1 ps true _ (Kd.C_below HC.out M5.out.below) HL.out HC13.out HL1.out H4.out).mono ?_
      rintro e w6 ⟨rfl, hD⟩
      have M6 := Aside0.mk (M5.out.drawn hD)
      clear hD
      go_wp2_with fail
      refine (awake_calls _).mono ?_
      rintro e w9 ⟨rfl, hM⟩
      have M9 := Aside0.mk (M6.out.trans hM)
      clear hM
      go_wp2
      go_ret
      exact ⟨rfl, M9.out.reindex id id (fun i r hi => by simp at hi)⟩
end Go.Proofs.Ytookpmdgoednfaa.Dw
