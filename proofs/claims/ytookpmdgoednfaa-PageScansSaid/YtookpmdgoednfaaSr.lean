/- PageScans' walk. -/
import Derived.Test.YtookpmdgoednfaaSb
import Derived.Test.YtookpmdgoednfaaGb
import Derived.Test.YtookpmdgoednfaaLr
namespace Go.Proofs.Ytookpmdgoednfaa.Sr
open Go.RowKit Go.Proofs.YtookpmdgoednfaaW.PrintWords Go.Proofs.YtookpmdgoednfaaW.PrintLast Go.Proofs.YtookpmdgoednfaaW.PrintMore Go.Proofs.Ytookpmdgoednfaa.Mx Go.Proofs.Ytookpmdgoednfaa.PPagePuts Go.Proofs.Ytookpmdgoednfaa.Pa Go.Proofs.Ytookpmdgoednfaa.Pn Go.Proofs.Ytookpmdgoednfaa.Gr
set_option linter.unusedVariables false
set_option linter.unusedSimpArgs false
set_option maxRecDepth 100000 in
set_option maxHeartbeats 4000000 in
theorem scans_calls (A : Option Addr) (c : Nat) (ps : List (List SP)) (key lo hi : ByteArray) (n : Int) (w : World) (hC : Kd.C (Kd.slice 41 kP) w A ps.length ps) (hc : ps.length ≤ c) :
    Calls Try.prog 5 #[.slice A ps.length c, .string key, .string lo, .string hi, .int .i64 n] w fun e w' => e = .returned (.bool true) ∧ Mem w w' [] := by
  obtain ⟨k, b, hG, hg⟩ := great_ev ps hC.2.1 (Lr.page_len hC)
  have HG := Aside0.mk hG
  have HC := Aside0.mk hC
  have HL := Aside0.mk hc
  have M0 := Aside0.mk (Mem.nil w)
  clear hG hC hc
  cases b with
  | true =>
    clear hg
    go_enter Try.func5, Try.ntmps5
    go_wp2_with fail
    refine (falseworklaw7_great.calls k A c ps true _ HC.out HL.out HG.out).mono ?_
    rintro e w1 ⟨rfl, hb⟩
    have M1 := Aside0.mk (M0.out.grow hb)
    clear hb
    go_wp2_with fail
    refine (awake_calls _).mono ?_
    rintro e w4 ⟨rfl, hM⟩
    have M9 := Aside0.mk (M1.out.trans hM)
    clear hM
    go_wp2
    go_ret
    exact ⟨rfl, M9.out.reindex id id (fun i r hi => by simp at hi)⟩
  | false =>
    have hN := hg rfl
    clear hg
    by_cases h1 : 1000 < key.size
    · have hd1 : decide (1000 < (key.size : Int)) = true := decide_eq_true (by omega)
      clear h1 hN
      go_enter Try.func5, Try.ntmps5
      go_wp2_with fail
      refine (falseworklaw7_great.calls k A c ps false _ HC.out HL.out HG.out).mono ?_
      rintro e w1 ⟨rfl, hb⟩
      have M1 := Aside0.mk (M0.out.grow hb)
      clear hb
      go_wp2_with fail
      refine (awake_calls _).mono ?_
      rintro e w4 ⟨rfl, hM⟩
      have M9 := Aside0.mk (M1.out.trans hM)
      clear hM
      go_wp2
      go_ret
      exact ⟨rfl, M9.out.reindex id id (fun i r hi => by simp at hi)⟩
    · skip
      by_cases h2 : 1000 < lo.size
      · have hd2 : decide (1000 < (lo.size : Int)) = true := decide_eq_true (by omega)
        have hd1 : decide (1000 < (key.size : Int)) = false := decide_eq_false (by omega)
        clear h1 h2 hN
        go_enter Try.func5, Try.ntmps5
        go_wp2_with fail
        refine (falseworklaw7_great.calls k A c ps false _ HC.out HL.out HG.out).mono ?_
        rintro e w1 ⟨rfl, hb⟩
        have M1 := Aside0.mk (M0.out.grow hb)
        clear hb
        go_wp2_with fail
        refine (awake_calls _).mono ?_
        rintro e w4 ⟨rfl, hM⟩
        have M9 := Aside0.mk (M1.out.trans hM)
        clear hM
        go_wp2
        go_ret
        exact ⟨rfl, M9.out.reindex id id (fun i r hi => by simp at hi)⟩
      · skip
        by_cases h3 : 1000 < hi.size
        · have hd3 : decide (1000 < (hi.size : Int)) = true := decide_eq_true (by omega)
          have hd1 : decide (1000 < (key.size : Int)) = false := decide_eq_false (by omega)
          have hd2 : decide (1000 < (lo.size : Int)) = false := decide_eq_false (by omega)
          clear h1 h2 h3 hN
          go_enter Try.func5, Try.ntmps5
          go_wp2_with fail
          refine (falseworklaw7_great.calls k A c ps false _ HC.out HL.out HG.out).mono ?_
          rintro e w1 ⟨rfl, hb⟩
          have M1 := Aside0.mk (M0.out.grow hb)
          clear hb
          go_wp2_with fail
          refine (awake_calls _).mono ?_
          rintro e w4 ⟨rfl, hM⟩
          have M9 := Aside0.mk (M1.out.trans hM)
          clear hM
          go_wp2
          go_ret
          exact ⟨rfl, M9.out.reindex id id (fun i r hi => by simp at hi)⟩
        · skip
          have hd1 : decide (1000 < (key.size : Int)) = false := decide_eq_false (by omega)
          have hd2 : decide (1000 < (lo.size : Int)) = false := decide_eq_false (by omega)
          have hd3 : decide (1000 < (hi.size : Int)) = false := decide_eq_false (by omega)
          clear h1 h2 h3
          obtain ⟨v, g, hget, href⟩ := Gb.both_get ps key hN.1
          obtain ⟨res, hrl, hscan, hrs⟩ := Sb.both_scan ps lo hi n hN.1
          obtain ⟨k1, hr1⟩ := href.rounds
          obtain ⟨k2, hr2⟩ := hrs.rounds
          obtain ⟨k3, hp3⟩ := (Pz.pairs_ev res res (Pz.Al_refl res) hrl).rounds
          have HGET := Aside0.mk hget
          have HSCAN := Aside0.mk hscan
          have H1 := Aside0.mk hr1
          have H2 := Aside0.mk hr2
          have H3 := Aside0.mk hp3
          have e1 : (v.toList == v.toList) = true := by simp
          have e2 : (g == g) = true := by simp
          clear hN hget hscan href hrs hr1 hr2 hp3 hrl
          go_enter Try.func5, Try.ntmps5
          go_wp2_with fail
          refine (falseworklaw7_great.calls k A c ps false _ HC.out HL.out HG.out).mono ?_
          rintro e w1 ⟨rfl, hb⟩
          have M1 := Aside0.mk (M0.out.grow hb)
          clear hb
          go_wp2_with fail
          refine (HGET.out A c _ (Kd.C_below HC.out M1.out.below) HL.out).mono ?_
          rintro e w2 ⟨rfl, hM⟩
          have M2 := Aside0.mk (M1.out.trans hM)
          clear hM
          go_wp2_with fail
          refine (falseworkref7_Get.calls k1 A c ps key v g _ (Kd.C_below HC.out M2.out.below) HL.out H1.out).mono ?_
          rintro e w3 ⟨rfl, hD⟩
          have M3 := Aside0.mk (M2.out.drawn hD)
          clear hD
          go_wp2_with fail
          refine (HSCAN.out A c _ (Kd.C_below HC.out M3.out.below) HL.out).mono ?_
          rintro e w4 ⟨v4, rfl, hM⟩
          obtain ⟨A4, c4, rfl, hc4, hC4⟩ := hM.row_at 0 rfl
          have M4 := Aside0.mk (M3.out.trans hM)
          have HC4 := Aside0.mk hC4
          have HL4 := Aside0.mk hc4
          clear hM hC4 hc4
          go_wp2_with fail
          refine (falseworkref7_Scan.calls k2 A c ps lo hi n res _ (Kd.C_below HC.out M4.out.below) HL.out H2.out).mono ?_
          rintro e w5 ⟨v5, rfl, hR, hb⟩
          obtain ⟨A5, c5, rfl, hc5, hC5⟩ := Kd.R_reads hR
          have M5 := Aside0.mk (M4.out.grow hb)
          have HC5 := Aside0.mk hC5
          have HL5 := Aside0.mk hc5
          have HC45 := Aside0.mk (Kd.C_below HC4.out hb)
          clear hR hb hC5 hc5
          go_wp2_with fail
          refine (falseworkref7_Pairs.calls k3 A4 c4 res A5 c5 res true _ HC45.out HL4.out HC5.out HL5.out H3.out).mono ?_
          rintro e w6 ⟨rfl, hD⟩
          have M6 := Aside0.mk (M5.out.drawn hD)
          clear hD
          go_wp2_with fail
          refine (awake_calls _).mono ?_
          rintro e w4 ⟨rfl, hM⟩
          have M9 := Aside0.mk (M6.out.trans hM)
          clear hM
          go_wp2
          go_ret
          exact ⟨rfl, M9.out.reindex id id (fun i r hi => by simp at hi)⟩
end Go.Proofs.Ytookpmdgoednfaa.Sr
