/- Texts laid together: Hm. No condition. -/
import Derived.Test.YtggbjokhniigkaaYGz6
set_option linter.unusedVariables false
set_option linter.unusedSimpArgs false
set_option maxRecDepth 100000
set_option maxHeartbeats 8000000
namespace Go.Proofs.Ytggbjokhniigkaa.Hm
open Ty Go.RowKit YtggbjokhniigkaaW.PrintWords YtggbjokhniigkaaW.PrintLast YtggbjokhniigkaaW.PrintMore Mx Kx Wa Wb Wc Wd
theorem odd_calls (n : Int) (w : World) : Calls Try.prog 65 #[.int .i64 n] w fun e w' => e = .returned (.bool (size n)) ∧ w = w' := by
  unfold size
  by_cases h1 : n = 1
  · subst h1
    go_enter Try.func65, Try.ntmps65
    go_wp2
    go_ret
    exact ⟨rfl, rfl⟩
  by_cases h3 : n = 3
  · subst h3
    go_enter Try.func65, Try.ntmps65
    go_wp2
    go_ret
    exact ⟨rfl, rfl⟩
  by_cases h5 : n = 5
  · subst h5
    go_enter Try.func65, Try.ntmps65
    go_wp2
    go_ret
    exact ⟨rfl, rfl⟩
  have e1 : (n == 1) = false := by simpa using h1
  have e3 : (n == 3) = false := by simpa using h3
  have e5 : (n == 5) = false := by simpa using h5
  have e : (decide (n = 1) || decide (n = 3) || decide (n = 5)) = false := by simp [h1, h3, h5]
  rw [e]
  clear e h1 h3 h5
  go_enter Try.func65, Try.ntmps65
  go_wp2
  go_ret
  exact ⟨rfl, rfl⟩
theorem time_calls (n : Int) (w : World) : Calls Try.prog 70 #[.int .i64 n] w fun e w' => e = .returned (.bool (below n)) ∧ w = w' := by
  unfold below maxTime
  by_cases h1 : 0 ≤ n
  · by_cases h2 : n < 1099511627776
    · have e : (decide (0 ≤ n) && decide (n < 1099511627776)) = true := by simp [h1, h2]
      rw [e]
      go_enter Try.func70, Try.ntmps70
      go_wp2
      go_ret
      exact ⟨rfl, rfl⟩
    · have e : (decide (0 ≤ n) && decide (n < 1099511627776)) = false := by simp [h2]
      rw [e]
      go_enter Try.func70, Try.ntmps70
      go_wp2
      go_ret
      exact ⟨rfl, rfl⟩
  · have e : (decide (0 ≤ n) && decide (n < 1099511627776)) = false := by simp [h1]
    rw [e]
    go_enter Try.func70, Try.ntmps70
    go_wp2
    go_ret
    exact ⟨rfl, rfl⟩
theorem Entries_calls (A : Option Addr) (c : Nat) (l : List Entry) (w : World) (hl : Kd.C kE w A l.length l) :
    Calls Try.prog 71 #[.slice A l.length c] w fun e w' => e = .returned (.bool (log l)) ∧ w = w' := by
  have HL := Aside0.mk hl
  clear hl
  unfold log
  by_cases hb : l.length ≤ 1000
  case neg =>
    have q1 : decide ((1000 : Int) < (l.length : Int)) = true := decide_eq_true (by omega)
    have q2 : decide (l.length ≤ 1000) = false := decide_eq_false hb
    have HB : Aside0 (l.length > 1000) := ⟨by omega⟩
    rw [q2]
    clear q2 hb
    go_enter Try.func71, Try.ntmps71
    go_wp2
    go_ret
    exact ⟨by simp, rfl⟩
  have q1 : decide ((1000 : Int) < (l.length : Int)) = false := decide_eq_false (by omega)
  have q2 : decide (l.length ≤ 1000) = true := decide_eq_true hb
  rw [q2]
  have HB := Aside0.mk hb
  clear q2 hb
  go_enter Try.func71, Try.ntmps71
  go_wp2
  clear q1
  go_loopg [3, 4] (l.length + 1) (fun kq v3 v4 w' => ∃ (k : Nat) (last : Int), v3 = .int .i64 last ∧ v4 = .int .i64 k ∧ Aside0 (k ≤ l.length ∧ kq = l.length + 1 - k ∧ rises last (l.drop k) = rises 0 l) ∧ w' = w)
  case atStart => exact ⟨0, 0, rfl, rfl, ⟨Nat.zero_le _, rfl, rfl⟩, rfl⟩
  case round =>
    obtain ⟨k, last, rfl, rfl, HK, rfl⟩ := hrel
    by_cases hlt : k < l.length
    · obtain ⟨ad, e, hx0, hx1⟩ := at_Entry HL.out (k : Int) (by omega) (by omega)
      cases e
      have HR := Aside0.mk (rises_drop hlt last)
      simp only [Int.toNat_natCast] at hx0 hx1
      generalize hent : rd_Entry l (k : Int) = en at *
      clear hent
      have hk1 : k ≤ 1000 := by have := HB.out; omega
      by_cases c1 : last < en.f0
      · by_cases c2 : en.f0 < 1099511627776
        · by_cases c3 : en.f1.size ≤ 20000
          · go_wp2
            go_roundg (l.length - k)
            case measure => have := HK.out; omega
            case rel =>
              refine ⟨k + 1, en.f0, rfl, by go_num, ⟨by omega, by have := HK.out; omega, ?_⟩, rfl⟩
              rw [← HK.out.2.2, HR.out]
              simp [c1, c2, c3, maxTime]
          · go_wp2
            go_ret
            refine ⟨?_, rfl⟩
            rw [← HK.out.2.2, HR.out, decide_eq_false (show ¬ en.f1.size ≤ 20000 by omega)]
            simp
        · go_wp2
          go_ret
          refine ⟨?_, rfl⟩
          rw [← HK.out.2.2, HR.out, decide_eq_false (show ¬ en.f0 < maxTime by unfold maxTime; omega)]
          simp
      · go_wp2
        go_ret
        refine ⟨?_, rfl⟩
        rw [← HK.out.2.2, HR.out, decide_eq_false (show ¬ last < en.f0 by omega)]
        simp
    · have hk : k = l.length := by have := HK.out.1; omega
      subst hk
      go_wp2
      go_ret
      refine ⟨?_, rfl⟩
      rw [← HK.out.2.2, List.drop_length]
      simp [rises]
theorem rising_calls (A : Option Addr) (c : Nat) (l : List Int) (n : Int) (w : World) (hl : Kd.C (Kd.int .i64) w A l.length l) (hn : l.length ≤ 9223372036854775807) :
    Calls Try.prog 72 #[.slice A l.length c, .int .i64 n] w fun e w' => e = .returned (.bool (ids l n)) ∧ Drawn0 w w' := by
  have HL := Aside0.mk hl
  have HN := Aside0.mk hn
  clear hl hn
  unfold ids
  go_enter Try.func72, Try.ntmps72
  go_wp2
  go_loopg [5] (l.length + 1) (fun kq v9 w' => ∃ (k : Nat) (last : Int), v9 = .int .i64 k ∧ Aside0 (k ≤ l.length ∧ kq = l.length + 1 - k ∧ -1 ≤ last ∧ (k = 0 → last = -1) ∧ (∀ j, k = j + 1 → last = rd l j) ∧ idsFrom n last (l.drop k) = idsFrom n (-1) l) ∧ Aside0 (Drawn0 w w'))
  case atStart => exact ⟨0, -1, rfl, ⟨Nat.zero_le _, rfl, by omega, fun _ => rfl, fun j hj => by omega, rfl⟩, ⟨Drawn0.refl _⟩⟩
  case round =>
    obtain ⟨k, last, rfl, HK, HD⟩ := hrel
    obtain ⟨nq, hnq⟩ := HD.out.out
    by_cases hlt : k < l.length
    · obtain ⟨ad, e, hx0⟩ := Kd.at_int HL.out (k : Int) (by omega) (by omega)
      cases e
      have HR := Aside0.mk (idsFrom_drop (n := n) hlt last)
      simp only [Int.toNat_natCast] at hx0
      have p1 : ((k : Int) < (l.length : Int)) = True := eq_true (by omega)
      have p2 : decide ((k : Int) < (l.length : Int)) = true := decide_eq_true (by omega)
      have p3 : decide (k < l.length) = true := decide_eq_true hlt
      have hkw : wrap64 ((k : Int) + 1) = ((k + 1 : Nat) : Int) := by have := HN.out; unfold wrap64; push_cast; omega
      by_cases hk0 : k = 0
      · subst hk0
        have hlast : last = -1 := HK.out.2.2.2.1 rfl
        subst hlast
        rw [add_zero_] at hx0
        have hx1 : wr.cell? ad = some (.int .i64 (rd l ((0 : Nat) : Int))) := by rw [hnq]; exact hx0
        generalize hent : rd l ((0 : Nat) : Int) = x at *
        have HX := Aside0.mk hent
        clear hent hnq hx0
        by_cases c1 : x < 0
        · have e1 : decide (x < 0) = true := decide_eq_true c1
          have HC := Aside0.mk c1
          clear c1
          go_wp2_with fail
          go_quiet (fail)
          go_wp2
          first | (refine bodyPost_ret (results_tmp rfl _ _ _) rfl ?_) | go_ret
          refine ⟨?_, by repeat (first | exact HD.out | apply Drawn0.step)⟩
          rw [← HK.out.2.2.2.2.2, HR.out, decide_eq_false (show ¬ (-1 : Int) < x by have := HC.out; omega)]
          simp
        · have e1 : decide (x < 0) = false := decide_eq_false c1
          have HC := Aside0.mk c1
          clear c1
          by_cases c2 : x < n
          · have e2 : decide (n ≤ x) = false := decide_eq_false (by omega)
            have HC2 := Aside0.mk c2
            clear c2
            go_wp2_with fail
            go_quiet (fail)
            go_wp2
            go_roundg (l.length - 0)
            case measure => have := HK.out; omega
            case rel =>
              refine ⟨1, x, by go_num, ⟨by omega, by have := HK.out; omega, by have := HC.out; omega, fun h => by omega, fun j hj => ?_, ?_⟩, ⟨by repeat (first | exact HD.out | apply Drawn0.step)⟩⟩
              · obtain rfl : j = 0 := by omega
                exact HX.out.symm
              · rw [← HK.out.2.2.2.2.2, HR.out, decide_eq_true (show (-1 : Int) < x by have := HC.out; omega), decide_eq_true HC2.out]
                simp
          · have e2 : decide (n ≤ x) = true := decide_eq_true (by omega)
            have HC2 := Aside0.mk c2
            clear c2
            go_wp2_with fail
            go_quiet (fail)
            go_wp2
            first | (refine bodyPost_ret (results_tmp rfl _ _ _) rfl ?_) | go_ret
            refine ⟨?_, by repeat (first | exact HD.out | apply Drawn0.step)⟩
            rw [← HK.out.2.2.2.2.2, HR.out, decide_eq_false (show ¬ x < n by have := HC2.out; omega)]
            simp
      · obtain ⟨j, rfl⟩ : ∃ j, k = j + 1 := ⟨k - 1, by omega⟩
        have hlast : last = rd l j := HK.out.2.2.2.2.1 j rfl
        obtain ⟨ad', e, hy0⟩ := Kd.at_int HL.out (j : Int) (by omega) (by omega)
        cases e
        simp only [Int.toNat_natCast] at hy0
        rw [← hlast] at hy0
        have hx1 : wr.cell? (ad.add (j + 1)) = some (.int .i64 (rd l ((j + 1 : Nat) : Int))) := by rw [hnq]; exact hx0
        have hy1 : wr.cell? (ad.add j) = some (.int .i64 last) := by rw [hnq]; exact hy0
        rw [add_succ_] at hx1
        have hsub : wrap64 (((j + 1 : Nat) : Int) - 1) = (j : Int) := by have := HN.out; unfold wrap64; push_cast; omega
        have hsub2 : IntKind.i64.wrap (((j + 1 : Nat) : Int) - 1) = (j : Int) := by have := HN.out; rw [IntKind.wrap_i64]; push_cast; omega
        have hs3 : wrap64 (j : Int) = (j : Int) := by have := HN.out; unfold wrap64; omega
        have hs4 : IntKind.i64.wrap (j : Int) = (j : Int) := by have := HN.out; rw [IntKind.wrap_i64]; omega
        have g4 : decide (j < l.length) = true := decide_eq_true (by omega)
        have g5 : decide ((0 : Int) < (j : Int) + 1) = true := decide_eq_true (by omega)
        have g6 : ((0 : Int) < (j : Int) + 1) = True := eq_true (by omega)
        have g1 : decide ((0 : Int) < ((j + 1 : Nat) : Int)) = true := decide_eq_true (by omega)
        have g2 : ((j : Int) < (l.length : Int)) = True := eq_true (by omega)
        have g3 : decide ((j : Int) < (l.length : Int)) = true := decide_eq_true (by omega)
        have HJ := Aside0.mk hlt
        generalize hent : rd l ((j + 1 : Nat) : Int) = x at *
        have HX := Aside0.mk hent
        clear hent hlast hnq hx0 hy0 hk0
        by_cases c1 : x < 0
        · have e1 : decide (x < 0) = true := decide_eq_true c1
          have HC := Aside0.mk c1
          clear c1
          go_wp2_with fail
          go_quiet (fail)
          go_wp2
          first | (refine bodyPost_ret (results_tmp rfl _ _ _) rfl ?_) | go_ret
          refine ⟨?_, by repeat (first | exact HD.out | apply Drawn0.step)⟩
          rw [← HK.out.2.2.2.2.2, HR.out, decide_eq_false (show ¬ last < x by have := HC.out; have := HK.out; omega)]
          simp
        have e1 : decide (x < 0) = false := decide_eq_false c1
        have HC := Aside0.mk c1
        clear c1
        by_cases c2 : x < n
        case neg =>
          have e2 : decide (n ≤ x) = true := decide_eq_true (by omega)
          have HC2 := Aside0.mk c2
          clear c2
          go_wp2_with fail
          go_quiet (fail)
          go_wp2
          first | (refine bodyPost_ret (results_tmp rfl _ _ _) rfl ?_) | go_ret
          refine ⟨?_, by repeat (first | exact HD.out | apply Drawn0.step)⟩
          rw [← HK.out.2.2.2.2.2, HR.out, decide_eq_false (show ¬ x < n by have := HC2.out; omega)]
          simp
        have e2 : decide (n ≤ x) = false := decide_eq_false (by omega)
        have HC2 := Aside0.mk c2
        clear c2
        by_cases c3 : last < x
        · have e3 : decide (x ≤ last) = false := decide_eq_false (by omega)
          have HC3 := Aside0.mk c3
          clear c3
          go_wp2_with fail
          go_quiet (fail)
          go_wp2
          go_roundg (l.length - (j + 1))
          case measure => have := HK.out; omega
          case rel =>
            refine ⟨j + 1 + 1, x, by rw [show wrap64 ((j : Int) + 1 + 1) = ((j + 1 + 1 : Nat) : Int) from by have := HN.out; have := HJ.out; unfold wrap64; push_cast; omega], ⟨by have := HJ.out; omega, by have := HK.out; omega, by have := HC.out; omega, fun h => by omega, fun i hi => ?_, ?_⟩, ⟨by repeat (first | exact HD.out | apply Drawn0.step)⟩⟩
            · obtain rfl : i = j + 1 := by omega
              exact HX.out.symm
            · rw [← HK.out.2.2.2.2.2, HR.out, decide_eq_true HC3.out, decide_eq_true HC2.out]
              simp
        · have e3 : decide (x ≤ last) = true := decide_eq_true (by omega)
          have HC3 := Aside0.mk c3
          clear c3
          go_wp2_with fail
          go_quiet (fail)
          go_wp2
          first | (refine bodyPost_ret (results_tmp rfl _ _ _) rfl ?_) | go_ret
          refine ⟨?_, by repeat (first | exact HD.out | apply Drawn0.step)⟩
          rw [← HK.out.2.2.2.2.2, HR.out, decide_eq_false (show ¬ last < x by have := HC3.out; omega)]
          simp
    · have hk : k = l.length := by have := HK.out.1; omega
      subst hk
      have p1 : ((l.length : Int) < (l.length : Int)) = False := eq_false (by omega)
      have p2 : decide ((l.length : Int) < (l.length : Int)) = false := decide_eq_false (by omega)
      clear hlt hnq
      go_wp2
      first | (refine bodyPost_ret (results_tmp rfl _ _ _) rfl ?_) | go_ret
      refine ⟨?_, by repeat (first | exact HD.out | apply Drawn0.step)⟩
      rw [← HK.out.2.2.2.2.2, List.drop_length]
      simp [idsFrom]
def P1 (r : Rep) : Prop := size r.f1 = true ∧ 0 ≤ r.f0 ∧ r.f0 < r.f1 ∧ below r.f2 = true ∧ below r.f3 = true ∧ r.f3 ≤ r.f2 ∧ 0 ≤ r.f4 ∧ r.f4 ≤ 2 ∧ (r.f4 = 0 → r.f3 = r.f2)
def P2 (r : Rep) : Prop := log r.f5 = true ∧ 0 ≤ r.f6 ∧ r.f6 ≤ (r.f5.length : Int) ∧ (r.f7.length : Int) = r.f1
def P3 (r : Rep) : Prop := ∀ n ∈ r.f7, 0 ≤ n ∧ n ≤ (r.f5.length : Int)
def P4 (r : Rep) : Prop := ids r.f8 r.f1 = true ∧ ids r.f9 r.f1 = true ∧ log r.f10 = true ∧ -1 ≤ r.f11 ∧ r.f11 < maxTime ∧ 0 ≤ r.f12 ∧ r.f12 ≤ (r.f10.length : Int)
theorem may_is (r : Rep) : mayP r ↔ P1 r ∧ P2 r ∧ P3 r ∧ P4 r := by
  unfold mayP P1 P2 P3 P4
  simp only [and_assoc]
theorem may_n1 {r : Rep} (h : ¬ P1 r) : may r = false := may_false r (fun p => h ((may_is r).1 p).1)
theorem may_n2 {r : Rep} (h : ¬ P2 r) : may r = false := may_false r (fun p => h ((may_is r).1 p).2.1)
theorem may_n3 {r : Rep} (h : ¬ P3 r) : may r = false := may_false r (fun p => h ((may_is r).1 p).2.2.1)
theorem may_n4 {r : Rep} (h : ¬ P4 r) : may r = false := may_false r (fun p => h ((may_is r).1 p).2.2.2)
theorem may_yes {r : Rep} (h1 : P1 r) (h2 : P2 r) (h3 : P3 r) (h4 : P4 r) : may r = true := (may_iff r).2 ((may_is r).2 ⟨h1, h2, h3, h4⟩)
theorem May_calls11 (r : Rep) (A5 A7 A8 A9 A10 : Option Addr) (c5 c7 c8 c9 c10 : Nat) (w : World) (h : RdRep w r A5 A7 A8 A9 A10) (hs : r.f5.length ≤ 9223372036854775807 ∧ r.f7.length ≤ 9223372036854775807 ∧ r.f8.length ≤ 9223372036854775807 ∧ r.f9.length ≤ 9223372036854775807 ∧ r.f10.length ≤ 9223372036854775807) :
    Calls Try.prog 32 #[.agg (Kx.rA r A5 A7 A8 A9 A10 c5 c7 c8 c9 c10)] w fun e w' => e = .returned (.bool (may r)) ∧ Mem w w' [] := by
  have H5 := Aside0.mk h.h5
  have H7 := Aside0.mk h.h7
  have H8 := Aside0.mk h.h8
  have H9 := Aside0.mk h.h9
  have H10 := Aside0.mk h.h10
  have HS := Aside0.mk hs
  have M1 := Aside0.mk ((Mem.nil w).alloc (Kx.rA r A5 A7 A8 A9 A10 c5 c7 c8 c9 c10) 45)
  clear h hs
  have cB := blk_cell (M1.out.blk_at 0 rfl)
  go_enter Try.func32, Try.ntmps32
  go_upto_region 1 with (fail)
  go_cut [0, 60] (fun s0 s60 wy => ∃ b : Bool, s60 = .bool b ∧ Aside0 ((b = false → P1 r) ∧ (b = true → ¬ P1 r)) ∧ Aside0 (Mem w wy [blk w.heap.size 45 (Kx.rA r A5 A7 A8 A9 A10 c5 c7 c8 c9 c10)]))
  case first =>
    obtain ⟨b4, e4⟩ : ∃ b, (r.f4 == 0) = b := ⟨_, rfl⟩
    obtain ⟨b3, e3⟩ : ∃ b, (r.f3 != r.f2) = b := ⟨_, rfl⟩
    have E4 := Aside0.mk e4
    have E3 := Aside0.mk e3
    by_cases h0 : size r.f1 = true
    case neg =>
      have HR := Aside0.mk (show ¬ P1 r from fun p => h0 (by unfold P1 at p; exact p.1))
      have a0 : size r.f1 = false := by simpa using h0
      clear h0
      go_wp2_with (first | (go_at_call 65; refine (odd_calls _ _).mono ?_; rintro e w' ⟨rfl, rfl⟩) | (go_at_call 70; refine (time_calls _ _).mono ?_; rintro e w' ⟨rfl, rfl⟩) | (go_at_call 71; with_reducible refine (Entries_calls A5 c5 r.f5 _ (Kd.C_below H5.out M1.out.below)).mono ?_; rintro e w' ⟨rfl, rfl⟩))
      go_meet
      case rel => exact ⟨true, rfl, ⟨⟨(fun h => (by cases h)), (fun _ => HR.out)⟩⟩, M1⟩
    have a0 : size r.f1 = true := h0
    by_cases h1 : 0 ≤ r.f0
    case neg =>
      have HR := Aside0.mk (show ¬ P1 r from fun p => h1 (by unfold P1 at p; exact p.2.1))
      have a1 : decide (r.f0 < 0) = true := decide_eq_true (by omega)
      clear h0 h1
      go_wp2_with (first | (go_at_call 65; refine (odd_calls _ _).mono ?_; rintro e w' ⟨rfl, rfl⟩) | (go_at_call 70; refine (time_calls _ _).mono ?_; rintro e w' ⟨rfl, rfl⟩) | (go_at_call 71; with_reducible refine (Entries_calls A5 c5 r.f5 _ (Kd.C_below H5.out M1.out.below)).mono ?_; rintro e w' ⟨rfl, rfl⟩))
      go_meet
      case rel => exact ⟨true, rfl, ⟨⟨(fun h => (by cases h)), (fun _ => HR.out)⟩⟩, M1⟩
    have a1 : decide (r.f0 < 0) = false := decide_eq_false (by omega)
    by_cases h2 : r.f0 < r.f1
    case neg =>
      have HR := Aside0.mk (show ¬ P1 r from fun p => h2 (by unfold P1 at p; exact p.2.2.1))
      have a2 : decide (r.f1 ≤ r.f0) = true := decide_eq_true (by omega)
      clear h0 h1 h2
      go_wp2_with (first | (go_at_call 65; refine (odd_calls _ _).mono ?_; rintro e w' ⟨rfl, rfl⟩) | (go_at_call 70; refine (time_calls _ _).mono ?_; rintro e w' ⟨rfl, rfl⟩) | (go_at_call 71; with_reducible refine (Entries_calls A5 c5 r.f5 _ (Kd.C_below H5.out M1.out.below)).mono ?_; rintro e w' ⟨rfl, rfl⟩))
      go_meet
      case rel => exact ⟨true, rfl, ⟨⟨(fun h => (by cases h)), (fun _ => HR.out)⟩⟩, M1⟩
    have a2 : decide (r.f1 ≤ r.f0) = false := decide_eq_false (by omega)
    by_cases h3 : below r.f2 = true
    case neg =>
      have HR := Aside0.mk (show ¬ P1 r from fun p => h3 (by unfold P1 at p; exact p.2.2.2.1))
      have a3 : below r.f2 = false := by simpa using h3
      clear h0 h1 h2 h3
      go_wp2_with (first | (go_at_call 65; refine (odd_calls _ _).mono ?_; rintro e w' ⟨rfl, rfl⟩) | (go_at_call 70; refine (time_calls _ _).mono ?_; rintro e w' ⟨rfl, rfl⟩) | (go_at_call 71; with_reducible refine (Entries_calls A5 c5 r.f5 _ (Kd.C_below H5.out M1.out.below)).mono ?_; rintro e w' ⟨rfl, rfl⟩))
      go_meet
      case rel => exact ⟨true, rfl, ⟨⟨(fun h => (by cases h)), (fun _ => HR.out)⟩⟩, M1⟩
    have a3 : below r.f2 = true := h3
    by_cases h4 : below r.f3 = true
    case neg =>
      have HR := Aside0.mk (show ¬ P1 r from fun p => h4 (by unfold P1 at p; exact p.2.2.2.2.1))
      have a4 : below r.f3 = false := by simpa using h4
      clear h0 h1 h2 h3 h4
      go_wp2_with (first | (go_at_call 65; refine (odd_calls _ _).mono ?_; rintro e w' ⟨rfl, rfl⟩) | (go_at_call 70; refine (time_calls _ _).mono ?_; rintro e w' ⟨rfl, rfl⟩) | (go_at_call 71; with_reducible refine (Entries_calls A5 c5 r.f5 _ (Kd.C_below H5.out M1.out.below)).mono ?_; rintro e w' ⟨rfl, rfl⟩))
      go_meet
      case rel => exact ⟨true, rfl, ⟨⟨(fun h => (by cases h)), (fun _ => HR.out)⟩⟩, M1⟩
    have a4 : below r.f3 = true := h4
    by_cases h5 : r.f3 ≤ r.f2
    case neg =>
      have HR := Aside0.mk (show ¬ P1 r from fun p => h5 (by unfold P1 at p; exact p.2.2.2.2.2.1))
      have a5 : decide (r.f2 < r.f3) = true := decide_eq_true (by omega)
      clear h0 h1 h2 h3 h4 h5
      go_wp2_with (first | (go_at_call 65; refine (odd_calls _ _).mono ?_; rintro e w' ⟨rfl, rfl⟩) | (go_at_call 70; refine (time_calls _ _).mono ?_; rintro e w' ⟨rfl, rfl⟩) | (go_at_call 71; with_reducible refine (Entries_calls A5 c5 r.f5 _ (Kd.C_below H5.out M1.out.below)).mono ?_; rintro e w' ⟨rfl, rfl⟩))
      go_meet
      case rel => exact ⟨true, rfl, ⟨⟨(fun h => (by cases h)), (fun _ => HR.out)⟩⟩, M1⟩
    have a5 : decide (r.f2 < r.f3) = false := decide_eq_false (by omega)
    by_cases h6 : 0 ≤ r.f4
    case neg =>
      have HR := Aside0.mk (show ¬ P1 r from fun p => h6 (by unfold P1 at p; exact p.2.2.2.2.2.2.1))
      have a6 : decide (r.f4 < 0) = true := decide_eq_true (by omega)
      clear h0 h1 h2 h3 h4 h5 h6
      go_wp2_with (first | (go_at_call 65; refine (odd_calls _ _).mono ?_; rintro e w' ⟨rfl, rfl⟩) | (go_at_call 70; refine (time_calls _ _).mono ?_; rintro e w' ⟨rfl, rfl⟩) | (go_at_call 71; with_reducible refine (Entries_calls A5 c5 r.f5 _ (Kd.C_below H5.out M1.out.below)).mono ?_; rintro e w' ⟨rfl, rfl⟩))
      go_meet
      case rel => exact ⟨true, rfl, ⟨⟨(fun h => (by cases h)), (fun _ => HR.out)⟩⟩, M1⟩
    have a6 : decide (r.f4 < 0) = false := decide_eq_false (by omega)
    by_cases h7 : r.f4 ≤ 2
    case neg =>
      have HR := Aside0.mk (show ¬ P1 r from fun p => h7 (by unfold P1 at p; exact p.2.2.2.2.2.2.2.1))
      have a7 : decide (2 < r.f4) = true := decide_eq_true (by omega)
      clear h0 h1 h2 h3 h4 h5 h6 h7
      go_wp2_with (first | (go_at_call 65; refine (odd_calls _ _).mono ?_; rintro e w' ⟨rfl, rfl⟩) | (go_at_call 70; refine (time_calls _ _).mono ?_; rintro e w' ⟨rfl, rfl⟩) | (go_at_call 71; with_reducible refine (Entries_calls A5 c5 r.f5 _ (Kd.C_below H5.out M1.out.below)).mono ?_; rintro e w' ⟨rfl, rfl⟩))
      go_meet
      case rel => exact ⟨true, rfl, ⟨⟨(fun h => (by cases h)), (fun _ => HR.out)⟩⟩, M1⟩
    have a7 : decide (2 < r.f4) = false := decide_eq_false (by omega)
    rcases rep_split b4 with hb4 | hb4
    case inr =>
      have hz : ¬ r.f4 = 0 := by have z := E4.out; rw [hb4] at z; simpa using z
      have HR := Aside0.mk (show P1 r from by unfold P1; exact ⟨h0, h1, h2, h3, h4, h5, h6, h7, fun z => absurd z hz⟩)
      clear hz h0 h1 h2 h3 h4 h5 h6 h7
      go_wp2_with (first | (go_at_call 65; refine (odd_calls _ _).mono ?_; rintro e w' ⟨rfl, rfl⟩) | (go_at_call 70; refine (time_calls _ _).mono ?_; rintro e w' ⟨rfl, rfl⟩) | (go_at_call 71; with_reducible refine (Entries_calls A5 c5 r.f5 _ (Kd.C_below H5.out M1.out.below)).mono ?_; rintro e w' ⟨rfl, rfl⟩))
      go_meet
      case rel => exact ⟨false, rfl, ⟨⟨(fun _ => HR.out), (fun h => (by cases h))⟩⟩, M1⟩
    rcases rep_split b3 with hb3 | hb3
    case inr =>
      have hz : r.f3 = r.f2 := by have z := E3.out; rw [hb3] at z; simpa using z
      have HR := Aside0.mk (show P1 r from by unfold P1; exact ⟨h0, h1, h2, h3, h4, h5, h6, h7, fun _ => hz⟩)
      clear hz h0 h1 h2 h3 h4 h5 h6 h7
      go_wp2_with (first | (go_at_call 65; refine (odd_calls _ _).mono ?_; rintro e w' ⟨rfl, rfl⟩) | (go_at_call 70; refine (time_calls _ _).mono ?_; rintro e w' ⟨rfl, rfl⟩) | (go_at_call 71; with_reducible refine (Entries_calls A5 c5 r.f5 _ (Kd.C_below H5.out M1.out.below)).mono ?_; rintro e w' ⟨rfl, rfl⟩))
      go_meet
      case rel => exact ⟨false, rfl, ⟨⟨(fun _ => HR.out), (fun h => (by cases h))⟩⟩, M1⟩
    have hz : r.f4 = 0 ∧ ¬ r.f3 = r.f2 := ⟨by have z := E4.out; rw [hb4] at z; simpa using z, by have z := E3.out; rw [hb3] at z; simpa using z⟩
    have HR := Aside0.mk (show ¬ P1 r from fun p => by unfold P1 at p; exact hz.2 (p.2.2.2.2.2.2.2.2 hz.1))
    clear hz h0 h1 h2 h3 h4 h5 h6 h7
    go_wp2_with (first | (go_at_call 65; refine (odd_calls _ _).mono ?_; rintro e w' ⟨rfl, rfl⟩) | (go_at_call 70; refine (time_calls _ _).mono ?_; rintro e w' ⟨rfl, rfl⟩) | (go_at_call 71; with_reducible refine (Entries_calls A5 c5 r.f5 _ (Kd.C_below H5.out M1.out.below)).mono ?_; rintro e w' ⟨rfl, rfl⟩))
    go_meet
    case rel => exact ⟨true, rfl, ⟨⟨(fun h => (by cases h)), (fun _ => HR.out)⟩⟩, M1⟩
  case rest =>
  obtain ⟨b1, rfl, HP1, M2⟩ := hcut
  clear M1 cB
  have cB := blk_cell (M2.out.blk_at 0 rfl)
  cases b1 with
  | true =>
    have HQ := Aside0.mk (may_n1 (HP1.out.2 rfl))
    go_wp2
    go_ret
    exact ⟨by rw [HQ.out]; rfl, Mem.sel (ps := [_]) (F := []) [] 1 M2.out rfl rfl⟩
  | false =>
  have HPa := Aside0.mk (HP1.out.1 rfl)
  go_upto_region 3 with (fail)
  go_cut [0, 85] (fun s0 s85 wy => ∃ b : Bool, s85 = .bool b ∧ Aside0 ((b = false → P2 r) ∧ (b = true → ¬ P2 r)) ∧ Aside0 (Mem w wy [blk w.heap.size 45 (Kx.rA r A5 A7 A8 A9 A10 c5 c7 c8 c9 c10)]))
  case first =>
    by_cases h0 : log r.f5 = true
    case neg =>
      have HR := Aside0.mk (show ¬ P2 r from fun p => h0 (by unfold P2 at p; exact p.1))
      have a0 : log r.f5 = false := by simpa using h0
      clear h0
      go_wp2_with (first | (go_at_call 65; refine (odd_calls _ _).mono ?_; rintro e w' ⟨rfl, rfl⟩) | (go_at_call 70; refine (time_calls _ _).mono ?_; rintro e w' ⟨rfl, rfl⟩) | (go_at_call 71; with_reducible refine (Entries_calls A5 c5 r.f5 _ (Kd.C_below H5.out M2.out.below)).mono ?_; rintro e w' ⟨rfl, rfl⟩))
      go_meet
      case rel => exact ⟨true, rfl, ⟨⟨(fun h => (by cases h)), (fun _ => HR.out)⟩⟩, M2⟩
    have a0 : log r.f5 = true := h0
    by_cases h1 : 0 ≤ r.f6
    case neg =>
      have HR := Aside0.mk (show ¬ P2 r from fun p => h1 (by unfold P2 at p; exact p.2.1))
      have a1 : decide (r.f6 < 0) = true := decide_eq_true (by omega)
      clear h0 h1
      go_wp2_with (first | (go_at_call 65; refine (odd_calls _ _).mono ?_; rintro e w' ⟨rfl, rfl⟩) | (go_at_call 70; refine (time_calls _ _).mono ?_; rintro e w' ⟨rfl, rfl⟩) | (go_at_call 71; with_reducible refine (Entries_calls A5 c5 r.f5 _ (Kd.C_below H5.out M2.out.below)).mono ?_; rintro e w' ⟨rfl, rfl⟩))
      go_meet
      case rel => exact ⟨true, rfl, ⟨⟨(fun h => (by cases h)), (fun _ => HR.out)⟩⟩, M2⟩
    have a1 : decide (r.f6 < 0) = false := decide_eq_false (by omega)
    by_cases h2 : r.f6 ≤ (r.f5.length : Int)
    case neg =>
      have HR := Aside0.mk (show ¬ P2 r from fun p => h2 (by unfold P2 at p; exact p.2.2.1))
      have a2 : decide ((r.f5.length : Int) < r.f6) = true := decide_eq_true (by omega)
      clear h0 h1 h2
      go_wp2_with (first | (go_at_call 65; refine (odd_calls _ _).mono ?_; rintro e w' ⟨rfl, rfl⟩) | (go_at_call 70; refine (time_calls _ _).mono ?_; rintro e w' ⟨rfl, rfl⟩) | (go_at_call 71; with_reducible refine (Entries_calls A5 c5 r.f5 _ (Kd.C_below H5.out M2.out.below)).mono ?_; rintro e w' ⟨rfl, rfl⟩))
      go_meet
      case rel => exact ⟨true, rfl, ⟨⟨(fun h => (by cases h)), (fun _ => HR.out)⟩⟩, M2⟩
    have a2 : decide ((r.f5.length : Int) < r.f6) = false := decide_eq_false (by omega)
    by_cases h3 : (r.f7.length : Int) = r.f1
    case neg =>
      have HR := Aside0.mk (show ¬ P2 r from fun p => h3 (by unfold P2 at p; exact p.2.2.2))
      have a3 : ((r.f7.length : Int) != r.f1) = true := by simpa using h3
      clear h0 h1 h2 h3
      go_wp2_with (first | (go_at_call 65; refine (odd_calls _ _).mono ?_; rintro e w' ⟨rfl, rfl⟩) | (go_at_call 70; refine (time_calls _ _).mono ?_; rintro e w' ⟨rfl, rfl⟩) | (go_at_call 71; with_reducible refine (Entries_calls A5 c5 r.f5 _ (Kd.C_below H5.out M2.out.below)).mono ?_; rintro e w' ⟨rfl, rfl⟩))
      go_meet
      case rel => exact ⟨true, rfl, ⟨⟨(fun h => (by cases h)), (fun _ => HR.out)⟩⟩, M2⟩
    have a3 : ((r.f7.length : Int) != r.f1) = false := by simpa using h3
    have HR := Aside0.mk (show P2 r from by unfold P2; exact ⟨h0, h1, h2, h3⟩)
    clear h0 h1 h2 h3
    go_wp2_with (first | (go_at_call 65; refine (odd_calls _ _).mono ?_; rintro e w' ⟨rfl, rfl⟩) | (go_at_call 70; refine (time_calls _ _).mono ?_; rintro e w' ⟨rfl, rfl⟩) | (go_at_call 71; with_reducible refine (Entries_calls A5 c5 r.f5 _ (Kd.C_below H5.out M2.out.below)).mono ?_; rintro e w' ⟨rfl, rfl⟩))
    go_meet
    case rel => exact ⟨false, rfl, ⟨⟨(fun _ => HR.out), (fun h => (by cases h))⟩⟩, M2⟩
  case rest =>
  obtain ⟨b2, rfl, HP2, M3⟩ := hcut
  clear M2 cB
  have cB := blk_cell (M3.out.blk_at 0 rfl)
  cases b2 with
  | true =>
    have HQ := Aside0.mk (may_n2 (HP2.out.2 rfl))
    go_wp2
    go_ret
    exact ⟨by rw [HQ.out]; rfl, Mem.sel (ps := [_]) (F := []) [] 1 M3.out rfl rfl⟩
  | false =>
  have HPb := Aside0.mk (HP2.out.1 rfl)
  go_wp2_with fail
  clear cB
  go_loopg [3] (r.f7.length + 1) (fun kq v wr => ∃ k : Nat, v = .int .i64 k ∧ Aside0 (k ≤ r.f7.length ∧ kq = r.f7.length + 1 - k ∧ ∀ n ∈ r.f7.take k, 0 ≤ n ∧ n ≤ (r.f5.length : Int)) ∧ Aside0 (Mem w wr [blk w.heap.size 45 (Kx.rA r A5 A7 A8 A9 A10 c5 c7 c8 c9 c10)]))
  case atStart => exact ⟨0, rfl, ⟨Nat.zero_le _, rfl, by simp⟩, M3⟩
  case round =>
    obtain ⟨k, rfl, HK, M4⟩ := hrel
    clear M3
    have cB := blk_cell (M4.out.blk_at 0 rfl)
    by_cases hlt : k < r.f7.length
    · obtain ⟨ad, e, hx0⟩ := Kd.at_int H7.out (k : Int) (by omega) (by omega)
      cases e
      replace hx0 := (M4.out.below.cell (World.block_lt_of_cell? w _ hx0)).trans hx0
      simp only [Int.toNat_natCast] at hx0
      have HX := Aside0.mk (show rd r.f7 k = r.f7[k] by unfold rd; simp [List.getD, hlt])
      generalize hent : rd r.f7 (k : Int) = x at *
      have HM := Aside0.mk (List.getElem_mem hlt)
      have HLT := Aside0.mk hlt
      have p1 : ((k : Int) < (r.f7.length : Int)) = True := eq_true (by omega)
      have p2 : decide ((k : Int) < (r.f7.length : Int)) = true := decide_eq_true (by omega)
      have p3 : decide (k < r.f7.length) = true := decide_eq_true hlt
      have hkw : wrap64 ((k : Int) + 1) = (k : Int) + 1 := by have := HS.out; unfold wrap64; omega
      clear hent
      by_cases c1 : x < 0
      · have e1 : decide (x < 0) = true := decide_eq_true c1
        have HQ := Aside0.mk (may_n3 (r := r) (fun p => by have := p _ HM.out; have := HX.out; omega))
        clear c1
        go_wp2_with fail
        go_quiet (fail)
        go_wp2
        first | (refine bodyPost_ret (results_tmp rfl _ _ _) rfl ?_) | go_ret
        exact ⟨by rw [HQ.out]; rfl, Mem.sel (ps := [_]) (F := []) [] 1 (M4.out.drewN _) rfl rfl⟩
      have e1 : decide (x < 0) = false := decide_eq_false c1
      have HC1 := Aside0.mk c1
      clear c1
      by_cases c2 : (r.f5.length : Int) < x
      · have e2 : decide ((r.f5.length : Int) < x) = true := decide_eq_true c2
        have HQ := Aside0.mk (may_n3 (r := r) (fun p => by have := p _ HM.out; have := HX.out; omega))
        clear c2
        go_wp2_with fail
        go_quiet (fail)
        go_wp2
        first | (refine bodyPost_ret (results_tmp rfl _ _ _) rfl ?_) | go_ret
        exact ⟨by rw [HQ.out]; rfl, Mem.sel (ps := [_]) (F := []) [] 1 (M4.out.drewN _) rfl rfl⟩
      have e2 : decide ((r.f5.length : Int) < x) = false := decide_eq_false c2
      have HC2 := Aside0.mk c2
      clear c2
      go_wp2_with fail
      go_quiet (fail)
      go_wp2
      go_roundg (r.f7.length - k)
      case measure => have := HK.out.2.1; have := HLT.out; omega
      case rel =>
        refine ⟨k + 1, by rw [hkw]; rfl, ⟨HLT.out, by have := HK.out.2.1; omega, fun n hn => ?_⟩, ⟨M4.out.drewN _⟩⟩
        rw [List.take_succ_eq_append_getElem HLT.out] at hn
        rcases List.mem_append.1 hn with hn | hn
        · exact HK.out.2.2 n hn
        · have := List.mem_singleton.1 hn
          have := HX.out
          have := HC1.out
          have := HC2.out
          omega
    · have HP3 : Aside0 (P3 r) := ⟨by
        have h := HK.out
        have hk : k = r.f7.length := by omega
        subst hk
        rw [List.take_length] at h
        exact h.2.2⟩
      have p1 : ((k : Int) < (r.f7.length : Int)) = False := eq_false (by omega)
      have p2 : decide ((k : Int) < (r.f7.length : Int)) = false := decide_eq_false (by omega)
      clear hlt
      by_cases h0 : ids r.f8 r.f1 = true
      case neg =>
        have HR := Aside0.mk (may_n4 (r := r) (fun p => h0 (by unfold P4 at p; exact p.1)))
        have a0 : ids r.f8 r.f1 = false := by simpa using h0
        clear h0
        go_wp2_with (first | (go_at_call 72; with_reducible refine (rising_calls A8 c8 r.f8 r.f1 _ (Kd.C_below H8.out M4.out.below) HS.out.2.2.1).mono ?_; rintro e w1 ⟨rfl, hD⟩; have M5 := Aside0.mk (M4.out.drawn hD); clear hD; have cB := blk_cell (M5.out.blk_at 0 rfl)) | (go_at_call 72; with_reducible refine (rising_calls A9 c9 r.f9 r.f1 _ (Kd.C_below H9.out M5.out.below) HS.out.2.2.2.1).mono ?_; rintro e w2 ⟨rfl, hD⟩; have M6 := Aside0.mk (M5.out.drawn hD); clear hD; have cB := blk_cell (M6.out.blk_at 0 rfl)) | (go_at_call 71; with_reducible refine (Entries_calls A10 c10 r.f10 _ (Kd.C_below H10.out M6.out.below)).mono ?_; rintro e w' ⟨rfl, rfl⟩))
        first | (refine bodyPost_ret (results_tmp rfl _ _ _) rfl ?_) | go_ret
        exact ⟨by rw [HR.out]; rfl, by first | exact Mem.sel (ps := [_]) (F := []) [] 1 M6.out rfl rfl | exact Mem.sel (ps := [_]) (F := []) [] 1 M5.out rfl rfl | exact Mem.sel (ps := [_]) (F := []) [] 1 M4.out rfl rfl⟩
      have a0 : ids r.f8 r.f1 = true := h0
      by_cases h1 : ids r.f9 r.f1 = true
      case neg =>
        have HR := Aside0.mk (may_n4 (r := r) (fun p => h1 (by unfold P4 at p; exact p.2.1)))
        have a1 : ids r.f9 r.f1 = false := by simpa using h1
        clear h0 h1
        go_wp2_with (first | (go_at_call 72; with_reducible refine (rising_calls A8 c8 r.f8 r.f1 _ (Kd.C_below H8.out M4.out.below) HS.out.2.2.1).mono ?_; rintro e w1 ⟨rfl, hD⟩; have M5 := Aside0.mk (M4.out.drawn hD); clear hD; have cB := blk_cell (M5.out.blk_at 0 rfl)) | (go_at_call 72; with_reducible refine (rising_calls A9 c9 r.f9 r.f1 _ (Kd.C_below H9.out M5.out.below) HS.out.2.2.2.1).mono ?_; rintro e w2 ⟨rfl, hD⟩; have M6 := Aside0.mk (M5.out.drawn hD); clear hD; have cB := blk_cell (M6.out.blk_at 0 rfl)) | (go_at_call 71; with_reducible refine (Entries_calls A10 c10 r.f10 _ (Kd.C_below H10.out M6.out.below)).mono ?_; rintro e w' ⟨rfl, rfl⟩))
        first | (refine bodyPost_ret (results_tmp rfl _ _ _) rfl ?_) | go_ret
        exact ⟨by rw [HR.out]; rfl, by first | exact Mem.sel (ps := [_]) (F := []) [] 1 M6.out rfl rfl | exact Mem.sel (ps := [_]) (F := []) [] 1 M5.out rfl rfl | exact Mem.sel (ps := [_]) (F := []) [] 1 M4.out rfl rfl⟩
      have a1 : ids r.f9 r.f1 = true := h1
      by_cases h2 : log r.f10 = true
      case neg =>
        have HR := Aside0.mk (may_n4 (r := r) (fun p => h2 (by unfold P4 at p; exact p.2.2.1)))
        have a2 : log r.f10 = false := by simpa using h2
        clear h0 h1 h2
        go_wp2_with (first | (go_at_call 72; with_reducible refine (rising_calls A8 c8 r.f8 r.f1 _ (Kd.C_below H8.out M4.out.below) HS.out.2.2.1).mono ?_; rintro e w1 ⟨rfl, hD⟩; have M5 := Aside0.mk (M4.out.drawn hD); clear hD; have cB := blk_cell (M5.out.blk_at 0 rfl)) | (go_at_call 72; with_reducible refine (rising_calls A9 c9 r.f9 r.f1 _ (Kd.C_below H9.out M5.out.below) HS.out.2.2.2.1).mono ?_; rintro e w2 ⟨rfl, hD⟩; have M6 := Aside0.mk (M5.out.drawn hD); clear hD; have cB := blk_cell (M6.out.blk_at 0 rfl)) | (go_at_call 71; with_reducible refine (Entries_calls A10 c10 r.f10 _ (Kd.C_below H10.out M6.out.below)).mono ?_; rintro e w' ⟨rfl, rfl⟩))
        first | (refine bodyPost_ret (results_tmp rfl _ _ _) rfl ?_) | go_ret
        exact ⟨by rw [HR.out]; rfl, by first | exact Mem.sel (ps := [_]) (F := []) [] 1 M6.out rfl rfl | exact Mem.sel (ps := [_]) (F := []) [] 1 M5.out rfl rfl | exact Mem.sel (ps := [_]) (F := []) [] 1 M4.out rfl rfl⟩
      have a2 : log r.f10 = true := h2
      by_cases h3 : -1 ≤ r.f11
      case neg =>
        have HR := Aside0.mk (may_n4 (r := r) (fun p => h3 (by unfold P4 at p; exact p.2.2.2.1)))
        have a3 : decide (-1 ≤ r.f11) = false := decide_eq_false (by omega)
        clear h0 h1 h2 h3
        go_wp2_with (first | (go_at_call 72; with_reducible refine (rising_calls A8 c8 r.f8 r.f1 _ (Kd.C_below H8.out M4.out.below) HS.out.2.2.1).mono ?_; rintro e w1 ⟨rfl, hD⟩; have M5 := Aside0.mk (M4.out.drawn hD); clear hD; have cB := blk_cell (M5.out.blk_at 0 rfl)) | (go_at_call 72; with_reducible refine (rising_calls A9 c9 r.f9 r.f1 _ (Kd.C_below H9.out M5.out.below) HS.out.2.2.2.1).mono ?_; rintro e w2 ⟨rfl, hD⟩; have M6 := Aside0.mk (M5.out.drawn hD); clear hD; have cB := blk_cell (M6.out.blk_at 0 rfl)) | (go_at_call 71; with_reducible refine (Entries_calls A10 c10 r.f10 _ (Kd.C_below H10.out M6.out.below)).mono ?_; rintro e w' ⟨rfl, rfl⟩))
        first | (refine bodyPost_ret (results_tmp rfl _ _ _) rfl ?_) | go_ret
        exact ⟨by rw [HR.out]; rfl, by first | exact Mem.sel (ps := [_]) (F := []) [] 1 M6.out rfl rfl | exact Mem.sel (ps := [_]) (F := []) [] 1 M5.out rfl rfl | exact Mem.sel (ps := [_]) (F := []) [] 1 M4.out rfl rfl⟩
      have a3 : decide (-1 ≤ r.f11) = true := decide_eq_true (by omega)
      by_cases h4 : r.f11 < maxTime
      case neg =>
        have HR := Aside0.mk (may_n4 (r := r) (fun p => h4 (by unfold P4 at p; exact p.2.2.2.2.1)))
        have a4 : decide (r.f11 < 1099511627776) = false := decide_eq_false (by unfold maxTime at h4; omega)
        clear h0 h1 h2 h3 h4
        go_wp2_with (first | (go_at_call 72; with_reducible refine (rising_calls A8 c8 r.f8 r.f1 _ (Kd.C_below H8.out M4.out.below) HS.out.2.2.1).mono ?_; rintro e w1 ⟨rfl, hD⟩; have M5 := Aside0.mk (M4.out.drawn hD); clear hD; have cB := blk_cell (M5.out.blk_at 0 rfl)) | (go_at_call 72; with_reducible refine (rising_calls A9 c9 r.f9 r.f1 _ (Kd.C_below H9.out M5.out.below) HS.out.2.2.2.1).mono ?_; rintro e w2 ⟨rfl, hD⟩; have M6 := Aside0.mk (M5.out.drawn hD); clear hD; have cB := blk_cell (M6.out.blk_at 0 rfl)) | (go_at_call 71; with_reducible refine (Entries_calls A10 c10 r.f10 _ (Kd.C_below H10.out M6.out.below)).mono ?_; rintro e w' ⟨rfl, rfl⟩))
        first | (refine bodyPost_ret (results_tmp rfl _ _ _) rfl ?_) | go_ret
        exact ⟨by rw [HR.out]; rfl, by first | exact Mem.sel (ps := [_]) (F := []) [] 1 M6.out rfl rfl | exact Mem.sel (ps := [_]) (F := []) [] 1 M5.out rfl rfl | exact Mem.sel (ps := [_]) (F := []) [] 1 M4.out rfl rfl⟩
      have a4 : decide (r.f11 < 1099511627776) = true := decide_eq_true (by unfold maxTime at h4; omega)
      by_cases h5 : 0 ≤ r.f12
      case neg =>
        have HR := Aside0.mk (may_n4 (r := r) (fun p => h5 (by unfold P4 at p; exact p.2.2.2.2.2.1)))
        have a5 : decide (0 ≤ r.f12) = false := decide_eq_false (by omega)
        clear h0 h1 h2 h3 h4 h5
        go_wp2_with (first | (go_at_call 72; with_reducible refine (rising_calls A8 c8 r.f8 r.f1 _ (Kd.C_below H8.out M4.out.below) HS.out.2.2.1).mono ?_; rintro e w1 ⟨rfl, hD⟩; have M5 := Aside0.mk (M4.out.drawn hD); clear hD; have cB := blk_cell (M5.out.blk_at 0 rfl)) | (go_at_call 72; with_reducible refine (rising_calls A9 c9 r.f9 r.f1 _ (Kd.C_below H9.out M5.out.below) HS.out.2.2.2.1).mono ?_; rintro e w2 ⟨rfl, hD⟩; have M6 := Aside0.mk (M5.out.drawn hD); clear hD; have cB := blk_cell (M6.out.blk_at 0 rfl)) | (go_at_call 71; with_reducible refine (Entries_calls A10 c10 r.f10 _ (Kd.C_below H10.out M6.out.below)).mono ?_; rintro e w' ⟨rfl, rfl⟩))
        first | (refine bodyPost_ret (results_tmp rfl _ _ _) rfl ?_) | go_ret
        exact ⟨by rw [HR.out]; rfl, by first | exact Mem.sel (ps := [_]) (F := []) [] 1 M6.out rfl rfl | exact Mem.sel (ps := [_]) (F := []) [] 1 M5.out rfl rfl | exact Mem.sel (ps := [_]) (F := []) [] 1 M4.out rfl rfl⟩
      have a5 : decide (0 ≤ r.f12) = true := decide_eq_true (by omega)
      by_cases h6 : r.f12 ≤ (r.f10.length : Int)
      case neg =>
        have HR := Aside0.mk (may_n4 (r := r) (fun p => h6 (by unfold P4 at p; exact p.2.2.2.2.2.2)))
        have a6 : decide (r.f12 ≤ (r.f10.length : Int)) = false := decide_eq_false (by omega)
        clear h0 h1 h2 h3 h4 h5 h6
        go_wp2_with (first | (go_at_call 72; with_reducible refine (rising_calls A8 c8 r.f8 r.f1 _ (Kd.C_below H8.out M4.out.below) HS.out.2.2.1).mono ?_; rintro e w1 ⟨rfl, hD⟩; have M5 := Aside0.mk (M4.out.drawn hD); clear hD; have cB := blk_cell (M5.out.blk_at 0 rfl)) | (go_at_call 72; with_reducible refine (rising_calls A9 c9 r.f9 r.f1 _ (Kd.C_below H9.out M5.out.below) HS.out.2.2.2.1).mono ?_; rintro e w2 ⟨rfl, hD⟩; have M6 := Aside0.mk (M5.out.drawn hD); clear hD; have cB := blk_cell (M6.out.blk_at 0 rfl)) | (go_at_call 71; with_reducible refine (Entries_calls A10 c10 r.f10 _ (Kd.C_below H10.out M6.out.below)).mono ?_; rintro e w' ⟨rfl, rfl⟩))
        first | (refine bodyPost_ret (results_tmp rfl _ _ _) rfl ?_) | go_ret
        exact ⟨by rw [HR.out]; rfl, by first | exact Mem.sel (ps := [_]) (F := []) [] 1 M6.out rfl rfl | exact Mem.sel (ps := [_]) (F := []) [] 1 M5.out rfl rfl | exact Mem.sel (ps := [_]) (F := []) [] 1 M4.out rfl rfl⟩
      have a6 : decide (r.f12 ≤ (r.f10.length : Int)) = true := decide_eq_true (by omega)
      have HR := Aside0.mk (may_yes HPa.out HPb.out HP3.out (by unfold P4; exact ⟨h0, h1, h2, h3, h4, h5, h6⟩))
      clear h0 h1 h2 h3 h4 h5 h6
      go_wp2_with (first | (go_at_call 72; with_reducible refine (rising_calls A8 c8 r.f8 r.f1 _ (Kd.C_below H8.out M4.out.below) HS.out.2.2.1).mono ?_; rintro e w1 ⟨rfl, hD⟩; have M5 := Aside0.mk (M4.out.drawn hD); clear hD; have cB := blk_cell (M5.out.blk_at 0 rfl)) | (go_at_call 72; with_reducible refine (rising_calls A9 c9 r.f9 r.f1 _ (Kd.C_below H9.out M5.out.below) HS.out.2.2.2.1).mono ?_; rintro e w2 ⟨rfl, hD⟩; have M6 := Aside0.mk (M5.out.drawn hD); clear hD; have cB := blk_cell (M6.out.blk_at 0 rfl)) | (go_at_call 71; with_reducible refine (Entries_calls A10 c10 r.f10 _ (Kd.C_below H10.out M6.out.below)).mono ?_; rintro e w' ⟨rfl, rfl⟩))
      first | (refine bodyPost_ret (results_tmp rfl _ _ _) rfl ?_) | go_ret
      exact ⟨by rw [HR.out]; rfl, by first | exact Mem.sel (ps := [_]) (F := []) [] 1 M6.out rfl rfl | exact Mem.sel (ps := [_]) (F := []) [] 1 M5.out rfl rfl | exact Mem.sel (ps := [_]) (F := []) [] 1 M4.out rfl rfl⟩
end Go.Proofs.Ytggbjokhniigkaa.Hm
