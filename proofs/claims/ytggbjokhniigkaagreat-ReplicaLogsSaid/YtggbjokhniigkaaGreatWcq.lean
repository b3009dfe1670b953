/- Walks: what may be, in the whole. -/
import Derived.Test.YtggbjokhniigkaaGreatGc
namespace Go.Proofs.YtggbjokhniigkaaGreat.Wc
open Go.Proofs.YtggbjokhniigkaaGreat.Ty Go.RowKit Go.Proofs.YtggbjokhniigkaaGreatW.PrintWords Go.Proofs.YtggbjokhniigkaaGreatW.PrintLast Go.Proofs.YtggbjokhniigkaaGreatW.PrintMore Go.Proofs.YtggbjokhniigkaaGreat.Mx Go.Proofs.YtggbjokhniigkaaGreat.Kx Go.Proofs.YtggbjokhniigkaaGreat.Wa Go.Proofs.YtggbjokhniigkaaGreat.Wb
set_option linter.unusedVariables false
set_option linter.unusedSimpArgs false
theorem idsFrom_drop {l : List Int} {n : Int} {k : Nat} (h : k < l.length) (last : Int) : idsFrom n last (l.drop k) = (decide (last < rd l k) && decide (rd l k < n) && idsFrom n (rd l k) (l.drop (k + 1))) := by
  rw [List.drop_eq_getElem_cons h]
  have : rd l k = l[k] := by unfold rd; simp [List.getD, h]
  rw [this]
  rfl
set_option maxRecDepth 100000 in
set_option maxHeartbeats 4000000 in
theorem ids_calls (A : Option Addr) (c : Nat) (l : List Int) (n : Int) (w : World) (hl : Kd.C (Kd.int .i64) w A l.length l) (hn : l.length ≤ 1000000000) :
    Calls Tryz.prog 101 #[.slice A l.length c, .int .i64 n] w fun e w' => e = .returned (.bool (ids l n)) ∧ w = w' := by
  have HL := Aside0.mk hl
  clear hl
  unfold ids
  go_enter Tryz.func101, Tryz.ntmps101
  go_wp2
  go_loopg [9] (l.length + 1) (fun kq v9 w' => ∃ (k : Nat) (last : Int), v9 = .int .i64 k ∧ Aside0 (k ≤ l.length ∧ kq = l.length + 1 - k ∧ -1 ≤ last ∧ (k = 0 → last = -1) ∧ (∀ j, k = j + 1 → last = rd l j) ∧ idsFrom n last (l.drop k) = idsFrom n (-1) l) ∧ w' = w)
  case atStart => exact ⟨0, -1, rfl, ⟨Nat.zero_le _, rfl, by omega, fun _ => rfl, fun j hj => by omega, rfl⟩, rfl⟩
  case round =>
    obtain ⟨k, last, rfl, HK, rfl⟩ := hrel
    by_cases hlt : k < l.length
    · obtain ⟨ad, e, hx0⟩ := Kd.at_int HL.out (k : Int) (by omega) (by omega)
      cases e
      have HR := Aside0.mk (idsFrom_drop (n := n) hlt last)
      simp only [Int.toNat_natCast] at hx0
      by_cases hk0 : k = 0
      · subst hk0
        have hlast : last = -1 := HK.out.2.2.2.1 rfl
        subst hlast
        rw [add_zero_] at hx0
        generalize hent : rd l ((0 : Nat) : Int) = x at *
        have HX := Aside0.mk hent
        clear hent
        by_cases c1 : x < 0
        · go_wp2
          go_ret
          refine ⟨?_, rfl⟩
          rw [← HK.out.2.2.2.2.2, HR.out, decide_eq_false (show ¬ (-1 : Int) < x by omega)]
          simp
        · by_cases c2 : x < n
          · go_wp2
            go_roundg (l.length - 0)
            case measure => have := HK.out; omega
            case rel =>
              refine ⟨1, x, by go_num, ⟨by omega, by have := HK.out; omega, by omega, fun h => by omega, fun j hj => ?_, ?_⟩, rfl⟩
              · obtain rfl : j = 0 := by omega
                exact HX.out.symm
              · rw [← HK.out.2.2.2.2.2, HR.out, decide_eq_true (show (-1 : Int) < x by omega), decide_eq_true c2]
                simp
          · go_wp2
            go_ret
            refine ⟨?_, rfl⟩
            rw [← HK.out.2.2.2.2.2, HR.out, decide_eq_false (show ¬ x < n by omega)]
            simp
      · obtain ⟨j, rfl⟩ : ∃ j, k = j + 1 := ⟨k - 1, by omega⟩
        have hlast : last = rd l j := HK.out.2.2.2.2.1 j rfl
        obtain ⟨ad', e, hx1⟩ := Kd.at_int HL.out (j : Int) (by omega) (by omega)
        cases e
        simp only [Int.toNat_natCast] at hx1
        rw [← hlast] at hx1
        rw [add_succ_] at hx0
        generalize hent : rd l ((j + 1 : Nat) : Int) = x at *
        have HX := Aside0.mk hent
        clear hent hlast
        by_cases c1 : x < 0
        · go_wp2
          go_ret
          refine ⟨?_, rfl⟩
          rw [← HK.out.2.2.2.2.2, HR.out, decide_eq_false (show ¬ last < x by have := HK.out; omega)]
          simp
        · by_cases c2 : x < n
          · by_cases c3 : last < x
            · go_wp2
              go_roundg (l.length - (j + 1))
              case measure => have := HK.out; omega
              case rel =>
                refine ⟨j + 1 + 1, x, by go_num, ⟨by omega, by have := HK.out; omega, by omega, fun h => by omega, fun i hi => ?_, ?_⟩, rfl⟩
                · obtain rfl : i = j + 1 := by omega
                  exact HX.out.symm
                · rw [← HK.out.2.2.2.2.2, HR.out, decide_eq_true c3, decide_eq_true c2]
                  simp
            · go_wp2
              go_ret
              refine ⟨?_, rfl⟩
              rw [← HK.out.2.2.2.2.2, HR.out, decide_eq_false (show ¬ last < x by omega)]
              simp
          · go_wp2
            go_ret
            refine ⟨?_, rfl⟩
            rw [← HK.out.2.2.2.2.2, HR.out, decide_eq_false (show ¬ x < n by omega)]
            simp
    · have hk : k = l.length := by have := HK.out.1; omega
      subst hk
      go_wp2
      go_ret
      refine ⟨?_, rfl⟩
      rw [← HK.out.2.2.2.2.2, List.drop_length]
      simp [idsFrom]

/-! ### May -/
theorem rep_split (b : Bool) : b = true ∨ b = false := by cases b <;> simp
set_option maxRecDepth 100000 in
set_option maxHeartbeats 8000000 in
theorem May_calls (r : Rep) (A5 A7 A8 A9 A10 : Option Addr) (c5 c7 c8 c9 c10 : Nat) (w : World) (h5 : Kd.C kE w A5 r.f5.length r.f5) (h7 : Kd.C (Kd.int .i64) w A7 r.f7.length r.f7) (h8 : Kd.C (Kd.int .i64) w A8 r.f8.length r.f8) (h9 : Kd.C (Kd.int .i64) w A9 r.f9.length r.f9) (h10 : Kd.C kE w A10 r.f10.length r.f10) (hn : r.f5.length ≤ 1000000000 ∧ r.f7.length ≤ 1000000000 ∧ r.f8.length ≤ 1000000000 ∧ r.f9.length ≤ 1000000000 ∧ r.f10.length ≤ 1000000000) :
    Calls Tryz.prog 64 #[.agg #[.int .i64 r.f0, .int .i64 r.f1, .int .i64 r.f2, .int .i64 r.f3, .int .i64 r.f4, .slice A5 r.f5.length c5, .int .i64 r.f6, .slice A7 r.f7.length c7, .slice A8 r.f8.length c8, .slice A9 r.f9.length c9, .slice A10 r.f10.length c10, .int .i64 r.f11, .int .i64 r.f12]] w fun e w' => e = .returned (.bool (may r)) ∧ Mem w w' [] := by
  have H5 := Aside0.mk h5
  have H7 := Aside0.mk h7
  have H8 := Aside0.mk h8
  have H9 := Aside0.mk h9
  have H10 := Aside0.mk h10
  obtain ⟨n5, n7, n8, n9, n10⟩ := hn
  have M0 := Aside0.mk (Mem.nil w)
  clear h5 h7 h8 h9 h10
  go_enter Tryz.func64, Tryz.ntmps64
  have M1 := Aside0.mk (M0.out.alloc #[.int .i64 r.f0, .int .i64 r.f1, .int .i64 r.f2, .int .i64 r.f3, .int .i64 r.f4, .slice A5 r.f5.length c5, .int .i64 r.f6, .slice A7 r.f7.length c7, .slice A8 r.f8.length c8, .slice A9 r.f9.length c9, .slice A10 r.f10.length c10, .int .i64 r.f11, .int .i64 r.f12] 25)
  obtain ⟨b4, e4⟩ : ∃ b, (r.f4 == 0) = b := ⟨_, rfl⟩
  obtain ⟨b3, e3⟩ : ∃ b, (r.f3 != r.f2) = b := ⟨_, rfl⟩
  have E4 := Aside0.mk e4
  have E3 := Aside0.mk e3
  go_wp2_with (first | (go_at_call 100; refine (log_calls _ _ _ _ (Kd.C_below H5.out M1.out.below) (by assumption)).mono ?_; rintro e w1 ⟨rfl, hM⟩; have M2 := Aside0.mk (M1.out.trans hM); clear hM; have cB := blk_cell (M2.out.blk_at 0 rfl)) | (go_at_call 81; refine (size_calls _ _).mono ?_; rintro e w' ⟨rfl, rfl⟩) | (go_at_call 96; refine (below_calls _ _).mono ?_; rintro e w' ⟨rfl, rfl⟩))
  any_goals (go_ret; refine ⟨by rw [may_false r (fun h => by obtain ⟨p1, p2, p3, p4, p5, p6, p7, p8, p9, p10, p11, p12, p13, p14, p15⟩ := h; have q4 := E4.out; have q3 := E3.out; clear M0 M1 H5 H7 H8 H9 H10; (try simp at q4); (try simp at q3); first | contradiction | omega | (have z : (r.f4 < 0 ∨ 2 < r.f4) ∨ b3 = true := (by assumption); have z4 : b4 = true := (by assumption); rw [← q4] at z4; rw [← q3] at z; simp only [beq_iff_eq, bne_iff_ne, ne_eq] at z z4; omega) | (have z : (r.f6 < 0 ∨ (r.f5.length:Int) < r.f6) ∨ ((r.f7.length : Int) != r.f1) = true := (by assumption); simp only [bne_iff_ne, ne_eq] at z; omega))]; rfl, ?_⟩; first | exact Mem.sel (ps := [_]) (F := []) [] 1 M2.out rfl rfl | exact Mem.sel (ps := [_]) (F := []) [] 1 M1.out rfl rfl)
  all_goals
    go_loop [89] (fun v => ∃ k : Nat, v = .int .i64 k ∧ Aside0 (k ≤ r.f7.length ∧ ∀ n ∈ r.f7.take k, 0 ≤ n ∧ n ≤ (r.f5.length : Int))) (fun v => r.f7.length - (intOf v).toNat)
    case atStart => exact ⟨0, rfl, ⟨Nat.zero_le _, by simp⟩⟩
    case round =>
      obtain ⟨k, rfl, HK⟩ := hrel
      by_cases hlt : k < r.f7.length
      · obtain ⟨ad, e, hx0⟩ := Kd.at_int H7.out (k : Int) (by omega) (by omega)
        cases e
        replace hx0 := (M2.out.below.cell (World.block_lt_of_cell? w _ hx0)).trans hx0
        simp only [Int.toNat_natCast] at hx0
        have HX := Aside0.mk (show rd r.f7 k = r.f7[k] by unfold rd; simp [List.getD, hlt])
        generalize hent : rd r.f7 (k : Int) = x at *
        clear hent
        have HM := Aside0.mk (List.getElem_mem hlt)
        by_cases c1 : x < 0
        · go_wp2
          go_ret
          refine ⟨by rw [may_false r (fun h => by obtain ⟨p1, p2, p3, p4, p5, p6, p7, p8, p9, p10, p11, p12, p13, p14, p15⟩ := h; have := p14 _ HM.out; have := HX.out; omega)]; rfl, Mem.sel (ps := [_]) (F := []) [] 1 M2.out rfl rfl⟩
        · by_cases c2 : (r.f5.length : Int) < x
          · go_wp2
            go_ret
            refine ⟨by rw [may_false r (fun h => by obtain ⟨p1, p2, p3, p4, p5, p6, p7, p8, p9, p10, p11, p12, p13, p14, p15⟩ := h; have := p14 _ HM.out; have := HX.out; omega)]; rfl, Mem.sel (ps := [_]) (F := []) [] 1 M2.out rfl rfl⟩
          · go_wp2
            go_round
            case rel =>
              refine ⟨k + 1, by go_num, ⟨by omega, fun n hn => ?_⟩⟩
              rw [List.take_succ_eq_append_getElem hlt] at hn
              rcases List.mem_append.1 hn with hn | hn
              · exact HK.out.2 n hn
              · have := List.mem_singleton.1 hn
                have := HX.out
                omega
            case measure => simp [intOf]; omega
      · have HA := Aside0.mk (show ∀ n ∈ r.f7, 0 ≤ n ∧ n ≤ (r.f5.length : Int) by
          have h := HK.out
          have : k = r.f7.length := by omega
          subst this
          rw [List.take_length] at h
          exact h.2)
        go_wp2_with (first | (go_at_call 101; with_reducible refine (ids_calls A8 c8 r.f8 r.f1 _ (Kd.C_below H8.out M2.out.below) n8).mono ?_; rintro e w' ⟨rfl, rfl⟩) | (go_at_call 101; with_reducible refine (ids_calls A9 c9 r.f9 r.f1 _ (Kd.C_below H9.out M2.out.below) n9).mono ?_; rintro e w' ⟨rfl, rfl⟩) | (go_at_call 100; refine (log_calls A10 c10 r.f10 _ (Kd.C_below H10.out M2.out.below) n10).mono ?_; rintro e w2 ⟨rfl, hM⟩; have M3 := Aside0.mk (M2.out.trans hM); clear hM))
        all_goals
          go_ret
          refine ⟨?_, by first | exact Mem.sel (ps := [_]) (F := []) [] 1 M3.out rfl rfl | exact Mem.sel (ps := [_]) (F := []) [] 1 M2.out rfl rfl⟩
          first
          | (rw [may_false r (fun h => by obtain ⟨p1, p2, p3, p4, p5, p6, p7, p8, p9, p10, p11, p12, p13, p14, p15, p16, p17, p18, p19, p20, p21⟩ := h; unfold maxTime at p19; first | contradiction | omega)]; first | rfl | (simp; done))
          | (have zl : (0 ≤ r.f6 ∧ r.f6 ≤ (r.f5.length : Int)) ∧ ((r.f7.length : Int) != r.f1) = false := (by assumption)
             have zl2 : (r.f7.length : Int) = r.f1 := by simpa using zl.2
             have z4 : r.f4 = 0 → r.f3 = r.f2 := fun q => (by
               first
               | exact absurd (show b4 = true by rw [← E4.out, q]; rfl) (by assumption)
               | (have z3 : (0 ≤ r.f4 ∧ r.f4 ≤ 2) ∧ b3 = false := (by assumption)
                  have z5 := E3.out.trans z3.2
                  simpa using z5))
             by_cases z : r.f12 ≤ (r.f10.length : Int)
             · rw [(may_iff r).2 ⟨by assumption, by omega, by omega, by assumption, by assumption, by omega, by omega, by omega, z4, by assumption, by omega, by omega, zl2, HA.out, by assumption, by assumption, by assumption, by omega, by unfold maxTime; omega, by omega, z⟩]
               simp [z]
             · rw [may_false r (fun h => by obtain ⟨p1, p2, p3, p4, p5, p6, p7, p8, p9, p10, p11, p12, p13, p14, p15, p16, p17, p18, p19, p20, p21⟩ := h; omega)]
               simp [z])
end Go.Proofs.YtggbjokhniigkaaGreat.Wc
