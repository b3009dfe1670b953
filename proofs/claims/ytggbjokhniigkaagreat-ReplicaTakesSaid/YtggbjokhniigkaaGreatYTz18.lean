/- Texts laid together: Pf. No condition. -/
import Derived.Test.YtggbjokhniigkaaGreatYTz16
set_option linter.unusedVariables false
set_option linter.unusedSimpArgs false
set_option maxRecDepth 100000
set_option maxHeartbeats 8000000
namespace Go.Proofs.YtggbjokhniigkaaGreat.Pf
open Ty Go.RowKit YtggbjokhniigkaaGreatW.PrintWords YtggbjokhniigkaaGreatW.PrintLast YtggbjokhniigkaaGreatW.PrintMore Mx Kx Wa Tk Sa To Wd Wj Pe
theorem prep11_low (w0 w : World) (F : List Res) (g : Nat) (r : Rep) (m : Msg) (v5 v7 v8 v9 v10 : Value) (aE : Addr) (c : Nat) (hM : Mem w0 w (blk g 25 (qc r.f0 r.f1 r.f2 r.f3 r.f4 v5 r.f6 v7 v8 v9 v10 r.f11 r.f12) :: Kx.sL r v5 v7 v8 v9 v10 F)) (hl : Kd.C kE w0 (some aE) m.f7.length m.f7) (en : Entry) (hf : m.f7 = [en]) (hn : r.f5.length ≤ 1200) (hcl : r.f6 ≤ (r.f5.length : Int)) (hv : 0 ≤ m.f3) (hv2 : m.f3 ≤ 4611686018427387904) (hn0 : 0 < r.f1) (hn5 : r.f1 ≤ 5) (hk : m.f0 = 1) (h1 : ¬ m.f3 < r.f2) (h2 : m.f3 % r.f1 = m.f1) (h3 : ¬ r.f2 < m.f3) (h4 : r.f4 = 0) (h5 : m.f4 ≤ (r.f5.length : Int)) (s : Rep) (hs : raise r m.f5 = s) :
    Calls Tryz.prog 70 #[.pointer (some ⟨g, 0, none⟩), .agg #[.int .i64 m.f0, .int .i64 m.f1, .int .i64 m.f2, .int .i64 m.f3, .int .i64 m.f4, .int .i64 m.f5, .int .i64 m.f6, .slice (some aE) m.f7.length c]] w fun e w' => ∃ vout v5' v7' v8' v9' v10' : Value, e = .returned vout ∧ Mem w0 w' (blk g 25 (qc s.f0 s.f1 s.f2 s.f3 s.f4 v5' s.f6 v7' v8' v9' v10' s.f11 s.f12) :: row kE 68 v5' s.f5 :: row (Kd.int .i64) 3 v7' s.f7 :: row (Kd.int .i64) 3 v8' s.f8 :: row (Kd.int .i64) 3 v9' s.f9 :: row kE 68 v10' s.f10 :: row kM 27 vout [toOne s m.f1 ⟨2, 0, 0, 0, (s.f5.length : Int), 0, 0, []⟩] :: F) := by
  obtain ⟨B5, d5, rfl, _, _⟩ := hM.row_at 1 rfl
  have HSS := Aside0.mk hs
  clear hs
  obtain ⟨ew, ew'⟩ := wr_ hn
  obtain ⟨e5, e6, e7⟩ := low_ h5
  clear e6
  clear h5
  have e0 : (m.f0 == 1) = true := by simpa using hk
  clear hk
  have e1 : decide (m.f3 < r.f2) = false := by simpa using h1
  clear h1
  have e2 : (m.f3 % r.f1 == m.f1) = true := by simpa using h2
  have e2' : (m.f3 % r.f1 != m.f1) = false := by simpa using h2
  clear h2
  have e3 : decide (r.f2 < m.f3) = false := by simpa using h3
  clear h3
  have e4 : (r.f4 == 0) = true := by simpa using h4
  have e4' : (r.f4 != 0) = false := by simpa using h4
  clear h4
  have hlen : m.f7.length = 1 := by rw [hf]; rfl
  rw [hlen] at hl ⊢
  have HL := Aside0.mk hl
  have HF := Aside0.mk hf
  have HN := Aside0.mk hn
  have HCL := Aside0.mk hcl
  have HV := Aside0.mk (show 0 ≤ m.f3 ∧ m.f3 ≤ 4611686018427387904 from ⟨hv, hv2⟩)
  have HI := Aside0.mk (show 0 < r.f1 ∧ r.f1 ≤ 5 from ⟨hn0, hn5⟩)
  clear hlen
  have M1 := Aside0.mk (hM.alloc #[.int .i64 m.f0, .int .i64 m.f1, .int .i64 m.f2, .int .i64 m.f3, .int .i64 m.f4, .int .i64 m.f5, .int .i64 m.f6, .slice (some aE) 1 c] 27)
  clear hM hl hf hn hcl hv hv2 hn0 hn5
  have cM := blk_cell (M1.out.blk_at 0 rfl)
  have cG := blk_cell (M1.out.blk_at 1 rfl)
  unfold qc at cG
  have z1 : (r.f1 == 0) = false := by have := HI.out; simp; omega
  have z2 : ¬ r.f1 = 0 := by have := HI.out; omega
  have z3 : m.f3.tmod r.f1 = m.f3 % r.f1 := Int.tmod_eq_emod_of_nonneg HV.out.1
  go_enter Tryz.func70, Tryz.ntmps70
  go_wp2_with fail
  go_quiet (fail)
  clear z1 z2 z3
  go_wp2_with fail
  go_quiet (fail)
  go_upto_if 64 with (fail)
  go_cut [5] (fun s5 wx => s5 = .int .i64 (lastTime r.f5) ∧ Aside0 (Mem w0 wx (blk w.heap.size 27 #[.int .i64 m.f0, .int .i64 m.f1, .int .i64 m.f2, .int .i64 m.f3, .int .i64 m.f4, .int .i64 m.f5, .int .i64 m.f6, .slice (some aE) 1 c] :: blk g 25 (qc r.f0 r.f1 r.f2 r.f3 r.f4 (.slice B5 r.f5.length d5) r.f6 v7 v8 v9 v10 r.f11 r.f12) :: row kE 68 (.slice B5 r.f5.length d5) r.f5 :: row (Kd.int .i64) 3 v7 r.f7 :: row (Kd.int .i64) 3 v8 r.f8 :: row (Kd.int .i64) 3 v9 r.f9 :: row kE 68 v10 r.f10 :: F)))
  case first =>
    by_cases hz : 0 < r.f5.length
    · have hz1 : decide (0 < (r.f5.length : Int)) = true := decide_eq_true (by omega)
      obtain ⟨ad, e, hx0, hx1⟩ := at_Entry (M1.out.row_C 2 rfl) ((r.f5.length : Int) - 1) (by omega) (by omega)
      cases e
      clear hx1
      rw [show ((r.f5.length : Int) - 1).toNat = r.f5.length - 1 by omega] at hx0
      have n5 := HN.out
      have HT := Aside0.mk (Wh.lastTime_rd hz)
      generalize (rd_Entry r.f5 ((r.f5.length : Int) - 1)).f0 = lt at *
      clear ew ew' e5
      go_wp2_with fail
      go_quiet (fail)
      go_wp2_with fail
      go_meet
      case rel => exact ⟨by rw [HT.out], ⟨(M1.out.drewN _).drewN _⟩⟩
    · have hz1 : decide (0 < (r.f5.length : Int)) = false := decide_eq_false (by omega)
      have HT := Aside0.mk (show lastTime r.f5 = 0 by
        have : r.f5 = [] := List.eq_nil_of_length_eq_zero (by omega)
        rw [this]
        rfl)
      clear ew ew' e5
      go_wp2_with fail
      go_meet
      case rel => exact ⟨by rw [HT.out], ⟨M1.out.drewN _⟩⟩
  case rest =>
    obtain ⟨rfl, M2⟩ := hcut
    clear M1
    have cM := blk_cell (M2.out.blk_at 0 rfl)
    have cG := blk_cell (M2.out.blk_at 1 rfl)
    unfold qc at cG
    obtain ⟨aE', eA, hE0, hE1⟩ := at_Entry (Kd.C_below HL.out M2.out.below) 0 (by omega) (by decide)
    cases eA
    rw [show rd_Entry m.f7 0 = en by rw [HF.out]; rfl] at hE0 hE1
    have hE0 : wc.cell? aE = some (.int .i64 en.f0) := by simpa [Addr.add] using hE0
    have fG := blk_frozen (M2.out.blk_at 1 rfl)
    have hg := blk_lt (M2.out.blk_at 1 rfl)
    generalize lastTime r.f5 = lt at *
    go_wp2_with fail
    go_quiet (fail)
    clear ew ew' e5 hE0 hE1
    have M3 := Aside0.mk (M2.out.drewN nq)
    clear M2
    go_upto_region 13 with (fail)
    go_cut [] (fun wy => ∃ y : Int, Aside0 (y = max r.f6 (min m.f5 (r.f5.length : Int))) ∧ Aside0 (Mem w0 wy (blk w.heap.size 27 #[.int .i64 m.f0, .int .i64 m.f1, .int .i64 m.f2, .int .i64 m.f3, .int .i64 m.f4, .int .i64 m.f5, .int .i64 m.f6, .slice (some aE) 1 c] :: blk g 25 (qc r.f0 r.f1 r.f2 r.f3 r.f4 (.slice B5 r.f5.length d5) y v7 v8 v9 v10 r.f11 r.f12) :: row kE 68 (.slice B5 r.f5.length d5) r.f5 :: row (Kd.int .i64) 3 v7 r.f7 :: row (Kd.int .i64) 3 v8 r.f8 :: row (Kd.int .i64) 3 v9 r.f9 :: row kE 68 v10 r.f10 :: F)))
    case first =>
      go_region
      all_goals
        go_wp2_with fail
        all_goals
          go_meet
          case rel => exact ⟨_, ⟨by have := HCL.out; first | omega | (split <;> omega) | (split <;> split <;> omega)⟩, ⟨(M3.out.set 1 rfl 6 _).drew⟩⟩
    case rest =>
      obtain ⟨y, HY, M4⟩ := hcut
      clear M3 cM cG fG hg
      have cM := blk_cell (M4.out.blk_at 0 rfl)
      have cG := blk_cell (M4.out.blk_at 1 rfl)
      unfold qc at cG
      go_wp2_with fail
      go_upto_region 20 with (fail)
      have HM0 := Aside0.mk cM
      have HG0 := Aside0.mk (blk_cell (M4.out.blk_at 1 rfl))
      have M2D := Aside0.mk M4.out.drew
      have HS0 := Aside0.mk (show (∀ j : Nat, wc.drew.cell? ⟨w.heap.size, j, none⟩ = wc.cell? ⟨w.heap.size, j, none⟩) ∧ (∀ j : Nat, wc.drew.cell? ⟨g, j, none⟩ = wc.cell? ⟨g, j, none⟩) from ⟨fun _ => rfl, fun _ => rfl⟩)
      have H9 := HS0
      go_region_held3 (fun w' => (∀ j : Nat, w'.cell? ⟨w.heap.size, j, none⟩ = wc.cell? ⟨w.heap.size, j, none⟩) ∧ (∀ j : Nat, w'.cell? ⟨g, j, none⟩ = wc.cell? ⟨g, j, none⟩)) (first | with_reducible exact HS0.out | with_reducible exact H9.out | fail) ((go_at_call 72; refine (one11_calls w0 _ emp _ g r.f0 r.f1 r.f2 r.f3 r.f4 _ y v7 v8 v9 v10 r.f11 r.f12 m.f1 2 0 0 0 (r.f5.length : Int) 0 0 none 0 [] (Mem.sel (ps := [_, _, _, _, _, _, _, _]) (F := F) [0, 2, 1, 3, 4, 5, 6, 7] 8 (Mem.cons_emp M2D.out) rfl rfl) (Rd.old (C_zero _)) (by decide) (by decide)).mono ?_; rintro e w1 ⟨vo, rfl, hM⟩; obtain ⟨Bo, co, rfl, _, _⟩ := hM.row_at 0 rfl; have M5 := Aside0.mk (Mem.sel (ps := [_, _, _, _, _, _, _, _, _]) (F := F) [0, 2, 3, 4, 5, 6, 7, 8] 9 hM rfl rfl); clear hM; have H9 := Aside0.mk (show (∀ j : Nat, w1.cell? ⟨w.heap.size, j, none⟩ = wc.cell? ⟨w.heap.size, j, none⟩) ∧ (∀ j : Nat, w1.cell? ⟨g, j, none⟩ = wc.cell? ⟨g, j, none⟩) from ⟨fun j => (blk_cell (M5.out.blk_at 2 rfl) j).trans (HM0.out j).symm, fun j => (blk_cell (M5.out.blk_at 1 rfl) j).trans (HG0.out j).symm⟩)))
      go_wp2
      go_ret
      have hy := HY.out
      have hs := HSS.out
      subst hs
      subst hy
      exact ⟨_, _, _, _, _, _, rfl, Mem.sel (ps := [_, _, _, _, _, _, _, _]) (F := F) [1, 3, 4, 5, 6, 7, 0] 8 M5.out rfl rfl⟩
theorem prep11_high (w0 w : World) (F : List Res) (g : Nat) (r : Rep) (m : Msg) (v5 v7 v8 v9 v10 : Value) (aE : Addr) (c : Nat) (hM : Mem w0 w (blk g 25 (qc r.f0 r.f1 r.f2 r.f3 r.f4 v5 r.f6 v7 v8 v9 v10 r.f11 r.f12) :: Kx.sL r v5 v7 v8 v9 v10 F)) (hl : Kd.C kE w0 (some aE) m.f7.length m.f7) (en : Entry) (hf : m.f7 = [en]) (hn : r.f5.length ≤ 1200) (hcl : r.f6 ≤ (r.f5.length : Int)) (hv : 0 ≤ m.f3) (hv2 : m.f3 ≤ 4611686018427387904) (hn0 : 0 < r.f1) (hn5 : r.f1 ≤ 5) (hk : m.f0 = 1) (h1 : ¬ m.f3 < r.f2) (h2 : m.f3 % r.f1 = m.f1) (h3 : ¬ r.f2 < m.f3) (h4 : r.f4 = 0) (h5 : (r.f5.length : Int) + 1 < m.f4) (s : Rep) (hs : raise r m.f5 = s) :
    Calls Tryz.prog 70 #[.pointer (some ⟨g, 0, none⟩), .agg #[.int .i64 m.f0, .int .i64 m.f1, .int .i64 m.f2, .int .i64 m.f3, .int .i64 m.f4, .int .i64 m.f5, .int .i64 m.f6, .slice (some aE) m.f7.length c]] w fun e w' => ∃ vout v5' v7' v8' v9' v10' : Value, e = .returned vout ∧ Mem w0 w' (blk g 25 (qc s.f0 s.f1 s.f2 s.f3 s.f4 v5' s.f6 v7' v8' v9' v10' s.f11 s.f12) :: row kE 68 v5' s.f5 :: row (Kd.int .i64) 3 v7' s.f7 :: row (Kd.int .i64) 3 v8' s.f8 :: row (Kd.int .i64) 3 v9' s.f9 :: row kE 68 v10' s.f10 :: row kM 27 vout [toOne s m.f1 ⟨7, 0, 0, 0, (s.f5.length : Int), 0, 0, []⟩] :: F) := by
  obtain ⟨B5, d5, rfl, _, _⟩ := hM.row_at 1 rfl
  have HSS := Aside0.mk hs
  clear hs
  obtain ⟨ew, ew'⟩ := wr_ hn
  obtain ⟨e5, e6, e7⟩ := high_ h5
  clear e6
  clear h5
  have e0 : (m.f0 == 1) = true := by simpa using hk
  clear hk
  have e1 : decide (m.f3 < r.f2) = false := by simpa using h1
  clear h1
  have e2 : (m.f3 % r.f1 == m.f1) = true := by simpa using h2
  have e2' : (m.f3 % r.f1 != m.f1) = false := by simpa using h2
  clear h2
  have e3 : decide (r.f2 < m.f3) = false := by simpa using h3
  clear h3
  have e4 : (r.f4 == 0) = true := by simpa using h4
  have e4' : (r.f4 != 0) = false := by simpa using h4
  clear h4
  have hlen : m.f7.length = 1 := by rw [hf]; rfl
  rw [hlen] at hl ⊢
  have HL := Aside0.mk hl
  have HF := Aside0.mk hf
  have HN := Aside0.mk hn
  have HCL := Aside0.mk hcl
  have HV := Aside0.mk (show 0 ≤ m.f3 ∧ m.f3 ≤ 4611686018427387904 from ⟨hv, hv2⟩)
  have HI := Aside0.mk (show 0 < r.f1 ∧ r.f1 ≤ 5 from ⟨hn0, hn5⟩)
  clear hlen
  have M1 := Aside0.mk (hM.alloc #[.int .i64 m.f0, .int .i64 m.f1, .int .i64 m.f2, .int .i64 m.f3, .int .i64 m.f4, .int .i64 m.f5, .int .i64 m.f6, .slice (some aE) 1 c] 27)
  clear hM hl hf hn hcl hv hv2 hn0 hn5
  have cM := blk_cell (M1.out.blk_at 0 rfl)
  have cG := blk_cell (M1.out.blk_at 1 rfl)
  unfold qc at cG
  have z1 : (r.f1 == 0) = false := by have := HI.out; simp; omega
  have z2 : ¬ r.f1 = 0 := by have := HI.out; omega
  have z3 : m.f3.tmod r.f1 = m.f3 % r.f1 := Int.tmod_eq_emod_of_nonneg HV.out.1
  go_enter Tryz.func70, Tryz.ntmps70
  go_wp2_with fail
  go_quiet (fail)
  clear z1 z2 z3
  go_wp2_with fail
  go_quiet (fail)
  go_upto_if 64 with (fail)
  go_cut [5] (fun s5 wx => s5 = .int .i64 (lastTime r.f5) ∧ Aside0 (Mem w0 wx (blk w.heap.size 27 #[.int .i64 m.f0, .int .i64 m.f1, .int .i64 m.f2, .int .i64 m.f3, .int .i64 m.f4, .int .i64 m.f5, .int .i64 m.f6, .slice (some aE) 1 c] :: blk g 25 (qc r.f0 r.f1 r.f2 r.f3 r.f4 (.slice B5 r.f5.length d5) r.f6 v7 v8 v9 v10 r.f11 r.f12) :: row kE 68 (.slice B5 r.f5.length d5) r.f5 :: row (Kd.int .i64) 3 v7 r.f7 :: row (Kd.int .i64) 3 v8 r.f8 :: row (Kd.int .i64) 3 v9 r.f9 :: row kE 68 v10 r.f10 :: F)))
  case first =>
    by_cases hz : 0 < r.f5.length
    · have hz1 : decide (0 < (r.f5.length : Int)) = true := decide_eq_true (by omega)
      obtain ⟨ad, e, hx0, hx1⟩ := at_Entry (M1.out.row_C 2 rfl) ((r.f5.length : Int) - 1) (by omega) (by omega)
      cases e
      clear hx1
      rw [show ((r.f5.length : Int) - 1).toNat = r.f5.length - 1 by omega] at hx0
      have n5 := HN.out
      have HT := Aside0.mk (Wh.lastTime_rd hz)
      generalize (rd_Entry r.f5 ((r.f5.length : Int) - 1)).f0 = lt at *
      clear ew ew' e5
      go_wp2_with fail
      go_quiet (fail)
      go_wp2_with fail
      go_meet
      case rel => exact ⟨by rw [HT.out], ⟨(M1.out.drewN _).drewN _⟩⟩
    · have hz1 : decide (0 < (r.f5.length : Int)) = false := decide_eq_false (by omega)
      have HT := Aside0.mk (show lastTime r.f5 = 0 by
        have : r.f5 = [] := List.eq_nil_of_length_eq_zero (by omega)
        rw [this]
        rfl)
      clear ew ew' e5
      go_wp2_with fail
      go_meet
      case rel => exact ⟨by rw [HT.out], ⟨M1.out.drewN _⟩⟩
  case rest =>
    obtain ⟨rfl, M2⟩ := hcut
    clear M1
    have cM := blk_cell (M2.out.blk_at 0 rfl)
    have cG := blk_cell (M2.out.blk_at 1 rfl)
    unfold qc at cG
    obtain ⟨aE', eA, hE0, hE1⟩ := at_Entry (Kd.C_below HL.out M2.out.below) 0 (by omega) (by decide)
    cases eA
    rw [show rd_Entry m.f7 0 = en by rw [HF.out]; rfl] at hE0 hE1
    have hE0 : wc.cell? aE = some (.int .i64 en.f0) := by simpa [Addr.add] using hE0
    have fG := blk_frozen (M2.out.blk_at 1 rfl)
    have hg := blk_lt (M2.out.blk_at 1 rfl)
    generalize lastTime r.f5 = lt at *
    go_wp2_with fail
    go_quiet (fail)
    clear ew ew' e5 hE0 hE1
    have M3 := Aside0.mk (M2.out.drewN nq)
    clear M2
    go_upto_region 13 with (fail)
    go_cut [] (fun wy => ∃ y : Int, Aside0 (y = max r.f6 (min m.f5 (r.f5.length : Int))) ∧ Aside0 (Mem w0 wy (blk w.heap.size 27 #[.int .i64 m.f0, .int .i64 m.f1, .int .i64 m.f2, .int .i64 m.f3, .int .i64 m.f4, .int .i64 m.f5, .int .i64 m.f6, .slice (some aE) 1 c] :: blk g 25 (qc r.f0 r.f1 r.f2 r.f3 r.f4 (.slice B5 r.f5.length d5) y v7 v8 v9 v10 r.f11 r.f12) :: row kE 68 (.slice B5 r.f5.length d5) r.f5 :: row (Kd.int .i64) 3 v7 r.f7 :: row (Kd.int .i64) 3 v8 r.f8 :: row (Kd.int .i64) 3 v9 r.f9 :: row kE 68 v10 r.f10 :: F)))
    case first =>
      go_region
      all_goals
        go_wp2_with fail
        all_goals
          go_meet
          case rel => exact ⟨_, ⟨by have := HCL.out; first | omega | (split <;> omega) | (split <;> split <;> omega)⟩, ⟨(M3.out.set 1 rfl 6 _).drew⟩⟩
    case rest =>
      obtain ⟨y, HY, M4⟩ := hcut
      clear M3 cM cG fG hg
      have cM := blk_cell (M4.out.blk_at 0 rfl)
      have cG := blk_cell (M4.out.blk_at 1 rfl)
      unfold qc at cG
      go_wp2_with fail
      go_upto_region 18 with (fail)
      have HM0 := Aside0.mk cM
      have HG0 := Aside0.mk (blk_cell (M4.out.blk_at 1 rfl))
      have M2D := Aside0.mk M4.out.drew
      have HS0 := Aside0.mk (show (∀ j : Nat, wc.drew.cell? ⟨w.heap.size, j, none⟩ = wc.cell? ⟨w.heap.size, j, none⟩) ∧ (∀ j : Nat, wc.drew.cell? ⟨g, j, none⟩ = wc.cell? ⟨g, j, none⟩) from ⟨fun _ => rfl, fun _ => rfl⟩)
      have H9 := HS0
      go_region_held3 (fun w' => (∀ j : Nat, w'.cell? ⟨w.heap.size, j, none⟩ = wc.cell? ⟨w.heap.size, j, none⟩) ∧ (∀ j : Nat, w'.cell? ⟨g, j, none⟩ = wc.cell? ⟨g, j, none⟩)) (first | with_reducible exact HS0.out | with_reducible exact H9.out | fail) ((go_at_call 72; refine (one11_calls w0 _ emp _ g r.f0 r.f1 r.f2 r.f3 r.f4 _ y v7 v8 v9 v10 r.f11 r.f12 m.f1 7 0 0 0 (r.f5.length : Int) 0 0 none 0 [] (Mem.sel (ps := [_, _, _, _, _, _, _, _]) (F := F) [0, 2, 1, 3, 4, 5, 6, 7] 8 (Mem.cons_emp M2D.out) rfl rfl) (Rd.old (C_zero _)) (by decide) (by decide)).mono ?_; rintro e w1 ⟨vo, rfl, hM⟩; obtain ⟨Bo, co, rfl, _, _⟩ := hM.row_at 0 rfl; have M5 := Aside0.mk (Mem.sel (ps := [_, _, _, _, _, _, _, _, _]) (F := F) [0, 2, 3, 4, 5, 6, 7, 8] 9 hM rfl rfl); clear hM; have H9 := Aside0.mk (show (∀ j : Nat, w1.cell? ⟨w.heap.size, j, none⟩ = wc.cell? ⟨w.heap.size, j, none⟩) ∧ (∀ j : Nat, w1.cell? ⟨g, j, none⟩ = wc.cell? ⟨g, j, none⟩) from ⟨fun j => (blk_cell (M5.out.blk_at 2 rfl) j).trans (HM0.out j).symm, fun j => (blk_cell (M5.out.blk_at 1 rfl) j).trans (HG0.out j).symm⟩)))
      go_wp2
      go_ret
      have hy := HY.out
      have hs := HSS.out
      subst hs
      subst hy
      exact ⟨_, _, _, _, _, _, rfl, Mem.sel (ps := [_, _, _, _, _, _, _, _]) (F := F) [1, 3, 4, 5, 6, 7, 0] 8 M5.out rfl rfl⟩
theorem prep11_rej1 (w0 w : World) (F : List Res) (g : Nat) (r : Rep) (m : Msg) (v5 v7 v8 v9 v10 : Value) (aE : Addr) (c : Nat) (hM : Mem w0 w (blk g 25 (qc r.f0 r.f1 r.f2 r.f3 r.f4 v5 r.f6 v7 v8 v9 v10 r.f11 r.f12) :: Kx.sL r v5 v7 v8 v9 v10 F)) (hl : Kd.C kE w0 (some aE) m.f7.length m.f7) (en : Entry) (hf : m.f7 = [en]) (hn : r.f5.length ≤ 1200) (hcl : r.f6 ≤ (r.f5.length : Int)) (hv : 0 ≤ m.f3) (hv2 : m.f3 ≤ 4611686018427387904) (hn0 : 0 < r.f1) (hn5 : r.f1 ≤ 5) (hk : m.f0 = 1) (h1 : ¬ m.f3 < r.f2) (h2 : m.f3 % r.f1 = m.f1) (h3 : ¬ r.f2 < m.f3) (h4 : r.f4 = 0) (h5 : m.f4 = (r.f5.length : Int) + 1) (h6 : ¬ lastTime r.f5 < en.f0) (s : Rep) (hs : raise r m.f5 = s) :
    Calls Tryz.prog 70 #[.pointer (some ⟨g, 0, none⟩), .agg #[.int .i64 m.f0, .int .i64 m.f1, .int .i64 m.f2, .int .i64 m.f3, .int .i64 m.f4, .int .i64 m.f5, .int .i64 m.f6, .slice (some aE) m.f7.length c]] w fun e w' => ∃ vout v5' v7' v8' v9' v10' : Value, e = .returned vout ∧ Mem w0 w' (blk g 25 (qc s.f0 s.f1 s.f2 s.f3 s.f4 v5' s.f6 v7' v8' v9' v10' s.f11 s.f12) :: row kE 68 v5' s.f5 :: row (Kd.int .i64) 3 v7' s.f7 :: row (Kd.int .i64) 3 v8' s.f8 :: row (Kd.int .i64) 3 v9' s.f9 :: row kE 68 v10' s.f10 :: row kM 27 vout [toOne s m.f1 ⟨7, 0, 0, 0, (s.f5.length : Int), 0, 0, []⟩] :: F) := by
  obtain ⟨B5, d5, rfl, _, _⟩ := hM.row_at 1 rfl
  have HSS := Aside0.mk hs
  clear hs
  obtain ⟨ew, ew'⟩ := wr_ hn
  obtain ⟨e5, e6, e7⟩ := even_ h5
  clear e6
  clear h5
  have e8 : decide (lastTime r.f5 < en.f0) = false := by simpa using h6
  clear h6
  have e0 : (m.f0 == 1) = true := by simpa using hk
  clear hk
  have e1 : decide (m.f3 < r.f2) = false := by simpa using h1
  clear h1
  have e2 : (m.f3 % r.f1 == m.f1) = true := by simpa using h2
  have e2' : (m.f3 % r.f1 != m.f1) = false := by simpa using h2
  clear h2
  have e3 : decide (r.f2 < m.f3) = false := by simpa using h3
  clear h3
  have e4 : (r.f4 == 0) = true := by simpa using h4
  have e4' : (r.f4 != 0) = false := by simpa using h4
  clear h4
  have hlen : m.f7.length = 1 := by rw [hf]; rfl
  rw [hlen] at hl ⊢
  have HL := Aside0.mk hl
  have HF := Aside0.mk hf
  have HN := Aside0.mk hn
  have HCL := Aside0.mk hcl
  have HV := Aside0.mk (show 0 ≤ m.f3 ∧ m.f3 ≤ 4611686018427387904 from ⟨hv, hv2⟩)
  have HI := Aside0.mk (show 0 < r.f1 ∧ r.f1 ≤ 5 from ⟨hn0, hn5⟩)
  clear hlen
  have M1 := Aside0.mk (hM.alloc #[.int .i64 m.f0, .int .i64 m.f1, .int .i64 m.f2, .int .i64 m.f3, .int .i64 m.f4, .int .i64 m.f5, .int .i64 m.f6, .slice (some aE) 1 c] 27)
  clear hM hl hf hn hcl hv hv2 hn0 hn5
  have cM := blk_cell (M1.out.blk_at 0 rfl)
  have cG := blk_cell (M1.out.blk_at 1 rfl)
  unfold qc at cG
  have z1 : (r.f1 == 0) = false := by have := HI.out; simp; omega
  have z2 : ¬ r.f1 = 0 := by have := HI.out; omega
  have z3 : m.f3.tmod r.f1 = m.f3 % r.f1 := Int.tmod_eq_emod_of_nonneg HV.out.1
  go_enter Tryz.func70, Tryz.ntmps70
  go_wp2_with fail
  go_quiet (fail)
  clear z1 z2 z3
  go_wp2_with fail
  go_quiet (fail)
  go_upto_if 64 with (fail)
  go_cut [5] (fun s5 wx => s5 = .int .i64 (lastTime r.f5) ∧ Aside0 (Mem w0 wx (blk w.heap.size 27 #[.int .i64 m.f0, .int .i64 m.f1, .int .i64 m.f2, .int .i64 m.f3, .int .i64 m.f4, .int .i64 m.f5, .int .i64 m.f6, .slice (some aE) 1 c] :: blk g 25 (qc r.f0 r.f1 r.f2 r.f3 r.f4 (.slice B5 r.f5.length d5) r.f6 v7 v8 v9 v10 r.f11 r.f12) :: row kE 68 (.slice B5 r.f5.length d5) r.f5 :: row (Kd.int .i64) 3 v7 r.f7 :: row (Kd.int .i64) 3 v8 r.f8 :: row (Kd.int .i64) 3 v9 r.f9 :: row kE 68 v10 r.f10 :: F)))
  case first =>
    by_cases hz : 0 < r.f5.length
    · have hz1 : decide (0 < (r.f5.length : Int)) = true := decide_eq_true (by omega)
      obtain ⟨ad, e, hx0, hx1⟩ := at_Entry (M1.out.row_C 2 rfl) ((r.f5.length : Int) - 1) (by omega) (by omega)
      cases e
      clear hx1
      rw [show ((r.f5.length : Int) - 1).toNat = r.f5.length - 1 by omega] at hx0
      have n5 := HN.out
      have HT := Aside0.mk (Wh.lastTime_rd hz)
      generalize (rd_Entry r.f5 ((r.f5.length : Int) - 1)).f0 = lt at *
      clear ew ew' e5
      go_wp2_with fail
      go_quiet (fail)
      go_wp2_with fail
      go_meet
      case rel => exact ⟨by rw [HT.out], ⟨(M1.out.drewN _).drewN _⟩⟩
    · have hz1 : decide (0 < (r.f5.length : Int)) = false := decide_eq_false (by omega)
      have HT := Aside0.mk (show lastTime r.f5 = 0 by
        have : r.f5 = [] := List.eq_nil_of_length_eq_zero (by omega)
        rw [this]
        rfl)
      clear ew ew' e5
      go_wp2_with fail
      go_meet
      case rel => exact ⟨by rw [HT.out], ⟨M1.out.drewN _⟩⟩
  case rest =>
    obtain ⟨rfl, M2⟩ := hcut
    clear M1
    have cM := blk_cell (M2.out.blk_at 0 rfl)
    have cG := blk_cell (M2.out.blk_at 1 rfl)
    unfold qc at cG
    obtain ⟨aE', eA, hE0, hE1⟩ := at_Entry (Kd.C_below HL.out M2.out.below) 0 (by omega) (by decide)
    cases eA
    rw [show rd_Entry m.f7 0 = en by rw [HF.out]; rfl] at hE0 hE1
    have hE0 : wc.cell? aE = some (.int .i64 en.f0) := by simpa [Addr.add] using hE0
    have fG := blk_frozen (M2.out.blk_at 1 rfl)
    have hg := blk_lt (M2.out.blk_at 1 rfl)
    generalize lastTime r.f5 = lt at *
    go_wp2_with fail
    go_quiet (fail)
    clear ew ew' e5 hE0 hE1
    have M3 := Aside0.mk (M2.out.drewN nq)
    clear M2
    go_upto_region 13 with (fail)
    go_cut [] (fun wy => ∃ y : Int, Aside0 (y = max r.f6 (min m.f5 (r.f5.length : Int))) ∧ Aside0 (Mem w0 wy (blk w.heap.size 27 #[.int .i64 m.f0, .int .i64 m.f1, .int .i64 m.f2, .int .i64 m.f3, .int .i64 m.f4, .int .i64 m.f5, .int .i64 m.f6, .slice (some aE) 1 c] :: blk g 25 (qc r.f0 r.f1 r.f2 r.f3 r.f4 (.slice B5 r.f5.length d5) y v7 v8 v9 v10 r.f11 r.f12) :: row kE 68 (.slice B5 r.f5.length d5) r.f5 :: row (Kd.int .i64) 3 v7 r.f7 :: row (Kd.int .i64) 3 v8 r.f8 :: row (Kd.int .i64) 3 v9 r.f9 :: row kE 68 v10 r.f10 :: F)))
    case first =>
      go_region
      all_goals
        go_wp2_with fail
        all_goals
          go_meet
          case rel => exact ⟨_, ⟨by have := HCL.out; first | omega | (split <;> omega) | (split <;> split <;> omega)⟩, ⟨(M3.out.set 1 rfl 6 _).drew⟩⟩
    case rest =>
      obtain ⟨y, HY, M4⟩ := hcut
      clear M3 cM cG fG hg
      have cM := blk_cell (M4.out.blk_at 0 rfl)
      have cG := blk_cell (M4.out.blk_at 1 rfl)
      unfold qc at cG
      go_wp2_with fail
      go_upto_region 18 with (fail)
      have HM0 := Aside0.mk cM
      have HG0 := Aside0.mk (blk_cell (M4.out.blk_at 1 rfl))
      have M2D := Aside0.mk M4.out.drew
      have HS0 := Aside0.mk (show (∀ j : Nat, wc.drew.cell? ⟨w.heap.size, j, none⟩ = wc.cell? ⟨w.heap.size, j, none⟩) ∧ (∀ j : Nat, wc.drew.cell? ⟨g, j, none⟩ = wc.cell? ⟨g, j, none⟩) from ⟨fun _ => rfl, fun _ => rfl⟩)
      have H9 := HS0
      go_region_held3 (fun w' => (∀ j : Nat, w'.cell? ⟨w.heap.size, j, none⟩ = wc.cell? ⟨w.heap.size, j, none⟩) ∧ (∀ j : Nat, w'.cell? ⟨g, j, none⟩ = wc.cell? ⟨g, j, none⟩)) (first | with_reducible exact HS0.out | with_reducible exact H9.out | fail) ((go_at_call 72; refine (one11_calls w0 _ emp _ g r.f0 r.f1 r.f2 r.f3 r.f4 _ y v7 v8 v9 v10 r.f11 r.f12 m.f1 7 0 0 0 (r.f5.length : Int) 0 0 none 0 [] (Mem.sel (ps := [_, _, _, _, _, _, _, _]) (F := F) [0, 2, 1, 3, 4, 5, 6, 7] 8 (Mem.cons_emp M2D.out) rfl rfl) (Rd.old (C_zero _)) (by decide) (by decide)).mono ?_; rintro e w1 ⟨vo, rfl, hM⟩; obtain ⟨Bo, co, rfl, _, _⟩ := hM.row_at 0 rfl; have M5 := Aside0.mk (Mem.sel (ps := [_, _, _, _, _, _, _, _, _]) (F := F) [0, 2, 3, 4, 5, 6, 7, 8] 9 hM rfl rfl); clear hM; have H9 := Aside0.mk (show (∀ j : Nat, w1.cell? ⟨w.heap.size, j, none⟩ = wc.cell? ⟨w.heap.size, j, none⟩) ∧ (∀ j : Nat, w1.cell? ⟨g, j, none⟩ = wc.cell? ⟨g, j, none⟩) from ⟨fun j => (blk_cell (M5.out.blk_at 2 rfl) j).trans (HM0.out j).symm, fun j => (blk_cell (M5.out.blk_at 1 rfl) j).trans (HG0.out j).symm⟩)))
      go_wp2
      go_ret
      have hy := HY.out
      have hs := HSS.out
      subst hs
      subst hy
      exact ⟨_, _, _, _, _, _, rfl, Mem.sel (ps := [_, _, _, _, _, _, _, _]) (F := F) [1, 3, 4, 5, 6, 7, 0] 8 M5.out rfl rfl⟩
end Go.Proofs.YtggbjokhniigkaaGreat.Pf
