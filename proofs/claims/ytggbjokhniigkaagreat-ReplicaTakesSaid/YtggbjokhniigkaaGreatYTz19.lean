/- Texts laid together: Ph, Uc1, Tt2. No condition. -/
import Derived.Deep.RegionHeld3
import Derived.Test.YtggbjokhniigkaaGreatYTz17
import Derived.Test.YtggbjokhniigkaaGreatYTz18
set_option linter.unusedVariables false
set_option linter.unusedSimpArgs false
set_option maxRecDepth 100000
set_option maxHeartbeats 8000000
namespace Go.Proofs.YtggbjokhniigkaaGreat.Ph
open Ty Go.RowKit YtggbjokhniigkaaGreatW.PrintWords YtggbjokhniigkaaGreatW.PrintLast YtggbjokhniigkaaGreatW.PrintMore Mx Kx Wa Tk Sa To Wd Wj Pe
theorem prep11_rej2 (w0 w : World) (F : List Res) (g : Nat) (r : Rep) (m : Msg) (v5 v7 v8 v9 v10 : Value) (aE : Addr) (c : Nat) (hM : Mem w0 w (blk g 25 (qc r.f0 r.f1 r.f2 r.f3 r.f4 v5 r.f6 v7 v8 v9 v10 r.f11 r.f12) :: Kx.sL r v5 v7 v8 v9 v10 F)) (hl : Kd.C kE w0 (some aE) m.f7.length m.f7) (en : Entry) (hf : m.f7 = [en]) (hn : r.f5.length ≤ 1200) (hcl : r.f6 ≤ (r.f5.length : Int)) (hv : 0 ≤ m.f3) (hv2 : m.f3 ≤ 4611686018427387904) (hn0 : 0 < r.f1) (hn5 : r.f1 ≤ 5) (hk : m.f0 = 1) (h1 : ¬ m.f3 < r.f2) (h2 : m.f3 % r.f1 = m.f1) (h3 : ¬ r.f2 < m.f3) (h4 : r.f4 = 0) (h5 : m.f4 = (r.f5.length : Int) + 1) (h6 : lastTime r.f5 < en.f0) (h7 : ¬ r.f5.length < 1000) (s : Rep) (hs : raise r m.f5 = s) :
    Calls Tryz.prog 70 #[.pointer (some ⟨g, 0, none⟩), .agg #[.int .i64 m.f0, .int .i64 m.f1, .int .i64 m.f2, .int .i64 m.f3, .int .i64 m.f4, .int .i64 m.f5, .int .i64 m.f6, .slice (some aE) m.f7.length c]] w fun e w' => ∃ vout v5' v7' v8' v9' v10' : Value, e = .returned vout ∧ Mem w0 w' (blk g 25 (qc s.f0 s.f1 s.f2 s.f3 s.f4 v5' s.f6 v7' v8' v9' v10' s.f11 s.f12) :: row kE 68 v5' s.f5 :: row (Kd.int .i64) 3 v7' s.f7 :: row (Kd.int .i64) 3 v8' s.f8 :: row (Kd.int .i64) 3 v9' s.f9 :: row kE 68 v10' s.f10 :: row kM 27 vout [toOne s m.f1 ⟨7, 0, 0, 0, (s.f5.length : Int), 0, 0, []⟩] :: F) := by
  obtain ⟨B5, d5, rfl, _, _⟩ := hM.row_at 1 rfl
  have HSS := Aside0.mk hs
  clear hs
  obtain ⟨ew, ew'⟩ := wr_ hn
  obtain ⟨e5, e6, e7⟩ := even_ h5
  clear e6
  clear h5
  have e8 : decide (lastTime r.f5 < en.f0) = true := by simpa using h6
  clear h6
  have e9 : decide ((r.f5.length : Int) < 1000) = false := th_f h7
  clear h7
  have e0 : (m.f0 == 1) = true := by simpa using hk
  clear hk
  have e1 : decide (m.f3 < r.f2) = false := by simpa using h1
  clear h1
  have e2 : (m.f3 % r.f1 == m.f1) = true := by simpa using h2
  have e2' : (m.f3 % r.f1 != m.f1) = false := by simpa using h2
  clear h2
  have e3 : decide (r.f2 < m.f3) = false := by simpa using h3
  clear h3
  have e4 : (r.f4 == 0) = true := by simpa using h4
  have e4' : (r.f4 != 0) = false := by simpa using h4
  clear h4
  have hlen : m.f7.length = 1 := by rw [hf]; rfl
  rw [hlen] at hl ⊢
  have HL := Aside0.mk hl
  have HF := Aside0.mk hf
  have HN := Aside0.mk hn
  have HCL := Aside0.mk hcl
  have HV := Aside0.mk (show 0 ≤ m.f3 ∧ m.f3 ≤ 4611686018427387904 from ⟨hv, hv2⟩)
  have HI := Aside0.mk (show 0 < r.f1 ∧ r.f1 ≤ 5 from ⟨hn0, hn5⟩)
  clear hlen
  have M1 := Aside0.mk (hM.alloc #[.int .i64 m.f0, .int .i64 m.f1, .int .i64 m.f2, .int .i64 m.f3, .int .i64 m.f4, .int .i64 m.f5, .int .i64 m.f6, .slice (some aE) 1 c] 27)
  clear hM hl hf hn hcl hv hv2 hn0 hn5
  have cM := blk_cell (M1.out.blk_at 0 rfl)
  have cG := blk_cell (M1.out.blk_at 1 rfl)
  unfold qc at cG
  have z1 : (r.f1 == 0) = false := by have := HI.out; simp; omega
  have z2 : ¬ r.f1 = 0 := by have := HI.out; omega
  have z3 : m.f3.tmod r.f1 = m.f3 % r.f1 := Int.tmod_eq_emod_of_nonneg HV.out.1
  go_enter Tryz.func70, Tryz.ntmps70
  go_wp2_with fail
  go_quiet (fail)
  clear z1 z2 z3
  go_wp2_with fail
  go_quiet (fail)
  go_upto_if 64 with (fail)
  go_cut [5] (fun s5 wx => s5 = .int .i64 (lastTime r.f5) ∧ Aside0 (Mem w0 wx (blk w.heap.size 27 #[.int .i64 m.f0, .int .i64 m.f1, .int .i64 m.f2, .int .i64 m.f3, .int .i64 m.f4, .int .i64 m.f5, .int .i64 m.f6, .slice (some aE) 1 c] :: blk g 25 (qc r.f0 r.f1 r.f2 r.f3 r.f4 (.slice B5 r.f5.length d5) r.f6 v7 v8 v9 v10 r.f11 r.f12) :: row kE 68 (.slice B5 r.f5.length d5) r.f5 :: row (Kd.int .i64) 3 v7 r.f7 :: row (Kd.int .i64) 3 v8 r.f8 :: row (Kd.int .i64) 3 v9 r.f9 :: row kE 68 v10 r.f10 :: F)))
  case first =>
    by_cases hz : 0 < r.f5.length
    · have hz1 : decide (0 < (r.f5.length : Int)) = true := decide_eq_true (by omega)
      obtain ⟨ad, e, hx0, hx1⟩ := at_Entry (M1.out.row_C 2 rfl) ((r.f5.length : Int) - 1) (by omega) (by omega)
      cases e
      clear hx1
      rw [show ((r.f5.length : Int) - 1).toNat = r.f5.length - 1 by omega] at hx0
      have n5 := HN.out
      have HT := Aside0.mk (Wh.lastTime_rd hz)
      generalize (rd_Entry r.f5 ((r.f5.length : Int) - 1)).f0 = lt at *
      clear ew ew' e5
      go_wp2_with fail
      go_quiet (fail)
      go_wp2_with fail
      go_meet
      case rel => exact ⟨by rw [HT.out], ⟨(M1.out.drewN _).drewN _⟩⟩
    · have hz1 : decide (0 < (r.f5.length : Int)) = false := decide_eq_false (by omega)
      have HT := Aside0.mk (show lastTime r.f5 = 0 by
        have : r.f5 = [] := List.eq_nil_of_length_eq_zero (by omega)
        rw [this]
        rfl)
      clear ew ew' e5
      go_wp2_with fail
      go_meet
      case rel => exact ⟨by rw [HT.out], ⟨M1.out.drewN _⟩⟩
  case rest =>
    obtain ⟨rfl, M2⟩ := hcut
    clear M1
    have cM := blk_cell (M2.out.blk_at 0 rfl)
    have cG := blk_cell (M2.out.blk_at 1 rfl)
    unfold qc at cG
    obtain ⟨aE', eA, hE0, hE1⟩ := at_Entry (Kd.C_below HL.out M2.out.below) 0 (by omega) (by decide)
    cases eA
    rw [show rd_Entry m.f7 0 = en by rw [HF.out]; rfl] at hE0 hE1
    have hE0 : wc.cell? aE = some (.int .i64 en.f0) := by simpa [Addr.add] using hE0
    have fG := blk_frozen (M2.out.blk_at 1 rfl)
    have hg := blk_lt (M2.out.blk_at 1 rfl)
    generalize lastTime r.f5 = lt at *
    go_wp2_with fail
    go_quiet (fail)
    clear ew ew' e5 hE0 hE1
    have M3 := Aside0.mk (M2.out.drewN nq)
    clear M2
    go_upto_region 13 with (fail)
    go_cut [] (fun wy => ∃ y : Int, Aside0 (y = max r.f6 (min m.f5 (r.f5.length : Int))) ∧ Aside0 (Mem w0 wy (blk w.heap.size 27 #[.int .i64 m.f0, .int .i64 m.f1, .int .i64 m.f2, .int .i64 m.f3, .int .i64 m.f4, .int .i64 m.f5, .int .i64 m.f6, .slice (some aE) 1 c] :: blk g 25 (qc r.f0 r.f1 r.f2 r.f3 r.f4 (.slice B5 r.f5.length d5) y v7 v8 v9 v10 r.f11 r.f12) :: row kE 68 (.slice B5 r.f5.length d5) r.f5 :: row (Kd.int .i64) 3 v7 r.f7 :: row (Kd.int .i64) 3 v8 r.f8 :: row (Kd.int .i64) 3 v9 r.f9 :: row kE 68 v10 r.f10 :: F)))
    case first =>
      go_region
      all_goals
        go_wp2_with fail
        all_goals
          go_meet
          case rel => exact ⟨_, ⟨by have := HCL.out; first | omega | (split <;> omega) | (split <;> split <;> omega)⟩, ⟨(M3.out.set 1 rfl 6 _).drew⟩⟩
    case rest =>
      obtain ⟨y, HY, M4⟩ := hcut
      clear M3 cM cG fG hg
      have cM := blk_cell (M4.out.blk_at 0 rfl)
      have cG := blk_cell (M4.out.blk_at 1 rfl)
      unfold qc at cG
      go_wp2_with fail
      go_upto_region 18 with (fail)
      have HM0 := Aside0.mk cM
      have HG0 := Aside0.mk (blk_cell (M4.out.blk_at 1 rfl))
      have M2D := Aside0.mk M4.out.drew
      have HS0 := Aside0.mk (show (∀ j : Nat, wc.drew.cell? ⟨w.heap.size, j, none⟩ = wc.cell? ⟨w.heap.size, j, none⟩) ∧ (∀ j : Nat, wc.drew.cell? ⟨g, j, none⟩ = wc.cell? ⟨g, j, none⟩) from ⟨fun _ => rfl, fun _ => rfl⟩)
      have H9 := HS0
      go_region_held3 (fun w' => (∀ j : Nat, w'.cell? ⟨w.heap.size, j, none⟩ = wc.cell? ⟨w.heap.size, j, none⟩) ∧ (∀ j : Nat, w'.cell? ⟨g, j, none⟩ = wc.cell? ⟨g, j, none⟩)) (first | with_reducible exact HS0.out | with_reducible exact H9.out | fail) ((go_at_call 72; refine (one11_calls w0 _ emp _ g r.f0 r.f1 r.f2 r.f3 r.f4 _ y v7 v8 v9 v10 r.f11 r.f12 m.f1 7 0 0 0 (r.f5.length : Int) 0 0 none 0 [] (Mem.sel (ps := [_, _, _, _, _, _, _, _]) (F := F) [0, 2, 1, 3, 4, 5, 6, 7] 8 (Mem.cons_emp M2D.out) rfl rfl) (Rd.old (C_zero _)) (by decide) (by decide)).mono ?_; rintro e w1 ⟨vo, rfl, hM⟩; obtain ⟨Bo, co, rfl, _, _⟩ := hM.row_at 0 rfl; have M5 := Aside0.mk (Mem.sel (ps := [_, _, _, _, _, _, _, _, _]) (F := F) [0, 2, 3, 4, 5, 6, 7, 8] 9 hM rfl rfl); clear hM; have H9 := Aside0.mk (show (∀ j : Nat, w1.cell? ⟨w.heap.size, j, none⟩ = wc.cell? ⟨w.heap.size, j, none⟩) ∧ (∀ j : Nat, w1.cell? ⟨g, j, none⟩ = wc.cell? ⟨g, j, none⟩) from ⟨fun j => (blk_cell (M5.out.blk_at 2 rfl) j).trans (HM0.out j).symm, fun j => (blk_cell (M5.out.blk_at 1 rfl) j).trans (HG0.out j).symm⟩)))
      go_wp2
      go_ret
      have hy := HY.out
      have hs := HSS.out
      subst hs
      subst hy
      exact ⟨_, _, _, _, _, _, rfl, Mem.sel (ps := [_, _, _, _, _, _, _, _]) (F := F) [1, 3, 4, 5, 6, 7, 0] 8 M5.out rfl rfl⟩
theorem prep11_acc (w0 w : World) (F : List Res) (g : Nat) (r : Rep) (m : Msg) (v5 v7 v8 v9 v10 : Value) (aE : Addr) (c : Nat) (hM : Mem w0 w (blk g 25 (qc r.f0 r.f1 r.f2 r.f3 r.f4 v5 r.f6 v7 v8 v9 v10 r.f11 r.f12) :: Kx.sL r v5 v7 v8 v9 v10 F)) (hl : Kd.C kE w0 (some aE) m.f7.length m.f7) (en : Entry) (hf : m.f7 = [en]) (hn : r.f5.length ≤ 1200) (hcl : r.f6 ≤ (r.f5.length : Int)) (hv : 0 ≤ m.f3) (hv2 : m.f3 ≤ 4611686018427387904) (hn0 : 0 < r.f1) (hn5 : r.f1 ≤ 5) (hk : m.f0 = 1) (h1 : ¬ m.f3 < r.f2) (h2 : m.f3 % r.f1 = m.f1) (h3 : ¬ r.f2 < m.f3) (h4 : r.f4 = 0) (h5 : m.f4 = (r.f5.length : Int) + 1) (h6 : lastTime r.f5 < en.f0) (h7 : r.f5.length < 1000) (s : Rep) (hs : raise { r with f5 := r.f5 ++ [en] } m.f5 = s) :
    Calls Tryz.prog 70 #[.pointer (some ⟨g, 0, none⟩), .agg #[.int .i64 m.f0, .int .i64 m.f1, .int .i64 m.f2, .int .i64 m.f3, .int .i64 m.f4, .int .i64 m.f5, .int .i64 m.f6, .slice (some aE) m.f7.length c]] w fun e w' => ∃ vout v5' v7' v8' v9' v10' : Value, e = .returned vout ∧ Mem w0 w' (blk g 25 (qc s.f0 s.f1 s.f2 s.f3 s.f4 v5' s.f6 v7' v8' v9' v10' s.f11 s.f12) :: row kE 68 v5' s.f5 :: row (Kd.int .i64) 3 v7' s.f7 :: row (Kd.int .i64) 3 v8' s.f8 :: row (Kd.int .i64) 3 v9' s.f9 :: row kE 68 v10' s.f10 :: row kM 27 vout [toOne s m.f1 ⟨2, 0, 0, 0, (s.f5.length : Int), 0, 0, []⟩] :: F) := by
  obtain ⟨B5, d5, rfl, _, _⟩ := hM.row_at 1 rfl
  obtain ⟨l3, hl3⟩ : ∃ l3, r.f5 ++ [en] = l3 := ⟨_, rfl⟩
  have hn3 : l3.length = r.f5.length + 1 := by rw [← hl3, List.length_append]; rfl
  have HSS := Aside0.mk hs
  have HL3 := Aside0.mk hl3
  clear hs
  obtain ⟨ew, ew'⟩ := wr_ hn
  obtain ⟨e5, e6, e7⟩ := up_ h5 hn3
  clear e6
  have HN3 := Aside0.mk hn3
  clear h5 hl3
  have e8 : decide (lastTime r.f5 < en.f0) = true := by simpa using h6
  clear h6
  have e9 : decide ((r.f5.length : Int) < 1000) = true := th_t h7
  clear h7 hn3
  have e0 : (m.f0 == 1) = true := by simpa using hk
  clear hk
  have e1 : decide (m.f3 < r.f2) = false := by simpa using h1
  clear h1
  have e2 : (m.f3 % r.f1 == m.f1) = true := by simpa using h2
  have e2' : (m.f3 % r.f1 != m.f1) = false := by simpa using h2
  clear h2
  have e3 : decide (r.f2 < m.f3) = false := by simpa using h3
  clear h3
  have e4 : (r.f4 == 0) = true := by simpa using h4
  have e4' : (r.f4 != 0) = false := by simpa using h4
  clear h4
  have hlen : m.f7.length = 1 := by rw [hf]; rfl
  rw [hlen] at hl ⊢
  have HL := Aside0.mk hl
  have HF := Aside0.mk hf
  have HN := Aside0.mk hn
  have HCL := Aside0.mk hcl
  have HV := Aside0.mk (show 0 ≤ m.f3 ∧ m.f3 ≤ 4611686018427387904 from ⟨hv, hv2⟩)
  have HI := Aside0.mk (show 0 < r.f1 ∧ r.f1 ≤ 5 from ⟨hn0, hn5⟩)
  clear hlen
  have M1 := Aside0.mk (hM.alloc #[.int .i64 m.f0, .int .i64 m.f1, .int .i64 m.f2, .int .i64 m.f3, .int .i64 m.f4, .int .i64 m.f5, .int .i64 m.f6, .slice (some aE) 1 c] 27)
  clear hM hl hf hn hcl hv hv2 hn0 hn5
  have cM := blk_cell (M1.out.blk_at 0 rfl)
  have cG := blk_cell (M1.out.blk_at 1 rfl)
  unfold qc at cG
  have z1 : (r.f1 == 0) = false := by have := HI.out; simp; omega
  have z2 : ¬ r.f1 = 0 := by have := HI.out; omega
  have z3 : m.f3.tmod r.f1 = m.f3 % r.f1 := Int.tmod_eq_emod_of_nonneg HV.out.1
  go_enter Tryz.func70, Tryz.ntmps70
  go_wp2_with fail
  go_quiet (fail)
  clear z1 z2 z3
  go_wp2_with fail
  go_quiet (fail)
  go_upto_if 64 with (fail)
  go_cut [5] (fun s5 wx => s5 = .int .i64 (lastTime r.f5) ∧ Aside0 (Mem w0 wx (blk w.heap.size 27 #[.int .i64 m.f0, .int .i64 m.f1, .int .i64 m.f2, .int .i64 m.f3, .int .i64 m.f4, .int .i64 m.f5, .int .i64 m.f6, .slice (some aE) 1 c] :: blk g 25 (qc r.f0 r.f1 r.f2 r.f3 r.f4 (.slice B5 r.f5.length d5) r.f6 v7 v8 v9 v10 r.f11 r.f12) :: row kE 68 (.slice B5 r.f5.length d5) r.f5 :: row (Kd.int .i64) 3 v7 r.f7 :: row (Kd.int .i64) 3 v8 r.f8 :: row (Kd.int .i64) 3 v9 r.f9 :: row kE 68 v10 r.f10 :: F)))
  case first =>
    by_cases hz : 0 < r.f5.length
    · have hz1 : decide (0 < (r.f5.length : Int)) = true := decide_eq_true (by omega)
      obtain ⟨ad, e, hx0, hx1⟩ := at_Entry (M1.out.row_C 2 rfl) ((r.f5.length : Int) - 1) (by omega) (by omega)
      cases e
      clear hx1
      rw [show ((r.f5.length : Int) - 1).toNat = r.f5.length - 1 by omega] at hx0
      have n5 := HN.out
      have HT := Aside0.mk (Wh.lastTime_rd hz)
      generalize (rd_Entry r.f5 ((r.f5.length : Int) - 1)).f0 = lt at *
      clear ew ew' e5
      go_wp2_with fail
      go_quiet (fail)
      go_wp2_with fail
      go_meet
      case rel => exact ⟨by rw [HT.out], ⟨(M1.out.drewN _).drewN _⟩⟩
    · have hz1 : decide (0 < (r.f5.length : Int)) = false := decide_eq_false (by omega)
      have HT := Aside0.mk (show lastTime r.f5 = 0 by
        have : r.f5 = [] := List.eq_nil_of_length_eq_zero (by omega)
        rw [this]
        rfl)
      clear ew ew' e5
      go_wp2_with fail
      go_meet
      case rel => exact ⟨by rw [HT.out], ⟨M1.out.drewN _⟩⟩
  case rest =>
    obtain ⟨rfl, M2⟩ := hcut
    clear M1
    have cM := blk_cell (M2.out.blk_at 0 rfl)
    have cG := blk_cell (M2.out.blk_at 1 rfl)
    unfold qc at cG
    obtain ⟨aE', eA, hE0, hE1⟩ := at_Entry (Kd.C_below HL.out M2.out.below) 0 (by omega) (by decide)
    cases eA
    rw [show rd_Entry m.f7 0 = en by rw [HF.out]; rfl] at hE0 hE1
    have hE0 : wc.cell? aE = some (.int .i64 en.f0) := by simpa [Addr.add] using hE0
    have fG := blk_frozen (M2.out.blk_at 1 rfl)
    have hg := blk_lt (M2.out.blk_at 1 rfl)
    generalize lastTime r.f5 = lt at *
    go_wp2_with fail
    go_upto_region 11 with (fail)
    go_cut [108] (fun s108 wx => s108 = .bool true ∧ Aside0 (Mem w0 wx (blk w.heap.size 27 #[.int .i64 m.f0, .int .i64 m.f1, .int .i64 m.f2, .int .i64 m.f3, .int .i64 m.f4, .int .i64 m.f5, .int .i64 m.f6, .slice (some aE) 1 c] :: blk g 25 (qc r.f0 r.f1 r.f2 r.f3 r.f4 (.slice B5 r.f5.length d5) r.f6 v7 v8 v9 v10 r.f11 r.f12) :: row kE 68 (.slice B5 r.f5.length d5) r.f5 :: row (Kd.int .i64) 3 v7 r.f7 :: row (Kd.int .i64) 3 v8 r.f8 :: row (Kd.int .i64) 3 v9 r.f9 :: row kE 68 v10 r.f10 :: F)))
    case first =>
      go_quiet (fail)
      go_wp2_with fail
      go_meet
      case rel => exact ⟨rfl, ⟨M2.out.drewN _⟩⟩
    case rest =>
    obtain ⟨rfl, M3⟩ := hcut
    clear M2 cM cG fG hg hE0 hE1 ew ew' e5 e8 e9
    have cM := blk_cell (M3.out.blk_at 0 rfl)
    have cG := blk_cell (M3.out.blk_at 1 rfl)
    unfold qc at cG
    have hg := blk_lt (M3.out.blk_at 1 rfl)
    obtain ⟨aE', eA, hE0, hE1⟩ := at_Entry (Kd.C_below HL.out M3.out.below) 0 (by decide) (by decide)
    cases eA
    rw [show rd_Entry m.f7 0 = en by rw [HF.out]; rfl] at hE0 hE1
    have hE0 : wc.cell? aE = some (.int .i64 en.f0) := by simpa [Addr.add] using hE0
    have cE1 : wc.cell? ⟨aE.block, aE.off + 1, none⟩ = some (.string en.f1) := by simpa [Addr.add] using hE1
    have hA := World.block_lt_of_cell? wc _ hE0
    have hA2 : ¬ aE.block = wc.heap.size := by clear e7; omega
    have hg2 : ¬ g = wc.heap.size := by clear e7; omega
    have hm := blk_lt (M3.out.blk_at 0 rfl)
    have hm2 : ¬ w.heap.size = wc.heap.size := by clear e7; omega
    clear hE1
    go_upto_region 12 with (fail)
    go_cut [] (fun wx => ∃ (A3 : Option Addr) (c3 : Nat), Aside0 (Mem w0 wx (blk w.heap.size 27 #[.int .i64 m.f0, .int .i64 m.f1, .int .i64 m.f2, .int .i64 m.f3, .int .i64 m.f4, .int .i64 m.f5, .int .i64 m.f6, .slice (some aE) 1 c] :: blk g 25 (qc r.f0 r.f1 r.f2 r.f3 r.f4 (.slice A3 l3.length c3) r.f6 v7 v8 v9 v10 r.f11 r.f12) :: row kE 68 (.slice A3 l3.length c3) l3 :: row (Kd.int .i64) 3 v7 r.f7 :: row (Kd.int .i64) 3 v8 r.f8 :: row (Kd.int .i64) 3 v9 r.f9 :: row kE 68 v10 r.f10 :: F)))
    case first =>
      have M5 := Aside0.mk (M3.out.drew.allocAt #[.int .i64 en.f0, .string en.f1] 68 wc.heap.size rfl)
      go_region_law (refine Mem.app_step kE (Rr := fun x c => x = en ∧ c = [.int .i64 en.f0, .string en.f1]) M5.out 3 _ r.f5 [en] (by rfl) (.tmp 113) (.tmp 118) 22 68 _ _ rfl Tryz.underlying22 infoEntry rfl (by decide) (by omega) (some ⟨wc.heap.size, 0, none⟩) 1 1 (by simp [Act.eval, Act.put]) (by simp [Act.eval, Act.put]) rfl (reads_one en (M5.out.blk_at 0 rfl) rfl) (fun x c h => by obtain ⟨rfl, rfl⟩ := h; exact kE_mkM _ _ _ x) (by have := HN.out; omega) ?_; intro v1 w3 hM; rw [HL3.out] at hM; have M7 := Aside0.mk hM; clear hM; obtain ⟨A3, c3, he, hc3, _⟩ := M7.out.row_at 3 rfl; subst he; have cG3 := blk_cell (M7.out.blk_at 2 rfl); have fG3 := blk_frozen (M7.out.blk_at 2 rfl); have gG3 := blk_lt (M7.out.blk_at 2 rfl); unfold qc at cG3; clear hc3)
      all_goals
        go_wp2_with fail
        all_goals
          go_meet
          case rel => exact ⟨_, _, ⟨Mem.sel (ps := [_, _, _, _, _, _, _, _]) (F := F) [1, 2, 3, 4, 5, 6, 7] 8 (M7.out.set 2 rfl 5 _) rfl rfl⟩⟩
    case rest =>
      obtain ⟨A3, c3, M6⟩ := hcut
      clear M3 cM cG hg hE0 cE1 hA hA2 hg2 hm hm2
      have cM := blk_cell (M6.out.blk_at 0 rfl)
      have cG := blk_cell (M6.out.blk_at 1 rfl)
      have fG := blk_frozen (M6.out.blk_at 1 rfl)
      have hg := blk_lt (M6.out.blk_at 1 rfl)
      unfold qc at cG
      go_upto_region 13 with (fail)
      go_cut [] (fun wy => ∃ y : Int, Aside0 (y = max r.f6 (min m.f5 (l3.length : Int))) ∧ Aside0 (Mem w0 wy (blk w.heap.size 27 #[.int .i64 m.f0, .int .i64 m.f1, .int .i64 m.f2, .int .i64 m.f3, .int .i64 m.f4, .int .i64 m.f5, .int .i64 m.f6, .slice (some aE) 1 c] :: blk g 25 (qc r.f0 r.f1 r.f2 r.f3 r.f4 (.slice A3 l3.length c3) y v7 v8 v9 v10 r.f11 r.f12) :: row kE 68 (.slice A3 l3.length c3) l3 :: row (Kd.int .i64) 3 v7 r.f7 :: row (Kd.int .i64) 3 v8 r.f8 :: row (Kd.int .i64) 3 v9 r.f9 :: row kE 68 v10 r.f10 :: F)))
      case first =>
        go_region
        all_goals
          go_wp2_with fail
          all_goals
            go_meet
            case rel => exact ⟨_, ⟨by have := HCL.out; have := HN3.out; first | omega | (split <;> omega) | (split <;> split <;> omega)⟩, ⟨(M6.out.set 1 rfl 6 _).drew⟩⟩
      case rest =>
        obtain ⟨y, HY, M4⟩ := hcut
        clear M6 cM cG fG hg
        have cM := blk_cell (M4.out.blk_at 0 rfl)
        have cG := blk_cell (M4.out.blk_at 1 rfl)
        unfold qc at cG
        go_wp2_with fail
        go_upto_region 20 with (fail)
        have HM0 := Aside0.mk cM
        have HG0 := Aside0.mk (blk_cell (M4.out.blk_at 1 rfl))
        have M2D := Aside0.mk M4.out.drew
        have HS0 := Aside0.mk (show (∀ j : Nat, wc.drew.cell? ⟨w.heap.size, j, none⟩ = wc.cell? ⟨w.heap.size, j, none⟩) ∧ (∀ j : Nat, wc.drew.cell? ⟨g, j, none⟩ = wc.cell? ⟨g, j, none⟩) from ⟨fun _ => rfl, fun _ => rfl⟩)
        have H9 := HS0
        go_region_held3 (fun w' => (∀ j : Nat, w'.cell? ⟨w.heap.size, j, none⟩ = wc.cell? ⟨w.heap.size, j, none⟩) ∧ (∀ j : Nat, w'.cell? ⟨g, j, none⟩ = wc.cell? ⟨g, j, none⟩)) (first | with_reducible exact HS0.out | with_reducible exact H9.out | fail) ((go_at_call 72; refine (one11_calls w0 _ emp _ g r.f0 r.f1 r.f2 r.f3 r.f4 _ y v7 v8 v9 v10 r.f11 r.f12 m.f1 2 0 0 0 (l3.length : Int) 0 0 none 0 [] (Mem.sel (ps := [_, _, _, _, _, _, _, _]) (F := F) [0, 2, 1, 3, 4, 5, 6, 7] 8 (Mem.cons_emp M2D.out) rfl rfl) (Rd.old (C_zero _)) (by decide) (by decide)).mono ?_; rintro e w1 ⟨vo, rfl, hM⟩; obtain ⟨Bo, co, rfl, _, _⟩ := hM.row_at 0 rfl; have M5 := Aside0.mk (Mem.sel (ps := [_, _, _, _, _, _, _, _, _]) (F := F) [0, 2, 3, 4, 5, 6, 7, 8] 9 hM rfl rfl); clear hM; have H9 := Aside0.mk (show (∀ j : Nat, w1.cell? ⟨w.heap.size, j, none⟩ = wc.cell? ⟨w.heap.size, j, none⟩) ∧ (∀ j : Nat, w1.cell? ⟨g, j, none⟩ = wc.cell? ⟨g, j, none⟩) from ⟨fun j => (blk_cell (M5.out.blk_at 2 rfl) j).trans (HM0.out j).symm, fun j => (blk_cell (M5.out.blk_at 1 rfl) j).trans (HG0.out j).symm⟩)))
        go_wp2
        go_ret
        have hy := HY.out
        have hs := HSS.out
        have hl3 := HL3.out
        subst hl3
        subst hs
        subst hy
        exact ⟨_, _, _, _, _, _, rfl, Mem.sel (ps := [_, _, _, _, _, _, _, _]) (F := F) [1, 3, 4, 5, 6, 7, 0] 8 M5.out rfl rfl⟩
end Go.Proofs.YtggbjokhniigkaaGreat.Ph
namespace Go.Proofs.YtggbjokhniigkaaGreat.Uc1
open Ty Go.RowKit YtggbjokhniigkaaGreatW.PrintWords YtggbjokhniigkaaGreatW.PrintLast YtggbjokhniigkaaGreatW.PrintMore Mx Kx Wa Wd Vc Wj Tk Tb Tn Tz Ua Un Ub1 Tc Td Tp Pf Ph
theorem few_of {r s : Rep} {msgs : List Msg} (hs : r.f5.length ≤ 1200 ∧ r.f7.length ≤ 20 ∧ r.f8.length ≤ 20 ∧ r.f9.length ≤ 20 ∧ r.f10.length ≤ 1200) (h5 : s.f5.length ≤ r.f5.length) (h7 : s.f7.length ≤ r.f7.length) (h8 : s.f8.length ≤ r.f8.length) (h9 : s.f9.length ≤ r.f9.length) (h10 : s.f10.length ≤ r.f10.length) (h : msgs.length ≤ 1000000000 ∧ ∀ i, (rd_Msg msgs i).f7.length ≤ 1000000000) : FewOf s msgs :=
  ⟨⟨by omega, by omega, by omega, by omega, by omega, by omega⟩, h⟩
theorem few_acc {r : Rep} {l : List Entry} {k : Int} {msgs : List Msg} (hs : r.f5.length ≤ 1200 ∧ r.f7.length ≤ 20 ∧ r.f8.length ≤ 20 ∧ r.f9.length ≤ 20 ∧ r.f10.length ≤ 1200) (hl : l.length = 1) (h : msgs.length ≤ 1000000000 ∧ ∀ i, (rd_Msg msgs i).f7.length ≤ 1000000000) : FewOf (raise { r with f5 := r.f5 ++ l } k) msgs := by
  have e : (r.f5 ++ l).length = r.f5.length + 1 := by rw [List.length_append, hl]
  refine ⟨⟨?_, ?_, ?_, ?_, ?_, ?_⟩, h⟩
  · show (r.f5 ++ l).length ≤ _
    omega
  · show (r.f5 ++ l).length ≤ _
    omega
  · show r.f7.length ≤ _
    omega
  · show r.f8.length ≤ _
    omega
  · show r.f9.length ≤ _
    omega
  · show r.f10.length ≤ _
    omega
theorem good_1 (r : Rep) (m : Msg) (A5 A7 A8 A9 A10 A : Option Addr) (c5 c7 c8 c9 c10 c : Nat) (hk : m.f0 = 1) (hc : Fit r c5 c7 c8 c9 c10) (hs : r.f5.length ≤ 1200 ∧ r.f7.length ≤ 20 ∧ r.f8.length ≤ 20 ∧ r.f9.length ≤ 20 ∧ r.f10.length ≤ 1200) (hln : m.f7.length ≤ 1200) (hlc : m.f7.length ≤ c) : TakesAs r m A5 A7 A8 A9 A10 A c5 c7 c8 c9 c10 c := by
  refine both_1 r m A5 A7 A8 A9 A10 A c5 c7 c8 c9 c10 c hk hc hs hln hlc fun h1 h2 => ?_
  have n := nums (by omega) (by omega) h1 h2
  have n0 : 0 < r.f1 := by have := n.i0; have := n.i1; omega
  have P := (may_iff r).1 h1
  have Q := may_P (by omega) (by omega) h2
  have hf1 : m.f7.length = 1 := Q.2.2.2.2.2.2.2.2.2.2.2 hk
  obtain ⟨en, hf⟩ := List.length_eq_one_iff.1 hf1
  have hlr : log r.f5 = true := P.2.2.2.2.2.2.2.2.2.1
  have hlm : log m.f7 = true := Q.2.2.2.2.2.2.2.2.2.2.1
  have hen : en.f0 < maxTime ∧ en.f1.size ≤ 20000 := by
    rw [hf] at hlm
    unfold log rises rises at hlm
    simp only [Bool.and_eq_true, decide_eq_true_eq] at hlm
    exact ⟨hlm.1.1.1.2, hlm.1.1.2⟩
  have hsn := Pe.log_snoc r.f5 en hlr hen.1 hen.2
  rw [← hf] at hsn
  clear P Q hlm
  by_cases a1 : m.f3 < r.f2
  · exact ⟨r, [], few_same hs, fun w0 w F g v5 v7 v8 v9 v10 hM hl => prep_n1 w0 w F g r m v5 v7 v8 v9 v10 A c hM n.v0 n.v1 n0 n.n5 a1, fun w0 w F g v5 v7 v8 v9 v10 hM hl => prep11_n1 w0 w F g r m v5 v7 v8 v9 v10 A c hM n.v0 n.v1 n0 n.n5 a1⟩
  by_cases a2 : m.f3 % r.f1 = m.f1
  case neg => exact ⟨r, [], few_same hs, fun w0 w F g v5 v7 v8 v9 v10 hM hl => prep_n2 w0 w F g r m v5 v7 v8 v9 v10 A c hM n.v0 n.v1 n0 n.n5 a1 a2, fun w0 w F g v5 v7 v8 v9 v10 hM hl => prep11_n2 w0 w F g r m v5 v7 v8 v9 v10 A c hM n.v0 n.v1 n0 n.n5 a1 a2⟩
  by_cases a3 : r.f2 < m.f3
  · exact ⟨{ clear r with f2 := m.f3, f4 := 2 }, _, few_of hs (Nat.le_refl _) (Nat.le_refl _) (Nat.zero_le _) (Nat.zero_le _) (Nat.zero_le _) (msgs_one (Nat.zero_le _)), fun w0 w F g v5 v7 v8 v9 v10 hM hl => prep_a1 w0 w F g r m v5 v7 v8 v9 v10 A c hM n.v0 n.v1 n0 n.n5 a1 a2 a3 _ rfl, fun w0 w F g v5 v7 v8 v9 v10 hM hl => prep11_a1 w0 w F g r m v5 v7 v8 v9 v10 A c hM n.v0 n.v1 n0 n.n5 a1 a2 a3 _ rfl⟩
  by_cases a4 : r.f4 = 0
  case neg => exact ⟨{ clear r with f2 := m.f3, f4 := 2 }, _, few_of hs (Nat.le_refl _) (Nat.le_refl _) (Nat.zero_le _) (Nat.zero_le _) (Nat.zero_le _) (msgs_one (Nat.zero_le _)), fun w0 w F g v5 v7 v8 v9 v10 hM hl => prep_a2 w0 w F g r m v5 v7 v8 v9 v10 A c hM n.v0 n.v1 n0 n.n5 a1 a2 a3 a4 _ rfl, fun w0 w F g v5 v7 v8 v9 v10 hM hl => prep11_a2 w0 w F g r m v5 v7 v8 v9 v10 A c hM n.v0 n.v1 n0 n.n5 a1 a2 a3 a4 _ rfl⟩
  by_cases a5 : m.f4 ≤ (r.f5.length : Int)
  · exact ⟨raise r m.f5, _, few_of hs (Nat.le_refl _) (Nat.le_refl _) (Nat.le_refl _) (Nat.le_refl _) (Nat.le_refl _) (msgs_one (Nat.zero_le _)), fun w0 w F g v5 v7 v8 v9 v10 hM hl => prep_low w0 w F g r m v5 v7 v8 v9 v10 A c hM hl hf1 hs.1 n.v0 n.v1 n0 n.n5 hk a1 a2 a3 a4 a5 _ rfl, fun w0 w F g v5 v7 v8 v9 v10 hM hl => by
    obtain ⟨aE, eA, _⟩ := hl.2.2 (by omega)
    subst eA
    exact prep11_low w0 w F g r m v5 v7 v8 v9 v10 aE c hM hl en hf hs.1 n.c1 n.v0 n.v1 n0 n.n5 hk a1 a2 a3 a4 a5 _ rfl⟩
  by_cases a6 : m.f4 = (r.f5.length : Int) + 1
  case neg =>
    have a7 : (r.f5.length : Int) + 1 < m.f4 := by omega
    exact ⟨raise r m.f5, _, few_of hs (Nat.le_refl _) (Nat.le_refl _) (Nat.le_refl _) (Nat.le_refl _) (Nat.le_refl _) (msgs_one (Nat.zero_le _)), fun w0 w F g v5 v7 v8 v9 v10 hM hl => prep_high w0 w F g r m v5 v7 v8 v9 v10 A c hM hl hf1 hs.1 n.v0 n.v1 n0 n.n5 hk a1 a2 a3 a4 a7 _ rfl, fun w0 w F g v5 v7 v8 v9 v10 hM hl => by
    obtain ⟨aE, eA, _⟩ := hl.2.2 (by omega)
    subst eA
    exact prep11_high w0 w F g r m v5 v7 v8 v9 v10 aE c hM hl en hf hs.1 n.c1 n.v0 n.v1 n0 n.n5 hk a1 a2 a3 a4 a7 _ rfl⟩
  by_cases b1 : lastTime r.f5 < en.f0
  case neg =>
    have hb : log (r.f5 ++ m.f7) = false := by rw [hsn, decide_eq_false b1]; rfl
    exact ⟨raise r m.f5, _, few_of hs (Nat.le_refl _) (Nat.le_refl _) (Nat.le_refl _) (Nat.le_refl _) (Nat.le_refl _) (msgs_one (Nat.zero_le _)), fun w0 w F g v5 v7 v8 v9 v10 hM hl => prep_rej w0 w F g r m v5 v7 v8 v9 v10 A c hM hl hf1 hs.1 n.v0 n.v1 n0 n.n5 hk a1 a2 a3 a4 a6 hb _ rfl, fun w0 w F g v5 v7 v8 v9 v10 hM hl => by
    obtain ⟨aE, eA, _⟩ := hl.2.2 (by omega)
    subst eA
    exact prep11_rej1 w0 w F g r m v5 v7 v8 v9 v10 aE c hM hl en hf hs.1 n.c1 n.v0 n.v1 n0 n.n5 hk a1 a2 a3 a4 a6 b1 _ rfl⟩
  by_cases b2 : r.f5.length < 1000
  case neg =>
    have hb : log (r.f5 ++ m.f7) = false := by rw [hsn, decide_eq_false b2, Bool.and_false]
    exact ⟨raise r m.f5, _, few_of hs (Nat.le_refl _) (Nat.le_refl _) (Nat.le_refl _) (Nat.le_refl _) (Nat.le_refl _) (msgs_one (Nat.zero_le _)), fun w0 w F g v5 v7 v8 v9 v10 hM hl => prep_rej w0 w F g r m v5 v7 v8 v9 v10 A c hM hl hf1 hs.1 n.v0 n.v1 n0 n.n5 hk a1 a2 a3 a4 a6 hb _ rfl, fun w0 w F g v5 v7 v8 v9 v10 hM hl => by
    obtain ⟨aE, eA, _⟩ := hl.2.2 (by omega)
    subst eA
    exact prep11_rej2 w0 w F g r m v5 v7 v8 v9 v10 aE c hM hl en hf hs.1 n.c1 n.v0 n.v1 n0 n.n5 hk a1 a2 a3 a4 a6 b1 b2 _ rfl⟩
  have hb : log (r.f5 ++ m.f7) = true := by rw [hsn, decide_eq_true b1, decide_eq_true b2]; rfl
  exact ⟨raise { r with f5 := r.f5 ++ m.f7 } m.f5, _, few_acc hs hf1 (msgs_one (Nat.zero_le _)), fun w0 w F g v5 v7 v8 v9 v10 hM hl => prep_acc w0 w F g r m v5 v7 v8 v9 v10 A c hM hl hf1 hs.1 n.v0 n.v1 n0 n.n5 hk a1 a2 a3 a4 a6 hb _ rfl, fun w0 w F g v5 v7 v8 v9 v10 hM hl => by
    obtain ⟨aE, eA, _⟩ := hl.2.2 (by omega)
    subst eA
    exact prep11_acc w0 w F g r m v5 v7 v8 v9 v10 aE c hM hl en hf hs.1 n.c1 n.v0 n.v1 n0 n.n5 hk a1 a2 a3 a4 a6 b1 b2 _ (by rw [hf])⟩
end Go.Proofs.YtggbjokhniigkaaGreat.Uc1
namespace Go.Proofs.YtggbjokhniigkaaGreat.Tt2
open Ty Go.RowKit YtggbjokhniigkaaGreatW.PrintWords YtggbjokhniigkaaGreatW.PrintLast YtggbjokhniigkaaGreatW.PrintMore Mx Kx Wa Wb Ta Tb
theorem takes_2 (w0 w : World) (F : List Res) (g : Nat) (r s : Rep) (m : Msg) (v5 v7 v8 v9 v10 vout : Value) (out : List Msg) (A : Option Addr) (c : Nat) (hk : m.f0 = 2) (hm : mayM r m = true)
    (hM : Mem w0 w (blk g 95 (Wa.wc r.f0 r.f1 r.f2 r.f3 r.f4 v5 r.f6 v7 v8 v9 v10 r.f11 r.f12 vout) :: row kM 27 vout [] :: Kx.sL r v5 v7 v8 v9 v10 F)) (hl : Kd.C kE w0 A m.f7.length m.f7) (hn : m.f7.length ≤ 1000000000)
    (hcall : ∀ (F : List Res) (w : World), Mem w0 w (blk g 95 (Wa.wc r.f0 r.f1 r.f2 r.f3 r.f4 v5 r.f6 v7 v8 v9 v10 r.f11 r.f12 vout) :: row kM 27 vout [] :: Kx.sL r v5 v7 v8 v9 v10 F) → Calls Tryz.prog 104 #[.pointer (some ⟨g, 0, none⟩), .agg #[.int .i64 m.f0, .int .i64 m.f1, .int .i64 m.f2, .int .i64 m.f3, .int .i64 m.f4, .int .i64 m.f5, .int .i64 m.f6, .slice A m.f7.length c]] w fun e w' => e = .returned (.tuple #[]) ∧ ∃ v5' v7' v8' v9' v10' vout' : Value, Mem w0 w' (blk g 95 (Wa.wc s.f0 s.f1 s.f2 s.f3 s.f4 v5' s.f6 v7' v8' v9' v10' s.f11 s.f12 vout') :: row kM 27 vout' out :: Kx.sL s v5' v7' v8' v9' v10' F)) :
    Calls Tryz.prog 65 #[.pointer (some ⟨g, 0, none⟩), .agg #[.int .i64 m.f0, .int .i64 m.f1, .int .i64 m.f2, .int .i64 m.f3, .int .i64 m.f4, .int .i64 m.f5, .int .i64 m.f6, .slice A m.f7.length c]] w fun e w' => e = .returned (.bool true) ∧ ∃ v5' v7' v8' v9' v10' vout' : Value, Mem w0 w' (blk g 95 (Wa.wc s.f0 s.f1 s.f2 s.f3 s.f4 v5' s.f6 v7' v8' v9' v10' s.f11 s.f12 vout') :: row kM 27 vout' out :: Kx.sL s v5' v7' v8' v9' v10' F) := by
  have hmf : ∀ (fn : Fn) (first cap : Array Value) (w : World), (Instr.makeFunc fn first cap).run Tryz.prog w = .ok (.func fn first cap) w := fun _ _ _ _ => rfl
  have HMF := Aside0.mk hmf
  obtain ⟨B5, d5, rfl, _, _⟩ := hM.row_at 2 rfl
  obtain ⟨B7, d7, rfl, _, _⟩ := hM.row_at 3 rfl
  obtain ⟨B8, d8, rfl, _, _⟩ := hM.row_at 4 rfl
  obtain ⟨B9, d9, rfl, _, _⟩ := hM.row_at 5 rfl
  obtain ⟨B10, d10, rfl, _, _⟩ := hM.row_at 6 rfl
  have HL := Aside0.mk hl
  have HN := Aside0.mk hn
  have CALL := Aside0.mk hcall
  have HMB := Aside0.mk hm
  have HMC : Aside0 (∀ w', Kd.C kE w' A m.f7.length m.f7 → Calls Tryz.prog 110 #[.agg #[.int .i64 r.f0, .int .i64 r.f1, .int .i64 r.f2, .int .i64 r.f3, .int .i64 r.f4, .slice B5 r.f5.length d5, .int .i64 r.f6, .slice B7 r.f7.length d7, .slice B8 r.f8.length d8, .slice B9 r.f9.length d9, .slice B10 r.f10.length d10, .int .i64 r.f11, .int .i64 r.f12], .agg #[.int .i64 2, .int .i64 m.f1, .int .i64 m.f2, .int .i64 m.f3, .int .i64 m.f4, .int .i64 m.f5, .int .i64 m.f6, .slice A m.f7.length c]] w' fun e w'' => e = .returned (.bool true) ∧ Mem w' w'' []) :=
    ⟨fun w' h => by have := mayM_calls r m B5 B7 B8 B9 B10 A d5 d7 d8 d9 d10 c w' h hn; (try unfold Kx.mA at this); rw [hm, hk] at this; exact this⟩
  rw [hk] at hcall CALL ⊢
  have M1 := Aside0.mk (((hM.alloc #[.int .i64 2, .int .i64 m.f1, .int .i64 m.f2, .int .i64 m.f3, .int .i64 m.f4, .int .i64 m.f5, .int .i64 m.f6, .slice A m.f7.length c] 27).allocAt #[.bool false] 4 (w.heap.size + 1) (by simp)).allocAt #[.nilFunc, .func (Fn.func 103) #[.pointer (some ⟨g, 0, none⟩)] #[], .func (Fn.func 104) #[.pointer (some ⟨g, 0, none⟩)] #[], .func (Fn.func 103) #[.pointer (some ⟨g, 0, none⟩)] #[], .func (Fn.func 105) #[.pointer (some ⟨g, 0, none⟩)] #[], .func (Fn.func 106) #[.pointer (some ⟨g, 0, none⟩)] #[], .func (Fn.func 107) #[.pointer (some ⟨g, 0, none⟩)] #[], .func (Fn.func 108) #[.pointer (some ⟨g, 0, none⟩)] #[], .func (Fn.func 109) #[.pointer (some ⟨g, 0, none⟩)] #[]] 122 (w.heap.size + 2) (by simp))
  clear hl hn hM hcall hm hk
  have cM := blk_cell (M1.out.blk_at 2 rfl)
  have cB := blk_cell (M1.out.blk_at 1 rfl)
  have cF := blk_cell (M1.out.blk_at 0 rfl)
  have cG := blk_cell (M1.out.blk_at 3 rfl)
  unfold Wa.wc at cG
  go_enter_defers Tryz.func65, Tryz.ntmps65
  go_wp2_with fail
  go_upto_region 3 with (fail)
  clear cM cB cF cG
  obtain ⟨wc, hwc⟩ : ∃ wc : World, ((w.alloc (Obj.cells #[.int .i64 2, .int .i64 m.f1, .int .i64 m.f2, .int .i64 m.f3, .int .i64 m.f4, .int .i64 m.f5, .int .i64 m.f6, .slice A m.f7.length c] 27)).alloc (Obj.cells #[.bool false] 4)).alloc (Obj.cells #[.nilFunc, .func (Fn.func 103) #[.pointer (some ⟨g, 0, none⟩)] #[], .func (Fn.func 104) #[.pointer (some ⟨g, 0, none⟩)] #[], .func (Fn.func 103) #[.pointer (some ⟨g, 0, none⟩)] #[], .func (Fn.func 105) #[.pointer (some ⟨g, 0, none⟩)] #[], .func (Fn.func 106) #[.pointer (some ⟨g, 0, none⟩)] #[], .func (Fn.func 107) #[.pointer (some ⟨g, 0, none⟩)] #[], .func (Fn.func 108) #[.pointer (some ⟨g, 0, none⟩)] #[], .func (Fn.func 109) #[.pointer (some ⟨g, 0, none⟩)] #[]] 122) = wc := ⟨_, rfl⟩
  rw [hwc] at M1 ⊢
  clear hwc
  have cM := blk_cell (M1.out.blk_at 2 rfl)
  have cG0 := blk_cell (M1.out.blk_at 3 rfl)
  have HG0 := Aside0.mk cG0
  have HM0 := Aside0.mk cM
  have cG := cG0
  unfold Wa.wc at cG
  clear cG0
  have M1D := Aside0.mk M1.out.drew
  have HS0 := Aside0.mk (show (∀ j : Nat, wc.drew.cell? ⟨w.heap.size, j, none⟩ = wc.cell? ⟨w.heap.size, j, none⟩) ∧ (∀ j : Nat, wc.drew.cell? ⟨g, j, none⟩ = wc.cell? ⟨g, j, none⟩) from ⟨fun _ => rfl, fun _ => rfl⟩)
  have H9 := HS0
  go_region_held3 (fun w' => (∀ j : Nat, w'.cell? ⟨w.heap.size, j, none⟩ = wc.cell? ⟨w.heap.size, j, none⟩) ∧ (∀ j : Nat, w'.cell? ⟨g, j, none⟩ = wc.cell? ⟨g, j, none⟩)) (first | with_reducible exact HS0.out | with_reducible exact H9.out | fail) ((go_at_call 110; refine (HMC.out _ (Kd.C_below HL.out M1D.out.below)).mono ?_; rintro e w1 ⟨rfl, hM⟩; have M2 := Aside0.mk (M1D.out.trans hM); clear hM; have H9 := Aside0.mk (show (∀ j : Nat, w1.cell? ⟨w.heap.size, j, none⟩ = wc.cell? ⟨w.heap.size, j, none⟩) ∧ (∀ j : Nat, w1.cell? ⟨g, j, none⟩ = wc.cell? ⟨g, j, none⟩) from ⟨fun j => (blk_cell (M2.out.blk_at 2 rfl) j).trans (HM0.out j).symm, fun j => (blk_cell (M2.out.blk_at 3 rfl) j).trans (HG0.out j).symm⟩)))
  clear H9 HS0 HM0 HG0 M1D
  have HF0 := Aside0.mk (blk_cell (M2.out.blk_at 0 rfl))
  have HM0 := Aside0.mk (blk_cell (M2.out.blk_at 2 rfl))
  have cM := HM0.out
  have cF := HF0.out
  go_wp2_with fail
  go_upto_region 5 with (fail)
  have M2D := Aside0.mk M2.out.drew
  have HS0 := Aside0.mk (show (∀ j : Nat, w1.drew.cell? ⟨w.heap.size, j, none⟩ = w1.cell? ⟨w.heap.size, j, none⟩) ∧ (∀ j : Nat, w1.drew.cell? ⟨w.heap.size + 1 + 1, j, none⟩ = w1.cell? ⟨w.heap.size + 1 + 1, j, none⟩) from ⟨fun _ => rfl, fun _ => rfl⟩)
  have H9 := HS0
  go_region_held3 (fun w' => (∀ j : Nat, w'.cell? ⟨w.heap.size, j, none⟩ = w1.cell? ⟨w.heap.size, j, none⟩) ∧ (∀ j : Nat, w'.cell? ⟨w.heap.size + 1 + 1, j, none⟩ = w1.cell? ⟨w.heap.size + 1 + 1, j, none⟩)) (first | with_reducible exact HS0.out | with_reducible exact H9.out | fail) ((go_at_call 104; refine (CALL.out (_ :: _ :: _ :: F) _ (Mem.sel (ps := [_, _, _, _, _, _, _, _, _, _]) (F := F) [3, 4, 5, 6, 7, 8, 9, 0, 1, 2] 10 M2D.out rfl rfl)).mono ?_; rintro e w2 ⟨rfl, v5', v7', v8', v9', v10', vout', hM⟩; have M3 := Aside0.mk (Mem.sel (ps := [_, _, _, _, _, _, _, _, _, _]) (F := F) [7, 8, 9, 0, 1, 2, 3, 4, 5, 6] 10 hM rfl rfl); clear hM; have H9 := Aside0.mk (show (∀ j : Nat, w2.cell? ⟨w.heap.size, j, none⟩ = w1.cell? ⟨w.heap.size, j, none⟩) ∧ (∀ j : Nat, w2.cell? ⟨w.heap.size + 1 + 1, j, none⟩ = w1.cell? ⟨w.heap.size + 1 + 1, j, none⟩) from ⟨fun j => (blk_cell (M3.out.blk_at 2 rfl) j).trans (HM0.out j).symm, fun j => (blk_cell (M3.out.blk_at 0 rfl) j).trans (HF0.out j).symm⟩)))
  clear H9 HS0 HM0 HF0 M2D
  have cB := blk_cell (M3.out.blk_at 1 rfl)
  have fB := blk_frozen (M3.out.blk_at 1 rfl)
  have hB := blk_lt (M3.out.blk_at 1 rfl)
  clear cM cF cG M1 M2
  go_wp2_with fail
  refine leaves_cons (f := 102) (args := #[.pointer (some ⟨w.heap.size + 1, 0, none⟩)]) (by simp) (by simp [go_sem]) ?_
  refine (catch_idle ⟨w.heap.size + 1, 0, none⟩ _).mono ?_
  rintro e u' w4 ⟨rfl, rfl, hM⟩
  have M4 := (M3.out.set 1 rfl 0 (.bool true)).trans hM
  have cE : w4.cell? ⟨w.heap.size + 1, 0, none⟩ = some (.bool true) := blk_cell (M4.blk_at 1 rfl) 0
  clear hM
  simp [Leaves, settle, results, Tryz.results65, go_sem, cE]
  exact ⟨_, _, _, _, _, _, Mem.sel (ps := [_, _, _, _, _, _, _, _, _, _]) (F := F) [3, 4, 5, 6, 7, 8, 9] 10 M4 rfl rfl⟩
end Go.Proofs.YtggbjokhniigkaaGreat.Tt2
