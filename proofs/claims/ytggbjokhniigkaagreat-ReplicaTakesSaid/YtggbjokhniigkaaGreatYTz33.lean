/- Texts laid together: Tw, Uc6, Tm. No condition. -/
import Derived.Deep.RegionHeld3
import Derived.Test.YtggbjokhniigkaaGreatYTz32
set_option linter.unusedVariables false
set_option linter.unusedSimpArgs false
set_option maxRecDepth 100000
set_option maxHeartbeats 8000000
namespace Go.Proofs.YtggbjokhniigkaaGreat.Tw
open Ty Go.RowKit YtggbjokhniigkaaGreatW.PrintWords YtggbjokhniigkaaGreatW.PrintLast YtggbjokhniigkaaGreatW.PrintMore Mx Kx Wa Tk Sa To Wd Wj
theorem view11_n1 (w0 w : World) (F : List Res) (g : Nat) (r : Rep) (m : Msg) (v5 v7 v8 v9 v10 : Value) (A : Option Addr) (c : Nat) (hM : Mem w0 w (blk g 25 (qc r.f0 r.f1 r.f2 r.f3 r.f4 v5 r.f6 v7 v8 v9 v10 r.f11 r.f12) :: Kx.sL r v5 v7 v8 v9 v10 F)) (hl : Kd.C kE w0 A m.f7.length m.f7) (hln : m.f7.length ≤ 1000000) (hv : 0 ≤ m.f3) (hv2 : m.f3 ≤ 4611686018427387904) (hi0 : 0 ≤ r.f0) (hi1 : r.f0 < r.f1) (hn5 : r.f1 ≤ 5) (h1 : m.f3 < r.f2) :
    Calls Tryz.prog 69 #[.pointer (some ⟨g, 0, none⟩), .agg (Kx.mA m A c)] w fun e w' => ∃ vout v5' v7' v8' v9' v10' : Value, e = .returned vout ∧ Mem w0 w' (blk g 25 (qc r.f0 r.f1 r.f2 r.f3 r.f4 v5' r.f6 v7' v8' v9' v10' r.f11 r.f12) :: row kE 68 v5' r.f5 :: row (Kd.int .i64) 3 v7' r.f7 :: row (Kd.int .i64) 3 v8' r.f8 :: row (Kd.int .i64) 3 v9' r.f9 :: row kE 68 v10' r.f10 :: row kM 27 vout [] :: F) := by
  obtain ⟨B5, d5, rfl, _, _⟩ := hM.row_at 1 rfl
  have e1 : decide (m.f3 < r.f2) = true := by simpa using h1
  clear h1
  have HL := Aside0.mk hl
  have HLN := Aside0.mk hln
  have HV := Aside0.mk (show 0 ≤ m.f3 ∧ m.f3 ≤ 4611686018427387904 from ⟨hv, hv2⟩)
  have HI := Aside0.mk (show 0 ≤ r.f0 ∧ r.f0 < r.f1 ∧ r.f1 ≤ 5 from ⟨hi0, hi1, hn5⟩)
  have M1 := Aside0.mk (hM.alloc (Kx.mA m A c) 27)
  clear hM hl hln hv hv2 hi0 hi1 hn5
  have cM := blk_cell (M1.out.blk_at 0 rfl)
  have cG := blk_cell (M1.out.blk_at 1 rfl)
  unfold qc at cG
  have z1 : (r.f1 == 0) = false := by have := HI.out; simp; omega
  have z2 : ¬ r.f1 = 0 := by have := HI.out; omega
  have z3 : m.f3.tmod r.f1 = m.f3 % r.f1 := Int.tmod_eq_emod_of_nonneg HV.out.1
  go_enter Tryz.func69, Tryz.ntmps69
  go_wp2_with fail
  go_quiet (fail)
  clear z1 z2 z3
  go_wp2
  go_ret
  exact ⟨_, _, _, _, _, _, rfl, Mem.sel (ps := [_, _, _, _, _, _, _, _]) (F := F) [2, 3, 4, 5, 6, 7, 0] 8 (Mem.row_nil (M1.out.drewN _) kM 27) rfl rfl⟩
theorem view11_n2 (w0 w : World) (F : List Res) (g : Nat) (r : Rep) (m : Msg) (v5 v7 v8 v9 v10 : Value) (A : Option Addr) (c : Nat) (hM : Mem w0 w (blk g 25 (qc r.f0 r.f1 r.f2 r.f3 r.f4 v5 r.f6 v7 v8 v9 v10 r.f11 r.f12) :: Kx.sL r v5 v7 v8 v9 v10 F)) (hl : Kd.C kE w0 A m.f7.length m.f7) (hln : m.f7.length ≤ 1000000) (hv : 0 ≤ m.f3) (hv2 : m.f3 ≤ 4611686018427387904) (hi0 : 0 ≤ r.f0) (hi1 : r.f0 < r.f1) (hn5 : r.f1 ≤ 5) (h1 : ¬ m.f3 < r.f2) (h2 : ¬ m.f3 % r.f1 = m.f1) :
    Calls Tryz.prog 69 #[.pointer (some ⟨g, 0, none⟩), .agg (Kx.mA m A c)] w fun e w' => ∃ vout v5' v7' v8' v9' v10' : Value, e = .returned vout ∧ Mem w0 w' (blk g 25 (qc r.f0 r.f1 r.f2 r.f3 r.f4 v5' r.f6 v7' v8' v9' v10' r.f11 r.f12) :: row kE 68 v5' r.f5 :: row (Kd.int .i64) 3 v7' r.f7 :: row (Kd.int .i64) 3 v8' r.f8 :: row (Kd.int .i64) 3 v9' r.f9 :: row kE 68 v10' r.f10 :: row kM 27 vout [] :: F) := by
  obtain ⟨B5, d5, rfl, _, _⟩ := hM.row_at 1 rfl
  have e1 : decide (m.f3 < r.f2) = false := by simpa using h1
  clear h1
  have e2 : (m.f3 % r.f1 == m.f1) = false := by simpa using h2
  have e2' : (m.f3 % r.f1 != m.f1) = true := by simpa using h2
  clear h2
  have HL := Aside0.mk hl
  have HLN := Aside0.mk hln
  have HV := Aside0.mk (show 0 ≤ m.f3 ∧ m.f3 ≤ 4611686018427387904 from ⟨hv, hv2⟩)
  have HI := Aside0.mk (show 0 ≤ r.f0 ∧ r.f0 < r.f1 ∧ r.f1 ≤ 5 from ⟨hi0, hi1, hn5⟩)
  have M1 := Aside0.mk (hM.alloc (Kx.mA m A c) 27)
  clear hM hl hln hv hv2 hi0 hi1 hn5
  have cM := blk_cell (M1.out.blk_at 0 rfl)
  have cG := blk_cell (M1.out.blk_at 1 rfl)
  unfold qc at cG
  have z1 : (r.f1 == 0) = false := by have := HI.out; simp; omega
  have z2 : ¬ r.f1 = 0 := by have := HI.out; omega
  have z3 : m.f3.tmod r.f1 = m.f3 % r.f1 := Int.tmod_eq_emod_of_nonneg HV.out.1
  go_enter Tryz.func69, Tryz.ntmps69
  go_wp2_with fail
  go_quiet (fail)
  clear z1 z2 z3
  go_wp2
  go_ret
  exact ⟨_, _, _, _, _, _, rfl, Mem.sel (ps := [_, _, _, _, _, _, _, _]) (F := F) [2, 3, 4, 5, 6, 7, 0] 8 (Mem.row_nil (M1.out.drewN _) kM 27) rfl rfl⟩
theorem view11_n3 (w0 w : World) (F : List Res) (g : Nat) (r : Rep) (m : Msg) (v5 v7 v8 v9 v10 : Value) (A : Option Addr) (c : Nat) (hM : Mem w0 w (blk g 25 (qc r.f0 r.f1 r.f2 r.f3 r.f4 v5 r.f6 v7 v8 v9 v10 r.f11 r.f12) :: Kx.sL r v5 v7 v8 v9 v10 F)) (hl : Kd.C kE w0 A m.f7.length m.f7) (hln : m.f7.length ≤ 1000000) (hv : 0 ≤ m.f3) (hv2 : m.f3 ≤ 4611686018427387904) (hi0 : 0 ≤ r.f0) (hi1 : r.f0 < r.f1) (hn5 : r.f1 ≤ 5) (h1 : ¬ m.f3 < r.f2) (h2 : m.f3 % r.f1 = m.f1) (h3 : m.f3 = r.f2) (h4 : r.f4 = 0) :
    Calls Tryz.prog 69 #[.pointer (some ⟨g, 0, none⟩), .agg (Kx.mA m A c)] w fun e w' => ∃ vout v5' v7' v8' v9' v10' : Value, e = .returned vout ∧ Mem w0 w' (blk g 25 (qc r.f0 r.f1 r.f2 r.f3 r.f4 v5' r.f6 v7' v8' v9' v10' r.f11 r.f12) :: row kE 68 v5' r.f5 :: row (Kd.int .i64) 3 v7' r.f7 :: row (Kd.int .i64) 3 v8' r.f8 :: row (Kd.int .i64) 3 v9' r.f9 :: row kE 68 v10' r.f10 :: row kM 27 vout [] :: F) := by
  obtain ⟨B5, d5, rfl, _, _⟩ := hM.row_at 1 rfl
  have e1 : decide (m.f3 < r.f2) = false := by simpa using h1
  clear h1
  have e2 : (m.f3 % r.f1 == m.f1) = true := by simpa using h2
  have e2' : (m.f3 % r.f1 != m.f1) = false := by simpa using h2
  clear h2
  have e3 : (m.f3 == r.f2) = true := by simpa using h3
  clear h3
  have e4 : (r.f4 == 0) = true := by simpa using h4
  clear h4
  have HL := Aside0.mk hl
  have HLN := Aside0.mk hln
  have HV := Aside0.mk (show 0 ≤ m.f3 ∧ m.f3 ≤ 4611686018427387904 from ⟨hv, hv2⟩)
  have HI := Aside0.mk (show 0 ≤ r.f0 ∧ r.f0 < r.f1 ∧ r.f1 ≤ 5 from ⟨hi0, hi1, hn5⟩)
  have M1 := Aside0.mk (hM.alloc (Kx.mA m A c) 27)
  clear hM hl hln hv hv2 hi0 hi1 hn5
  have cM := blk_cell (M1.out.blk_at 0 rfl)
  have cG := blk_cell (M1.out.blk_at 1 rfl)
  unfold qc at cG
  have z1 : (r.f1 == 0) = false := by have := HI.out; simp; omega
  have z2 : ¬ r.f1 = 0 := by have := HI.out; omega
  have z3 : m.f3.tmod r.f1 = m.f3 % r.f1 := Int.tmod_eq_emod_of_nonneg HV.out.1
  go_enter Tryz.func69, Tryz.ntmps69
  go_wp2_with fail
  go_quiet (fail)
  clear z1 z2 z3
  go_wp2
  go_ret
  exact ⟨_, _, _, _, _, _, rfl, Mem.sel (ps := [_, _, _, _, _, _, _, _]) (F := F) [2, 3, 4, 5, 6, 7, 0] 8 (Mem.row_nil (M1.out.drewN _) kM 27) rfl rfl⟩
theorem view11_y1 (w0 w : World) (F : List Res) (g : Nat) (r : Rep) (m : Msg) (v5 v7 v8 v9 v10 : Value) (A : Option Addr) (c : Nat) (hM : Mem w0 w (blk g 25 (qc r.f0 r.f1 r.f2 r.f3 r.f4 v5 r.f6 v7 v8 v9 v10 r.f11 r.f12) :: Kx.sL r v5 v7 v8 v9 v10 F)) (hl : Kd.C kE w0 A m.f7.length m.f7) (hln : m.f7.length ≤ 1000000) (hv : 0 ≤ m.f3) (hv2 : m.f3 ≤ 4611686018427387904) (hi0 : 0 ≤ r.f0) (hi1 : r.f0 < r.f1) (hn5 : r.f1 ≤ 5) (h1 : ¬ m.f3 < r.f2) (h2 : m.f3 % r.f1 = m.f1) (h3 : ¬ m.f3 = r.f2) (s : Rep) (hs : normal r m.f3 m.f7 m.f5 = s) :
    Calls Tryz.prog 69 #[.pointer (some ⟨g, 0, none⟩), .agg (Kx.mA m A c)] w fun e w' => ∃ vout v5' v7' v8' v9' v10' : Value, e = .returned vout ∧ Mem w0 w' (blk g 25 (qc s.f0 s.f1 s.f2 s.f3 s.f4 v5' s.f6 v7' v8' v9' v10' s.f11 s.f12) :: row kE 68 v5' s.f5 :: row (Kd.int .i64) 3 v7' s.f7 :: row (Kd.int .i64) 3 v8' s.f8 :: row (Kd.int .i64) 3 v9' s.f9 :: row kE 68 v10' s.f10 :: row kM 27 vout [toOne s m.f1 ⟨2, 0, 0, 0, (s.f5.length : Int), 0, 0, []⟩] :: F) := by
  obtain ⟨B5, d5, rfl, _, _⟩ := hM.row_at 1 rfl
  obtain ⟨cx, hcx⟩ : ∃ cx : Int, (if r.f1 = 1 then (m.f7.length : Int) else min (max r.f6 m.f5) (m.f7.length : Int)) = cx := ⟨_, rfl⟩
  have HCX := Aside0.mk hcx
  have HSS := Aside0.mk hs
  clear hcx hs
  have e1 : decide (m.f3 < r.f2) = false := by simpa using h1
  clear h1
  have e2 : (m.f3 % r.f1 == m.f1) = true := by simpa using h2
  have e2' : (m.f3 % r.f1 != m.f1) = false := by simpa using h2
  clear h2
  have e3 : (m.f3 == r.f2) = false := by simpa using h3
  clear h3
  have HL := Aside0.mk hl
  have HLN := Aside0.mk hln
  have HV := Aside0.mk (show 0 ≤ m.f3 ∧ m.f3 ≤ 4611686018427387904 from ⟨hv, hv2⟩)
  have HI := Aside0.mk (show 0 ≤ r.f0 ∧ r.f0 < r.f1 ∧ r.f1 ≤ 5 from ⟨hi0, hi1, hn5⟩)
  have M1 := Aside0.mk (hM.alloc (Kx.mA m A c) 27)
  clear hM hl hln hv hv2 hi0 hi1 hn5
  have cM := blk_cell (M1.out.blk_at 0 rfl)
  have cG := blk_cell (M1.out.blk_at 1 rfl)
  unfold qc at cG
  have z1 : (r.f1 == 0) = false := by have := HI.out; simp; omega
  have z2 : ¬ r.f1 = 0 := by have := HI.out; omega
  have z3 : m.f3.tmod r.f1 = m.f3 % r.f1 := Int.tmod_eq_emod_of_nonneg HV.out.1
  go_enter Tryz.func69, Tryz.ntmps69
  go_wp2_with fail
  go_quiet (fail)
  clear z1 z2 z3
  go_wp2_with fail
  refine (normal11_calls w0 _ _ g r.f0 r.f1 r.f2 r.f3 r.f4 _ r.f6 _ _ _ _ r.f11 r.f12 m.f3 m.f5 A c m.f7 (Mem.sel (ps := [_, _, _, _, _, _, _]) (F := F) [1, 0, 2, 3, 4, 5, 6] 7 (M1.out.drewN _) rfl rfl) (fun w' b hq => Kd.C_below HL.out hq.below) (Nat.le_trans HLN.out (by decide)) HI.out.1 HI.out.2.1 HI.out.2.2 cx HCX.out).mono ?_
  rintro e wc ⟨vl, va, rfl, hM⟩
  obtain ⟨L5, l5, rfl, hl5, _⟩ := hM.row_at 2 rfl
  have M2 := Aside0.mk (Mem.sel (ps := [_, _, _, _, _, _, _, _, _]) (F := F) [0, 3, 1, 2] 9 hM rfl rfl)
  clear hM M1 cM cG
  have HM0 := Aside0.mk (blk_cell (M2.out.blk_at 1 rfl))
  have HG0 := Aside0.mk (blk_cell (M2.out.blk_at 0 rfl))
  have cM := HM0.out
  have cG := HG0.out
  unfold qc at cG
  go_upto_region 4 with (fail)
  have M2D := Aside0.mk M2.out.drew
  have HS0 := Aside0.mk (show (∀ j : Nat, wc.drew.cell? ⟨w.heap.size, j, none⟩ = wc.cell? ⟨w.heap.size, j, none⟩) ∧ (∀ j : Nat, wc.drew.cell? ⟨g, j, none⟩ = wc.cell? ⟨g, j, none⟩) from ⟨fun _ => rfl, fun _ => rfl⟩)
  have H9 := HS0
  go_region_held3 (fun w' => (∀ j : Nat, w'.cell? ⟨w.heap.size, j, none⟩ = wc.cell? ⟨w.heap.size, j, none⟩) ∧ (∀ j : Nat, w'.cell? ⟨g, j, none⟩ = wc.cell? ⟨g, j, none⟩)) (first | with_reducible exact HS0.out | with_reducible exact H9.out | fail) ((go_at_call 72; refine (one11_calls w0 _ emp _ g r.f0 r.f1 m.f3 m.f3 0 _ cx va (.slice none 0 0) (.slice none 0 0) (.slice none 0 0) (-1) 0 m.f1 2 0 0 0 (m.f7.length : Int) 0 0 none 0 [] (Mem.sel (ps := [_, _, _, _, _]) (F := F) [0, 1, 2, 3, 4] 5 (Mem.cons_emp M2D.out) rfl rfl) (Rd.old (C_zero _)) (by decide) (by decide)).mono ?_; rintro e w1 ⟨vo, rfl, hM⟩; obtain ⟨Bo, co, rfl, _, _⟩ := hM.row_at 0 rfl; have M3 := Aside0.mk (Mem.sel (ps := [_, _, _, _, _, _]) (F := F) [0, 2, 3, 4, 5] 6 hM rfl rfl); clear hM; have H9 := Aside0.mk (show (∀ j : Nat, w1.cell? ⟨w.heap.size, j, none⟩ = wc.cell? ⟨w.heap.size, j, none⟩) ∧ (∀ j : Nat, w1.cell? ⟨g, j, none⟩ = wc.cell? ⟨g, j, none⟩) from ⟨fun j => (blk_cell (M3.out.blk_at 2 rfl) j).trans (HM0.out j).symm, fun j => (blk_cell (M3.out.blk_at 1 rfl) j).trans (HG0.out j).symm⟩)))
  go_wp2
  go_ret
  have hs := HSS.out
  have hcx := HCX.out
  subst hs
  subst hcx
  exact ⟨_, _, _, _, _, _, rfl, Mem.sel (ps := [_, _, _, _, _, _, _, _]) (F := F) [4, 7, 6, 1, 2, 0, 3] 8 (Mem.row_nil (Mem.row_nil (Mem.row_nil M3.out (Kd.int .i64) 3) (Kd.int .i64) 3) kE 68) rfl rfl⟩
theorem view11_y2 (w0 w : World) (F : List Res) (g : Nat) (r : Rep) (m : Msg) (v5 v7 v8 v9 v10 : Value) (A : Option Addr) (c : Nat) (hM : Mem w0 w (blk g 25 (qc r.f0 r.f1 r.f2 r.f3 r.f4 v5 r.f6 v7 v8 v9 v10 r.f11 r.f12) :: Kx.sL r v5 v7 v8 v9 v10 F)) (hl : Kd.C kE w0 A m.f7.length m.f7) (hln : m.f7.length ≤ 1000000) (hv : 0 ≤ m.f3) (hv2 : m.f3 ≤ 4611686018427387904) (hi0 : 0 ≤ r.f0) (hi1 : r.f0 < r.f1) (hn5 : r.f1 ≤ 5) (h1 : ¬ m.f3 < r.f2) (h2 : m.f3 % r.f1 = m.f1) (h3 : m.f3 = r.f2) (h4 : ¬ r.f4 = 0) (s : Rep) (hs : normal r m.f3 m.f7 m.f5 = s) :
    Calls Tryz.prog 69 #[.pointer (some ⟨g, 0, none⟩), .agg (Kx.mA m A c)] w fun e w' => ∃ vout v5' v7' v8' v9' v10' : Value, e = .returned vout ∧ Mem w0 w' (blk g 25 (qc s.f0 s.f1 s.f2 s.f3 s.f4 v5' s.f6 v7' v8' v9' v10' s.f11 s.f12) :: row kE 68 v5' s.f5 :: row (Kd.int .i64) 3 v7' s.f7 :: row (Kd.int .i64) 3 v8' s.f8 :: row (Kd.int .i64) 3 v9' s.f9 :: row kE 68 v10' s.f10 :: row kM 27 vout [toOne s m.f1 ⟨2, 0, 0, 0, (s.f5.length : Int), 0, 0, []⟩] :: F) := by
  obtain ⟨B5, d5, rfl, _, _⟩ := hM.row_at 1 rfl
  obtain ⟨cx, hcx⟩ : ∃ cx : Int, (if r.f1 = 1 then (m.f7.length : Int) else min (max r.f6 m.f5) (m.f7.length : Int)) = cx := ⟨_, rfl⟩
  have HCX := Aside0.mk hcx
  have HSS := Aside0.mk hs
  clear hcx hs
  have e1 : decide (m.f3 < r.f2) = false := by simpa using h1
  clear h1
  have e2 : (m.f3 % r.f1 == m.f1) = true := by simpa using h2
  have e2' : (m.f3 % r.f1 != m.f1) = false := by simpa using h2
  clear h2
  have e3 : (m.f3 == r.f2) = true := by simpa using h3
  clear h3
  have e4 : (r.f4 == 0) = false := by simpa using h4
  clear h4
  have HL := Aside0.mk hl
  have HLN := Aside0.mk hln
  have HV := Aside0.mk (show 0 ≤ m.f3 ∧ m.f3 ≤ 4611686018427387904 from ⟨hv, hv2⟩)
  have HI := Aside0.mk (show 0 ≤ r.f0 ∧ r.f0 < r.f1 ∧ r.f1 ≤ 5 from ⟨hi0, hi1, hn5⟩)
  have M1 := Aside0.mk (hM.alloc (Kx.mA m A c) 27)
  clear hM hl hln hv hv2 hi0 hi1 hn5
  have cM := blk_cell (M1.out.blk_at 0 rfl)
  have cG := blk_cell (M1.out.blk_at 1 rfl)
  unfold qc at cG
  have z1 : (r.f1 == 0) = false := by have := HI.out; simp; omega
  have z2 : ¬ r.f1 = 0 := by have := HI.out; omega
  have z3 : m.f3.tmod r.f1 = m.f3 % r.f1 := Int.tmod_eq_emod_of_nonneg HV.out.1
  go_enter Tryz.func69, Tryz.ntmps69
  go_wp2_with fail
  go_quiet (fail)
  clear z1 z2 z3
  go_wp2_with fail
  refine (normal11_calls w0 _ _ g r.f0 r.f1 r.f2 r.f3 r.f4 _ r.f6 _ _ _ _ r.f11 r.f12 m.f3 m.f5 A c m.f7 (Mem.sel (ps := [_, _, _, _, _, _, _]) (F := F) [1, 0, 2, 3, 4, 5, 6] 7 (M1.out.drewN _) rfl rfl) (fun w' b hq => Kd.C_below HL.out hq.below) (Nat.le_trans HLN.out (by decide)) HI.out.1 HI.out.2.1 HI.out.2.2 cx HCX.out).mono ?_
  rintro e wc ⟨vl, va, rfl, hM⟩
  obtain ⟨L5, l5, rfl, hl5, _⟩ := hM.row_at 2 rfl
  have M2 := Aside0.mk (Mem.sel (ps := [_, _, _, _, _, _, _, _, _]) (F := F) [0, 3, 1, 2] 9 hM rfl rfl)
  clear hM M1 cM cG
  have HM0 := Aside0.mk (blk_cell (M2.out.blk_at 1 rfl))
  have HG0 := Aside0.mk (blk_cell (M2.out.blk_at 0 rfl))
  have cM := HM0.out
  have cG := HG0.out
  unfold qc at cG
  go_upto_region 4 with (fail)
  have M2D := Aside0.mk M2.out.drew
  have HS0 := Aside0.mk (show (∀ j : Nat, wc.drew.cell? ⟨w.heap.size, j, none⟩ = wc.cell? ⟨w.heap.size, j, none⟩) ∧ (∀ j : Nat, wc.drew.cell? ⟨g, j, none⟩ = wc.cell? ⟨g, j, none⟩) from ⟨fun _ => rfl, fun _ => rfl⟩)
  have H9 := HS0
  go_region_held3 (fun w' => (∀ j : Nat, w'.cell? ⟨w.heap.size, j, none⟩ = wc.cell? ⟨w.heap.size, j, none⟩) ∧ (∀ j : Nat, w'.cell? ⟨g, j, none⟩ = wc.cell? ⟨g, j, none⟩)) (first | with_reducible exact HS0.out | with_reducible exact H9.out | fail) ((go_at_call 72; refine (one11_calls w0 _ emp _ g r.f0 r.f1 m.f3 m.f3 0 _ cx va (.slice none 0 0) (.slice none 0 0) (.slice none 0 0) (-1) 0 m.f1 2 0 0 0 (m.f7.length : Int) 0 0 none 0 [] (Mem.sel (ps := [_, _, _, _, _]) (F := F) [0, 1, 2, 3, 4] 5 (Mem.cons_emp M2D.out) rfl rfl) (Rd.old (C_zero _)) (by decide) (by decide)).mono ?_; rintro e w1 ⟨vo, rfl, hM⟩; obtain ⟨Bo, co, rfl, _, _⟩ := hM.row_at 0 rfl; have M3 := Aside0.mk (Mem.sel (ps := [_, _, _, _, _, _]) (F := F) [0, 2, 3, 4, 5] 6 hM rfl rfl); clear hM; have H9 := Aside0.mk (show (∀ j : Nat, w1.cell? ⟨w.heap.size, j, none⟩ = wc.cell? ⟨w.heap.size, j, none⟩) ∧ (∀ j : Nat, w1.cell? ⟨g, j, none⟩ = wc.cell? ⟨g, j, none⟩) from ⟨fun j => (blk_cell (M3.out.blk_at 2 rfl) j).trans (HM0.out j).symm, fun j => (blk_cell (M3.out.blk_at 1 rfl) j).trans (HG0.out j).symm⟩)))
  go_wp2
  go_ret
  have hs := HSS.out
  have hcx := HCX.out
  subst hs
  subst hcx
  exact ⟨_, _, _, _, _, _, rfl, Mem.sel (ps := [_, _, _, _, _, _, _, _]) (F := F) [4, 7, 6, 1, 2, 0, 3] 8 (Mem.row_nil (Mem.row_nil (Mem.row_nil M3.out (Kd.int .i64) 3) (Kd.int .i64) 3) kE 68) rfl rfl⟩
end Go.Proofs.YtggbjokhniigkaaGreat.Tw
namespace Go.Proofs.YtggbjokhniigkaaGreat.Uc6
open Ty Go.RowKit YtggbjokhniigkaaGreatW.PrintWords YtggbjokhniigkaaGreatW.PrintLast YtggbjokhniigkaaGreatW.PrintMore Mx Kx Wa Wd Vc Wj Tk Tb Tn Tz Ua Un Ub6 Tv Tw
theorem good_6 (r : Rep) (m : Msg) (A5 A7 A8 A9 A10 A : Option Addr) (c5 c7 c8 c9 c10 c : Nat) (hk : m.f0 = 6) (hc : Fit r c5 c7 c8 c9 c10) (hs : r.f5.length ≤ 1200 ∧ r.f7.length ≤ 20 ∧ r.f8.length ≤ 20 ∧ r.f9.length ≤ 20 ∧ r.f10.length ≤ 1200) (hln : m.f7.length ≤ 1200) (hlc : m.f7.length ≤ c) : TakesAs r m A5 A7 A8 A9 A10 A c5 c7 c8 c9 c10 c := by
  refine both_6 r m A5 A7 A8 A9 A10 A c5 c7 c8 c9 c10 c hk hc hs hln hlc fun h1 h2 => ?_
  have n := nums (by omega) (by omega) h1 h2
  by_cases a1 : m.f3 < r.f2
  · exact ⟨r, [], few_same hs, fun w0 w F g v5 v7 v8 v9 v10 hM hl => view_n1 w0 w F g r m v5 v7 v8 v9 v10 A c hM hl (Nat.le_trans hln (by decide)) n.v0 n.v1 n.i0 n.i1 n.n5 a1, fun w0 w F g v5 v7 v8 v9 v10 hM hl => view11_n1 w0 w F g r m v5 v7 v8 v9 v10 A c hM hl (Nat.le_trans hln (by decide)) n.v0 n.v1 n.i0 n.i1 n.n5 a1⟩
  by_cases a2 : m.f3 % r.f1 = m.f1
  case neg => exact ⟨r, [], few_same hs, fun w0 w F g v5 v7 v8 v9 v10 hM hl => view_n2 w0 w F g r m v5 v7 v8 v9 v10 A c hM hl (Nat.le_trans hln (by decide)) n.v0 n.v1 n.i0 n.i1 n.n5 a1 a2, fun w0 w F g v5 v7 v8 v9 v10 hM hl => view11_n2 w0 w F g r m v5 v7 v8 v9 v10 A c hM hl (Nat.le_trans hln (by decide)) n.v0 n.v1 n.i0 n.i1 n.n5 a1 a2⟩
  by_cases a3 : m.f3 = r.f2
  · by_cases a4 : r.f4 = 0
    · exact ⟨r, [], few_same hs, fun w0 w F g v5 v7 v8 v9 v10 hM hl => view_n3 w0 w F g r m v5 v7 v8 v9 v10 A c hM hl (Nat.le_trans hln (by decide)) n.v0 n.v1 n.i0 n.i1 n.n5 a1 a2 a3 a4, fun w0 w F g v5 v7 v8 v9 v10 hM hl => view11_n3 w0 w F g r m v5 v7 v8 v9 v10 A c hM hl (Nat.le_trans hln (by decide)) n.v0 n.v1 n.i0 n.i1 n.n5 a1 a2 a3 a4⟩
    · exact ⟨_, _, (few_normal n.n5 (Nat.le_trans hln (by decide)) (msgs_one (Nat.zero_le _))), fun w0 w F g v5 v7 v8 v9 v10 hM hl => view_y2 w0 w F g r m v5 v7 v8 v9 v10 A c hM hl (Nat.le_trans hln (by decide)) n.v0 n.v1 n.i0 n.i1 n.n5 a1 a2 a3 a4 _ rfl, fun w0 w F g v5 v7 v8 v9 v10 hM hl => view11_y2 w0 w F g r m v5 v7 v8 v9 v10 A c hM hl (Nat.le_trans hln (by decide)) n.v0 n.v1 n.i0 n.i1 n.n5 a1 a2 a3 a4 _ rfl⟩
  · exact ⟨_, _, (few_normal n.n5 (Nat.le_trans hln (by decide)) (msgs_one (Nat.zero_le _))), fun w0 w F g v5 v7 v8 v9 v10 hM hl => view_y1 w0 w F g r m v5 v7 v8 v9 v10 A c hM hl (Nat.le_trans hln (by decide)) n.v0 n.v1 n.i0 n.i1 n.n5 a1 a2 a3 _ rfl, fun w0 w F g v5 v7 v8 v9 v10 hM hl => view11_y1 w0 w F g r m v5 v7 v8 v9 v10 A c hM hl (Nat.le_trans hln (by decide)) n.v0 n.v1 n.i0 n.i1 n.n5 a1 a2 a3 _ rfl⟩
end Go.Proofs.YtggbjokhniigkaaGreat.Uc6
namespace Go.Proofs.YtggbjokhniigkaaGreat.Tm
open Ty Go.RowKit YtggbjokhniigkaaGreatW.PrintWords YtggbjokhniigkaaGreatW.PrintLast YtggbjokhniigkaaGreatW.PrintMore Mx Kx Wa Tk Tl
theorem ask_n1 (w0 w : World) (F : List Res) (g : Nat) (r : Rep) (m : Msg) (v5 v7 v8 v9 v10 : Value) (A : Option Addr) (c : Nat) (hM : Mem w0 w (blk g 95 (Wa.wc r.f0 r.f1 r.f2 r.f3 r.f4 v5 r.f6 v7 v8 v9 v10 r.f11 r.f12 (.slice none 0 0)) :: row kM 27 (.slice none 0 0) [] :: Kx.sL r v5 v7 v8 v9 v10 F)) (h1 : ¬ m.f3 = r.f2) :
    Calls Tryz.prog 108 #[.pointer (some ⟨g, 0, none⟩), .agg #[.int .i64 m.f0, .int .i64 m.f1, .int .i64 m.f2, .int .i64 m.f3, .int .i64 m.f4, .int .i64 m.f5, .int .i64 m.f6, .slice A m.f7.length c]] w fun e w' => e = .returned (.tuple #[]) ∧ ∃ v5' v7' v8' v9' v10' vout' : Value, Mem w0 w' (blk g 95 (Wa.wc r.f0 r.f1 r.f2 r.f3 r.f4 v5' r.f6 v7' v8' v9' v10' r.f11 r.f12 vout') :: row kM 27 vout' [] :: Kx.sL r v5' v7' v8' v9' v10' F) := by
  obtain ⟨B5, d5, rfl, _, _⟩ := hM.row_at 2 rfl
  have e1 : (m.f3 == r.f2) = false := by simpa using h1
  clear h1
  have M1 := Aside0.mk (hM.alloc #[.int .i64 m.f0, .int .i64 m.f1, .int .i64 m.f2, .int .i64 m.f3, .int .i64 m.f4, .int .i64 m.f5, .int .i64 m.f6, .slice A m.f7.length c] 27)
  clear hM
  have cM := blk_cell (M1.out.blk_at 0 rfl)
  have cG := blk_cell (M1.out.blk_at 1 rfl)
  unfold Wa.wc at cG
  go_enter Tryz.func108, Tryz.ntmps108
  go_wp2_with fail
  go_quiet (fail)
  go_wp2
  first | go_end0 | go_ret
  exact ⟨rfl, _, _, _, _, _, _, Mem.sel (ps := [_, _, _, _, _, _, _, _]) (F := F) [1, 2, 3, 4, 5, 6, 7] 8 (M1.out.drewN _) rfl rfl⟩
theorem ask_n2 (w0 w : World) (F : List Res) (g : Nat) (r : Rep) (m : Msg) (v5 v7 v8 v9 v10 : Value) (A : Option Addr) (c : Nat) (hM : Mem w0 w (blk g 95 (Wa.wc r.f0 r.f1 r.f2 r.f3 r.f4 v5 r.f6 v7 v8 v9 v10 r.f11 r.f12 (.slice none 0 0)) :: row kM 27 (.slice none 0 0) [] :: Kx.sL r v5 v7 v8 v9 v10 F)) (h1 : m.f3 = r.f2) (h2 : ¬ r.f4 = 0) :
    Calls Tryz.prog 108 #[.pointer (some ⟨g, 0, none⟩), .agg #[.int .i64 m.f0, .int .i64 m.f1, .int .i64 m.f2, .int .i64 m.f3, .int .i64 m.f4, .int .i64 m.f5, .int .i64 m.f6, .slice A m.f7.length c]] w fun e w' => e = .returned (.tuple #[]) ∧ ∃ v5' v7' v8' v9' v10' vout' : Value, Mem w0 w' (blk g 95 (Wa.wc r.f0 r.f1 r.f2 r.f3 r.f4 v5' r.f6 v7' v8' v9' v10' r.f11 r.f12 vout') :: row kM 27 vout' [] :: Kx.sL r v5' v7' v8' v9' v10' F) := by
  obtain ⟨B5, d5, rfl, _, _⟩ := hM.row_at 2 rfl
  have e1 : (m.f3 == r.f2) = true := by simpa using h1
  clear h1
  have e2 : (r.f4 == 0) = false := by simpa using h2
  clear h2
  have M1 := Aside0.mk (hM.alloc #[.int .i64 m.f0, .int .i64 m.f1, .int .i64 m.f2, .int .i64 m.f3, .int .i64 m.f4, .int .i64 m.f5, .int .i64 m.f6, .slice A m.f7.length c] 27)
  clear hM
  have cM := blk_cell (M1.out.blk_at 0 rfl)
  have cG := blk_cell (M1.out.blk_at 1 rfl)
  unfold Wa.wc at cG
  go_enter Tryz.func108, Tryz.ntmps108
  go_wp2_with fail
  go_quiet (fail)
  go_wp2
  first | go_end0 | go_ret
  exact ⟨rfl, _, _, _, _, _, _, Mem.sel (ps := [_, _, _, _, _, _, _, _]) (F := F) [1, 2, 3, 4, 5, 6, 7] 8 (M1.out.drewN _) rfl rfl⟩
theorem ask_n3 (w0 w : World) (F : List Res) (g : Nat) (r : Rep) (m : Msg) (v5 v7 v8 v9 v10 : Value) (A : Option Addr) (c : Nat) (hM : Mem w0 w (blk g 95 (Wa.wc r.f0 r.f1 r.f2 r.f3 r.f4 v5 r.f6 v7 v8 v9 v10 r.f11 r.f12 (.slice none 0 0)) :: row kM 27 (.slice none 0 0) [] :: Kx.sL r v5 v7 v8 v9 v10 F)) (h1 : m.f3 = r.f2) (h2 : r.f4 = 0) (h3 : ¬ m.f4 ≤ (r.f5.length : Int)) :
    Calls Tryz.prog 108 #[.pointer (some ⟨g, 0, none⟩), .agg #[.int .i64 m.f0, .int .i64 m.f1, .int .i64 m.f2, .int .i64 m.f3, .int .i64 m.f4, .int .i64 m.f5, .int .i64 m.f6, .slice A m.f7.length c]] w fun e w' => e = .returned (.tuple #[]) ∧ ∃ v5' v7' v8' v9' v10' vout' : Value, Mem w0 w' (blk g 95 (Wa.wc r.f0 r.f1 r.f2 r.f3 r.f4 v5' r.f6 v7' v8' v9' v10' r.f11 r.f12 vout') :: row kM 27 vout' [] :: Kx.sL r v5' v7' v8' v9' v10' F) := by
  obtain ⟨B5, d5, rfl, _, _⟩ := hM.row_at 2 rfl
  have e1 : (m.f3 == r.f2) = true := by simpa using h1
  clear h1
  have e2 : (r.f4 == 0) = true := by simpa using h2
  clear h2
  have e3 : decide (m.f4 ≤ (r.f5.length : Int)) = false := by simpa using h3
  clear h3
  have M1 := Aside0.mk (hM.alloc #[.int .i64 m.f0, .int .i64 m.f1, .int .i64 m.f2, .int .i64 m.f3, .int .i64 m.f4, .int .i64 m.f5, .int .i64 m.f6, .slice A m.f7.length c] 27)
  clear hM
  have cM := blk_cell (M1.out.blk_at 0 rfl)
  have cG := blk_cell (M1.out.blk_at 1 rfl)
  unfold Wa.wc at cG
  go_enter Tryz.func108, Tryz.ntmps108
  go_wp2_with fail
  go_quiet (fail)
  go_wp2
  first | go_end0 | go_ret
  exact ⟨rfl, _, _, _, _, _, _, Mem.sel (ps := [_, _, _, _, _, _, _, _]) (F := F) [1, 2, 3, 4, 5, 6, 7] 8 (M1.out.drewN _) rfl rfl⟩
theorem ask_yes1 (w0 w : World) (F : List Res) (g : Nat) (r : Rep) (m : Msg) (B5 : Option Addr) (d5 : Nat) (v7 v8 v9 v10 : Value) (A : Option Addr) (c : Nat) (hM : Mem w0 w (blk g 95 (Wa.wc r.f0 r.f1 r.f2 r.f3 r.f4 (.slice B5 r.f5.length d5) r.f6 v7 v8 v9 v10 r.f11 r.f12 (.slice none 0 0)) :: row kM 27 (.slice none 0 0) [] :: row kE 68 (.slice B5 r.f5.length d5) r.f5 :: row (Kd.int .i64) 3 v7 r.f7 :: row (Kd.int .i64) 3 v8 r.f8 :: row (Kd.int .i64) 3 v9 r.f9 :: row kE 68 v10 r.f10 :: F)) (hdk : ¬ d5 = m.f4.toNat) (h1 : m.f3 = r.f2) (h2 : r.f4 = 0) (h3 : m.f4 ≤ (r.f5.length : Int)) (h0 : 0 ≤ m.f4) (hn : r.f5.length ≤ 1000000) :
    Calls Tryz.prog 108 #[.pointer (some ⟨g, 0, none⟩), .agg #[.int .i64 m.f0, .int .i64 m.f1, .int .i64 m.f2, .int .i64 m.f3, .int .i64 m.f4, .int .i64 m.f5, .int .i64 m.f6, .slice A m.f7.length c]] w fun e w' => e = .returned (.tuple #[]) ∧ ∃ v5' v7' v8' v9' v10' vout' : Value, Mem w0 w' (blk g 95 (Wa.wc r.f0 r.f1 r.f2 r.f3 r.f4 v5' r.f6 v7' v8' v9' v10' r.f11 r.f12 vout') :: row kM 27 vout' [toOne r m.f1 ⟨8, 0, 0, 0, m.f4, r.f6, 0, r.f5.drop m.f4.toNat⟩] :: Kx.sL r v5' v7' v8' v9' v10' F) := by
  obtain ⟨B5_, d5_, hE, hd5, hC⟩ := hM.row_at 2 rfl
  cases hE
  obtain ⟨k, hk⟩ := Int.eq_ofNat_of_zero_le h0
  rw [hk] at h3 hdk
  rw [Int.toNat_natCast] at hdk
  have hk3 : k ≤ r.f5.length := by omega
  have hkd : k ≤ d5 := by omega
  have HDK := Aside0.mk hdk
  have e3 : decide ((k : Int) ≤ (r.f5.length : Int)) = true := by simpa using h3
  have HK := Aside0.mk hk
  have e1 : (m.f3 == r.f2) = true := by simpa using h1
  clear h1
  have e2 : (r.f4 == 0) = true := by simpa using h2
  clear h2
  rw [hk]
  rw [show ((k : Int)).toNat = k from Int.toNat_natCast k]
  have hdl : (r.f5.drop k).length = r.f5.length - k := List.length_drop ..
  have HDL := Aside0.mk hdl
  have HD := Aside0.mk hd5
  have HN := Aside0.mk hn
  have HK3 := Aside0.mk hk3
  clear hdl hC hk h0 h3 hn
  have M1 := Aside0.mk (hM.alloc #[.int .i64 m.f0, .int .i64 m.f1, .int .i64 m.f2, .int .i64 m.f3, .int .i64 (k : Int), .int .i64 m.f5, .int .i64 m.f6, .slice A m.f7.length c] 27)
  clear hM
  have cM := blk_cell (M1.out.blk_at 0 rfl)
  have cG := blk_cell (M1.out.blk_at 1 rfl)
  unfold Wa.wc at cG
  go_enter Tryz.func108, Tryz.ntmps108
  go_wp2_with fail
  go_quiet (fail)
  go_wp2_with fail
  have M2 := Aside0.mk (M1.out.drewN nq)
  obtain ⟨wc, hwc⟩ : ∃ wc : World, (w.alloc (Obj.cells #[.int .i64 m.f0, .int .i64 m.f1, .int .i64 m.f2, .int .i64 m.f3, .int .i64 (k : Int), .int .i64 m.f5, .int .i64 m.f6, .slice A m.f7.length c] 27)).drewN nq = wc := ⟨_, rfl⟩
  rw [hwc] at M2 ⊢
  clear hwc M1 cM cG
  have HM0 := Aside0.mk (blk_cell (M2.out.blk_at 0 rfl))
  have HG0 := Aside0.mk (blk_cell (M2.out.blk_at 1 rfl))
  have cM := HM0.out
  have cG := HG0.out
  unfold Wa.wc at cG
  have M2D := Aside0.mk M2.out.drew
  have CALL : Aside0 (∀ wd : World, Mem w0 wd (row kE 68 (.slice B5 r.f5.length d5) r.f5 :: blk g 95 (Wa.wc r.f0 r.f1 r.f2 r.f3 r.f4 (.slice B5 r.f5.length d5) r.f6 v7 v8 v9 v10 r.f11 r.f12 (.slice none 0 0)) :: row kM 27 (.slice none 0 0) [] :: blk w.heap.size 27 #[.int .i64 m.f0, .int .i64 m.f1, .int .i64 m.f2, .int .i64 m.f3, .int .i64 (k : Int), .int .i64 m.f5, .int .i64 m.f6, .slice A m.f7.length c] :: row (Kd.int .i64) 3 v7 r.f7 :: row (Kd.int .i64) 3 v8 r.f8 :: row (Kd.int .i64) 3 v9 r.f9 :: row kE 68 v10 r.f10 :: F) →
      Calls Tryz.prog 126 #[.pointer (some ⟨g, 0, none⟩), .int .i64 m.f1, .agg #[.int .i64 8, .int .i64 0, .int .i64 0, .int .i64 0, .int .i64 (k : Int), .int .i64 r.f6, .int .i64 0, .slice (B5.map (fun x => x.add (k * 2))) (r.f5.length - k) (d5 - k)]] wd fun e w' =>
        ∃ vout' : Value, e = .returned (.tuple #[]) ∧ Mem w0 w' (row kE 68 (.slice B5 r.f5.length d5) r.f5 :: blk g 95 (Wa.wc r.f0 r.f1 r.f2 r.f3 r.f4 (.slice B5 r.f5.length d5) r.f6 v7 v8 v9 v10 r.f11 r.f12 vout') :: row kM 27 vout' [toOne r m.f1 ⟨8, 0, 0, 0, (k : Int), r.f6, 0, r.f5.drop k⟩] :: blk w.heap.size 27 #[.int .i64 m.f0, .int .i64 m.f1, .int .i64 m.f2, .int .i64 m.f3, .int .i64 (k : Int), .int .i64 m.f5, .int .i64 m.f6, .slice A m.f7.length c] :: row (Kd.int .i64) 3 v7 r.f7 :: row (Kd.int .i64) 3 v8 r.f8 :: row (Kd.int .i64) 3 v9 r.f9 :: row kE 68 v10 r.f10 :: F)) := ⟨fun wd hMd => by
    have h := send_calls w0 wd _ _ g r.f0 r.f1 r.f2 r.f3 r.f4 _ r.f6 _ _ _ _ r.f11 r.f12 _ [] m.f1 8 0 0 0 (k : Int) r.f6 0 (B5.map (fun x => x.add (k * 2))) (d5 - k) (r.f5.drop k) hMd (fun w' rs i hM hi => by have hq := Kd.C_drop (c := d5) (hM.row_C i hi) HK3.out HD.out; rwa [if_neg HDK.out] at hq) (by rw [HDL.out]; have := HN.out; omega) (by rw [HDL.out]; have := HD.out; omega) (by simp)
    rw [HDL.out] at h
    exact h⟩
  have HS0 := Aside0.mk (show (∀ j : Nat, wc.drew.cell? ⟨w.heap.size, j, none⟩ = wc.cell? ⟨w.heap.size, j, none⟩) ∧ (∀ j : Nat, j < 13 → wc.drew.cell? ⟨g, j, none⟩ = wc.cell? ⟨g, j, none⟩) from ⟨fun _ => rfl, fun _ _ => rfl⟩)
  have H9 := HS0
  go_region_held3 (fun w' => (∀ j : Nat, w'.cell? ⟨w.heap.size, j, none⟩ = wc.cell? ⟨w.heap.size, j, none⟩) ∧ (∀ j : Nat, j < 13 → w'.cell? ⟨g, j, none⟩ = wc.cell? ⟨g, j, none⟩)) (first | with_reducible exact HS0.out | with_reducible exact H9.out | fail) ((go_at_call 126; refine (CALL.out _ (Mem.sel (ps := [_, _, _, _, _, _, _, _]) (F := F) [3, 1, 2, 0, 4, 5, 6, 7] 8 M2D.out rfl rfl)).mono ?_; rintro e w1 ⟨vo, rfl, hM⟩; have M3 := Aside0.mk (Mem.sel (ps := [_, _, _, _, _, _, _, _]) (F := F) [3, 1, 2, 0, 4, 5, 6, 7] 8 hM rfl rfl); clear hM; have H9 := Aside0.mk (show (∀ j : Nat, w1.cell? ⟨w.heap.size, j, none⟩ = wc.cell? ⟨w.heap.size, j, none⟩) ∧ (∀ j : Nat, j < 13 → w1.cell? ⟨g, j, none⟩ = wc.cell? ⟨g, j, none⟩) from ⟨fun j => (blk_cell (M3.out.blk_at 0 rfl) j).trans (HM0.out j).symm, fun j hj => (blk_cell (M3.out.blk_at 1 rfl) j).trans (Eq.trans (wc_low _ _ _ _ _ _ _ _ _ _ _ _ _ _ _ j hj) (HG0.out j).symm)⟩)))
  go_wp2
  first | go_end0 | go_ret
  exact ⟨rfl, _, _, _, _, _, _, Mem.sel (ps := [_, _, _, _, _, _, _, _]) (F := F) [1, 2, 3, 4, 5, 6, 7] 8 M3.out rfl rfl⟩
theorem ask_yes0 (w0 w : World) (F : List Res) (g : Nat) (r : Rep) (m : Msg) (B5 : Option Addr) (d5 : Nat) (v7 v8 v9 v10 : Value) (A : Option Addr) (c : Nat) (hM : Mem w0 w (blk g 95 (Wa.wc r.f0 r.f1 r.f2 r.f3 r.f4 (.slice B5 r.f5.length d5) r.f6 v7 v8 v9 v10 r.f11 r.f12 (.slice none 0 0)) :: row kM 27 (.slice none 0 0) [] :: row kE 68 (.slice B5 r.f5.length d5) r.f5 :: row (Kd.int .i64) 3 v7 r.f7 :: row (Kd.int .i64) 3 v8 r.f8 :: row (Kd.int .i64) 3 v9 r.f9 :: row kE 68 v10 r.f10 :: F)) (hdk : d5 = m.f4.toNat) (h1 : m.f3 = r.f2) (h2 : r.f4 = 0) (h3 : m.f4 ≤ (r.f5.length : Int)) (h0 : 0 ≤ m.f4) (hn : r.f5.length ≤ 1000000) :
    Calls Tryz.prog 108 #[.pointer (some ⟨g, 0, none⟩), .agg #[.int .i64 m.f0, .int .i64 m.f1, .int .i64 m.f2, .int .i64 m.f3, .int .i64 m.f4, .int .i64 m.f5, .int .i64 m.f6, .slice A m.f7.length c]] w fun e w' => e = .returned (.tuple #[]) ∧ ∃ v5' v7' v8' v9' v10' vout' : Value, Mem w0 w' (blk g 95 (Wa.wc r.f0 r.f1 r.f2 r.f3 r.f4 v5' r.f6 v7' v8' v9' v10' r.f11 r.f12 vout') :: row kM 27 vout' [toOne r m.f1 ⟨8, 0, 0, 0, m.f4, r.f6, 0, r.f5.drop m.f4.toNat⟩] :: Kx.sL r v5' v7' v8' v9' v10' F) := by
  obtain ⟨B5_, d5_, hE, hd5, hC⟩ := hM.row_at 2 rfl
  cases hE
  obtain ⟨k, hk⟩ := Int.eq_ofNat_of_zero_le h0
  rw [hk] at h3 hdk
  rw [Int.toNat_natCast] at hdk
  have hk3 : k ≤ r.f5.length := by omega
  have hkd : k ≤ d5 := by omega
  have HDK := Aside0.mk hdk
  have hdt : (d5 = k) = True := eq_true hdk
  clear hdk
  have e3 : decide ((k : Int) ≤ (r.f5.length : Int)) = true := by simpa using h3
  have HK := Aside0.mk hk
  have e1 : (m.f3 == r.f2) = true := by simpa using h1
  clear h1
  have e2 : (r.f4 == 0) = true := by simpa using h2
  clear h2
  rw [hk]
  rw [show ((k : Int)).toNat = k from Int.toNat_natCast k]
  have hdl : (r.f5.drop k).length = r.f5.length - k := List.length_drop ..
  have HDL := Aside0.mk hdl
  have HD := Aside0.mk hd5
  have HN := Aside0.mk hn
  have HK3 := Aside0.mk hk3
  clear hdl hC hk h0 h3 hn
  have M1 := Aside0.mk (hM.alloc #[.int .i64 m.f0, .int .i64 m.f1, .int .i64 m.f2, .int .i64 m.f3, .int .i64 (k : Int), .int .i64 m.f5, .int .i64 m.f6, .slice A m.f7.length c] 27)
  clear hM
  have cM := blk_cell (M1.out.blk_at 0 rfl)
  have cG := blk_cell (M1.out.blk_at 1 rfl)
  unfold Wa.wc at cG
  go_enter Tryz.func108, Tryz.ntmps108
  go_wp2_with fail
  go_quiet (fail)
  go_wp2_with fail
  have M2 := Aside0.mk (M1.out.drewN nq)
  obtain ⟨wc, hwc⟩ : ∃ wc : World, (w.alloc (Obj.cells #[.int .i64 m.f0, .int .i64 m.f1, .int .i64 m.f2, .int .i64 m.f3, .int .i64 (k : Int), .int .i64 m.f5, .int .i64 m.f6, .slice A m.f7.length c] 27)).drewN nq = wc := ⟨_, rfl⟩
  rw [hwc] at M2 ⊢
  clear hwc M1 cM cG
  have HM0 := Aside0.mk (blk_cell (M2.out.blk_at 0 rfl))
  have HG0 := Aside0.mk (blk_cell (M2.out.blk_at 1 rfl))
  have cM := HM0.out
  have cG := HG0.out
  unfold Wa.wc at cG
  have M2D := Aside0.mk M2.out.drew
  have CALL : Aside0 (∀ wd : World, Mem w0 wd (row kE 68 (.slice B5 r.f5.length d5) r.f5 :: blk g 95 (Wa.wc r.f0 r.f1 r.f2 r.f3 r.f4 (.slice B5 r.f5.length d5) r.f6 v7 v8 v9 v10 r.f11 r.f12 (.slice none 0 0)) :: row kM 27 (.slice none 0 0) [] :: blk w.heap.size 27 #[.int .i64 m.f0, .int .i64 m.f1, .int .i64 m.f2, .int .i64 m.f3, .int .i64 (k : Int), .int .i64 m.f5, .int .i64 m.f6, .slice A m.f7.length c] :: row (Kd.int .i64) 3 v7 r.f7 :: row (Kd.int .i64) 3 v8 r.f8 :: row (Kd.int .i64) 3 v9 r.f9 :: row kE 68 v10 r.f10 :: F) →
      Calls Tryz.prog 126 #[.pointer (some ⟨g, 0, none⟩), .int .i64 m.f1, .agg #[.int .i64 8, .int .i64 0, .int .i64 0, .int .i64 0, .int .i64 (k : Int), .int .i64 r.f6, .int .i64 0, .slice B5 (r.f5.length - k) (d5 - k)]] wd fun e w' =>
        ∃ vout' : Value, e = .returned (.tuple #[]) ∧ Mem w0 w' (row kE 68 (.slice B5 r.f5.length d5) r.f5 :: blk g 95 (Wa.wc r.f0 r.f1 r.f2 r.f3 r.f4 (.slice B5 r.f5.length d5) r.f6 v7 v8 v9 v10 r.f11 r.f12 vout') :: row kM 27 vout' [toOne r m.f1 ⟨8, 0, 0, 0, (k : Int), r.f6, 0, r.f5.drop k⟩] :: blk w.heap.size 27 #[.int .i64 m.f0, .int .i64 m.f1, .int .i64 m.f2, .int .i64 m.f3, .int .i64 (k : Int), .int .i64 m.f5, .int .i64 m.f6, .slice A m.f7.length c] :: row (Kd.int .i64) 3 v7 r.f7 :: row (Kd.int .i64) 3 v8 r.f8 :: row (Kd.int .i64) 3 v9 r.f9 :: row kE 68 v10 r.f10 :: F)) := ⟨fun wd hMd => by
    have h := send_calls w0 wd _ _ g r.f0 r.f1 r.f2 r.f3 r.f4 _ r.f6 _ _ _ _ r.f11 r.f12 _ [] m.f1 8 0 0 0 (k : Int) r.f6 0 B5 (d5 - k) (r.f5.drop k) hMd (fun w' rs i hM hi => by have hq := Kd.C_drop (c := d5) (hM.row_C i hi) HK3.out HD.out; rwa [if_pos HDK.out] at hq) (by rw [HDL.out]; have := HN.out; omega) (by rw [HDL.out]; have := HD.out; omega) (by simp)
    rw [HDL.out] at h
    exact h⟩
  have HS0 := Aside0.mk (show (∀ j : Nat, wc.drew.cell? ⟨w.heap.size, j, none⟩ = wc.cell? ⟨w.heap.size, j, none⟩) ∧ (∀ j : Nat, j < 13 → wc.drew.cell? ⟨g, j, none⟩ = wc.cell? ⟨g, j, none⟩) from ⟨fun _ => rfl, fun _ _ => rfl⟩)
  have H9 := HS0
  go_region_held3 (fun w' => (∀ j : Nat, w'.cell? ⟨w.heap.size, j, none⟩ = wc.cell? ⟨w.heap.size, j, none⟩) ∧ (∀ j : Nat, j < 13 → w'.cell? ⟨g, j, none⟩ = wc.cell? ⟨g, j, none⟩)) (first | with_reducible exact HS0.out | with_reducible exact H9.out | fail) ((go_at_call 126; refine (CALL.out _ (Mem.sel (ps := [_, _, _, _, _, _, _, _]) (F := F) [3, 1, 2, 0, 4, 5, 6, 7] 8 M2D.out rfl rfl)).mono ?_; rintro e w1 ⟨vo, rfl, hM⟩; have M3 := Aside0.mk (Mem.sel (ps := [_, _, _, _, _, _, _, _]) (F := F) [3, 1, 2, 0, 4, 5, 6, 7] 8 hM rfl rfl); clear hM; have H9 := Aside0.mk (show (∀ j : Nat, w1.cell? ⟨w.heap.size, j, none⟩ = wc.cell? ⟨w.heap.size, j, none⟩) ∧ (∀ j : Nat, j < 13 → w1.cell? ⟨g, j, none⟩ = wc.cell? ⟨g, j, none⟩) from ⟨fun j => (blk_cell (M3.out.blk_at 0 rfl) j).trans (HM0.out j).symm, fun j hj => (blk_cell (M3.out.blk_at 1 rfl) j).trans (Eq.trans (wc_low _ _ _ _ _ _ _ _ _ _ _ _ _ _ _ j hj) (HG0.out j).symm)⟩)))
  go_wp2
  first | go_end0 | go_ret
  exact ⟨rfl, _, _, _, _, _, _, Mem.sel (ps := [_, _, _, _, _, _, _, _]) (F := F) [1, 2, 3, 4, 5, 6, 7] 8 M3.out rfl rfl⟩
end Go.Proofs.YtggbjokhniigkaaGreat.Tm
