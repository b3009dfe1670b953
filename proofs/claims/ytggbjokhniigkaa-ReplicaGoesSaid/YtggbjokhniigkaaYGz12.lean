/- Texts laid together: Tv, Tc, Tc3. No condition. -/
import Derived.Deep.RegionHeld3
import Derived.Test.YtggbjokhniigkaaYGz7
set_option linter.unusedVariables false
set_option linter.unusedSimpArgs false
set_option maxRecDepth 100000
set_option maxHeartbeats 8000000
namespace Go.Proofs.Ytggbjokhniigkaa.Tv
open Ty Go.RowKit YtggbjokhniigkaaW.PrintWords YtggbjokhniigkaaW.PrintLast YtggbjokhniigkaaW.PrintMore Mx Kx Wa Tk We Sa Tl Wj Wd
theorem view_n1 (w0 w : World) (F : List Res) (g : Nat) (r : Rep) (m : Msg) (v5 v7 v8 v9 v10 : Value) (A : Option Addr) (c : Nat) (hM : Mem w0 w (blk g 99 (Wa.wc r.f0 r.f1 r.f2 r.f3 r.f4 v5 r.f6 v7 v8 v9 v10 r.f11 r.f12 (.slice none 0 0)) :: row kM 29 (.slice none 0 0) [] :: Kx.sL r v5 v7 v8 v9 v10 F)) (hl : Kd.C kE w0 A m.f7.length m.f7) (hln : m.f7.length ≤ 1000000) (hv : 0 ≤ m.f3) (hv2 : m.f3 ≤ 4611686018427387904) (hi0 : 0 ≤ r.f0) (hi1 : r.f0 < r.f1) (hn5 : r.f1 ≤ 5) (h1 : m.f3 < r.f2) :
    Calls Try.prog 100 #[.pointer (some ⟨g, 0, none⟩), .agg (Kx.mA m A c)] w fun e w' => e = .returned (.tuple #[]) ∧ ∃ v5' v7' v8' v9' v10' vout' : Value, Mem w0 w' (blk g 99 (Wa.wc r.f0 r.f1 r.f2 r.f3 r.f4 v5' r.f6 v7' v8' v9' v10' r.f11 r.f12 vout') :: row kM 29 vout' [] :: Kx.sL r v5' v7' v8' v9' v10' F) := by
  obtain ⟨B5, d5, rfl, _, _⟩ := hM.row_at 2 rfl
  have e1 : decide (m.f3 < r.f2) = true := by simpa using h1
  clear h1
  have HL := Aside0.mk hl
  have HLN := Aside0.mk hln
  have HV := Aside0.mk (show 0 ≤ m.f3 ∧ m.f3 ≤ 4611686018427387904 from ⟨hv, hv2⟩)
  have HI := Aside0.mk (show 0 ≤ r.f0 ∧ r.f0 < r.f1 ∧ r.f1 ≤ 5 from ⟨hi0, hi1, hn5⟩)
  have M1 := Aside0.mk (hM.alloc (Kx.mA m A c) 29)
  clear hM hl hln hv hv2 hi0 hi1 hn5
  have cM := blk_cell (M1.out.blk_at 0 rfl)
  have cG := blk_cell (M1.out.blk_at 1 rfl)
  unfold Wa.wc at cG
  go_enter Try.func100, Try.ntmps100
  go_wp2_with fail
  have hW := M1.out.blk_at 1 rfl
  go_quiet ((go_at_call 74; exact primary_quiet _ _ g r.f0 r.f1 r.f2 r.f3 r.f4 _ r.f6 _ _ _ _ r.f11 r.f12 _ m.f3 hW HV.out.1 HV.out.2 (by have := HI.out; omega) HI.out.2.2))
  clear hW
  go_wp2
  first | go_end0 | (refine bodyPost_ret (results_none rfl _ _ _) rfl ?_)
  exact ⟨rfl, _, _, _, _, _, _, Mem.sel (ps := [_, _, _, _, _, _, _, _]) (F := F) [1, 2, 3, 4, 5, 6, 7] 8 (M1.out.drewN _) rfl rfl⟩
theorem view_n2 (w0 w : World) (F : List Res) (g : Nat) (r : Rep) (m : Msg) (v5 v7 v8 v9 v10 : Value) (A : Option Addr) (c : Nat) (hM : Mem w0 w (blk g 99 (Wa.wc r.f0 r.f1 r.f2 r.f3 r.f4 v5 r.f6 v7 v8 v9 v10 r.f11 r.f12 (.slice none 0 0)) :: row kM 29 (.slice none 0 0) [] :: Kx.sL r v5 v7 v8 v9 v10 F)) (hl : Kd.C kE w0 A m.f7.length m.f7) (hln : m.f7.length ≤ 1000000) (hv : 0 ≤ m.f3) (hv2 : m.f3 ≤ 4611686018427387904) (hi0 : 0 ≤ r.f0) (hi1 : r.f0 < r.f1) (hn5 : r.f1 ≤ 5) (h1 : ¬ m.f3 < r.f2) (h2 : ¬ m.f3 % r.f1 = m.f1) :
    Calls Try.prog 100 #[.pointer (some ⟨g, 0, none⟩), .agg (Kx.mA m A c)] w fun e w' => e = .returned (.tuple #[]) ∧ ∃ v5' v7' v8' v9' v10' vout' : Value, Mem w0 w' (blk g 99 (Wa.wc r.f0 r.f1 r.f2 r.f3 r.f4 v5' r.f6 v7' v8' v9' v10' r.f11 r.f12 vout') :: row kM 29 vout' [] :: Kx.sL r v5' v7' v8' v9' v10' F) := by
  obtain ⟨B5, d5, rfl, _, _⟩ := hM.row_at 2 rfl
  have e1 : decide (m.f3 < r.f2) = false := by simpa using h1
  clear h1
  have e2 : (m.f3 % r.f1 == m.f1) = false := by simpa using h2
  have e2' : (m.f3 % r.f1 != m.f1) = true := by simpa using h2
  clear h2
  have HL := Aside0.mk hl
  have HLN := Aside0.mk hln
  have HV := Aside0.mk (show 0 ≤ m.f3 ∧ m.f3 ≤ 4611686018427387904 from ⟨hv, hv2⟩)
  have HI := Aside0.mk (show 0 ≤ r.f0 ∧ r.f0 < r.f1 ∧ r.f1 ≤ 5 from ⟨hi0, hi1, hn5⟩)
  have M1 := Aside0.mk (hM.alloc (Kx.mA m A c) 29)
  clear hM hl hln hv hv2 hi0 hi1 hn5
  have cM := blk_cell (M1.out.blk_at 0 rfl)
  have cG := blk_cell (M1.out.blk_at 1 rfl)
  unfold Wa.wc at cG
  go_enter Try.func100, Try.ntmps100
  go_wp2_with fail
  have hW := M1.out.blk_at 1 rfl
  go_quiet ((go_at_call 74; exact primary_quiet _ _ g r.f0 r.f1 r.f2 r.f3 r.f4 _ r.f6 _ _ _ _ r.f11 r.f12 _ m.f3 hW HV.out.1 HV.out.2 (by have := HI.out; omega) HI.out.2.2))
  clear hW
  go_wp2
  first | go_end0 | (refine bodyPost_ret (results_none rfl _ _ _) rfl ?_)
  exact ⟨rfl, _, _, _, _, _, _, Mem.sel (ps := [_, _, _, _, _, _, _, _]) (F := F) [1, 2, 3, 4, 5, 6, 7] 8 (M1.out.drewN _) rfl rfl⟩
theorem view_n3 (w0 w : World) (F : List Res) (g : Nat) (r : Rep) (m : Msg) (v5 v7 v8 v9 v10 : Value) (A : Option Addr) (c : Nat) (hM : Mem w0 w (blk g 99 (Wa.wc r.f0 r.f1 r.f2 r.f3 r.f4 v5 r.f6 v7 v8 v9 v10 r.f11 r.f12 (.slice none 0 0)) :: row kM 29 (.slice none 0 0) [] :: Kx.sL r v5 v7 v8 v9 v10 F)) (hl : Kd.C kE w0 A m.f7.length m.f7) (hln : m.f7.length ≤ 1000000) (hv : 0 ≤ m.f3) (hv2 : m.f3 ≤ 4611686018427387904) (hi0 : 0 ≤ r.f0) (hi1 : r.f0 < r.f1) (hn5 : r.f1 ≤ 5) (h1 : ¬ m.f3 < r.f2) (h2 : m.f3 % r.f1 = m.f1) (h3 : m.f3 = r.f2) (h4 : r.f4 = 0) :
    Calls Try.prog 100 #[.pointer (some ⟨g, 0, none⟩), .agg (Kx.mA m A c)] w fun e w' => e = .returned (.tuple #[]) ∧ ∃ v5' v7' v8' v9' v10' vout' : Value, Mem w0 w' (blk g 99 (Wa.wc r.f0 r.f1 r.f2 r.f3 r.f4 v5' r.f6 v7' v8' v9' v10' r.f11 r.f12 vout') :: row kM 29 vout' [] :: Kx.sL r v5' v7' v8' v9' v10' F) := by
  obtain ⟨B5, d5, rfl, _, _⟩ := hM.row_at 2 rfl
  have e1 : decide (m.f3 < r.f2) = false := by simpa using h1
  clear h1
  have e2 : (m.f3 % r.f1 == m.f1) = true := by simpa using h2
  have e2' : (m.f3 % r.f1 != m.f1) = false := by simpa using h2
  clear h2
  have e3 : (m.f3 == r.f2) = true := by simpa using h3
  clear h3
  have e4 : (r.f4 == 0) = true := by simpa using h4
  clear h4
  have HL := Aside0.mk hl
  have HLN := Aside0.mk hln
  have HV := Aside0.mk (show 0 ≤ m.f3 ∧ m.f3 ≤ 4611686018427387904 from ⟨hv, hv2⟩)
  have HI := Aside0.mk (show 0 ≤ r.f0 ∧ r.f0 < r.f1 ∧ r.f1 ≤ 5 from ⟨hi0, hi1, hn5⟩)
  have M1 := Aside0.mk (hM.alloc (Kx.mA m A c) 29)
  clear hM hl hln hv hv2 hi0 hi1 hn5
  have cM := blk_cell (M1.out.blk_at 0 rfl)
  have cG := blk_cell (M1.out.blk_at 1 rfl)
  unfold Wa.wc at cG
  go_enter Try.func100, Try.ntmps100
  go_wp2_with fail
  have hW := M1.out.blk_at 1 rfl
  go_quiet ((go_at_call 74; exact primary_quiet _ _ g r.f0 r.f1 r.f2 r.f3 r.f4 _ r.f6 _ _ _ _ r.f11 r.f12 _ m.f3 hW HV.out.1 HV.out.2 (by have := HI.out; omega) HI.out.2.2))
  clear hW
  go_wp2
  first | go_end0 | (refine bodyPost_ret (results_none rfl _ _ _) rfl ?_)
  exact ⟨rfl, _, _, _, _, _, _, Mem.sel (ps := [_, _, _, _, _, _, _, _]) (F := F) [1, 2, 3, 4, 5, 6, 7] 8 (M1.out.drewN _) rfl rfl⟩
theorem view_y1 (w0 w : World) (F : List Res) (g : Nat) (r : Rep) (m : Msg) (v5 v7 v8 v9 v10 : Value) (A : Option Addr) (c : Nat) (hM : Mem w0 w (blk g 99 (Wa.wc r.f0 r.f1 r.f2 r.f3 r.f4 v5 r.f6 v7 v8 v9 v10 r.f11 r.f12 (.slice none 0 0)) :: row kM 29 (.slice none 0 0) [] :: Kx.sL r v5 v7 v8 v9 v10 F)) (hl : Kd.C kE w0 A m.f7.length m.f7) (hln : m.f7.length ≤ 1000000) (hv : 0 ≤ m.f3) (hv2 : m.f3 ≤ 4611686018427387904) (hi0 : 0 ≤ r.f0) (hi1 : r.f0 < r.f1) (hn5 : r.f1 ≤ 5) (h1 : ¬ m.f3 < r.f2) (h2 : m.f3 % r.f1 = m.f1) (h3 : ¬ m.f3 = r.f2) (s : Rep) (hs : normal r m.f3 m.f7 m.f5 = s) :
    Calls Try.prog 100 #[.pointer (some ⟨g, 0, none⟩), .agg (Kx.mA m A c)] w fun e w' => e = .returned (.tuple #[]) ∧ ∃ v5' v7' v8' v9' v10' vout' : Value, Mem w0 w' (blk g 99 (Wa.wc s.f0 s.f1 s.f2 s.f3 s.f4 v5' s.f6 v7' v8' v9' v10' s.f11 s.f12 vout') :: row kM 29 vout' [toOne s m.f1 ⟨2, 0, 0, 0, (s.f5.length : Int), 0, 0, []⟩] :: Kx.sL s v5' v7' v8' v9' v10' F) := by
  obtain ⟨B5, d5, rfl, _, _⟩ := hM.row_at 2 rfl
  obtain ⟨cx, hcx⟩ : ∃ cx : Int, (if r.f1 = 1 then (m.f7.length : Int) else min (max r.f6 m.f5) (m.f7.length : Int)) = cx := ⟨_, rfl⟩
  have HCX := Aside0.mk hcx
  have HSS := Aside0.mk hs
  clear hcx hs
  have e1 : decide (m.f3 < r.f2) = false := by simpa using h1
  clear h1
  have e2 : (m.f3 % r.f1 == m.f1) = true := by simpa using h2
  have e2' : (m.f3 % r.f1 != m.f1) = false := by simpa using h2
  clear h2
  have e3 : (m.f3 == r.f2) = false := by simpa using h3
  clear h3
  have HL := Aside0.mk hl
  have HLN := Aside0.mk hln
  have HV := Aside0.mk (show 0 ≤ m.f3 ∧ m.f3 ≤ 4611686018427387904 from ⟨hv, hv2⟩)
  have HI := Aside0.mk (show 0 ≤ r.f0 ∧ r.f0 < r.f1 ∧ r.f1 ≤ 5 from ⟨hi0, hi1, hn5⟩)
  have M1 := Aside0.mk (hM.alloc (Kx.mA m A c) 29)
  clear hM hl hln hv hv2 hi0 hi1 hn5
  have cM := blk_cell (M1.out.blk_at 0 rfl)
  have cG := blk_cell (M1.out.blk_at 1 rfl)
  unfold Wa.wc at cG
  go_enter Try.func100, Try.ntmps100
  go_wp2_with fail
  have hW := M1.out.blk_at 1 rfl
  go_quiet ((go_at_call 74; exact primary_quiet _ _ g r.f0 r.f1 r.f2 r.f3 r.f4 _ r.f6 _ _ _ _ r.f11 r.f12 _ m.f3 hW HV.out.1 HV.out.2 (by have := HI.out; omega) HI.out.2.2))
  clear hW
  go_wp2_with fail
  refine (normal_calls w0 _ _ g r.f0 r.f1 r.f2 r.f3 r.f4 _ r.f6 _ _ _ _ r.f11 r.f12 _ m.f3 m.f5 A c m.f7 (Mem.sel (ps := [_, _, _, _, _, _, _, _]) (F := F) [1, 0, 2, 3, 4, 5, 6, 7] 8 (M1.out.drewN _) rfl rfl) (fun w' b hq => Kd.C_below HL.out hq.below) (Nat.le_trans HLN.out (by decide)) HI.out.1 HI.out.2.1 HI.out.2.2 cx HCX.out).mono ?_
  rintro e wc ⟨vl, va, rfl, hM⟩
  obtain ⟨L5, l5, rfl, hl5, _⟩ := hM.row_at 2 rfl
  have M2 := Aside0.mk (Mem.sel (ps := [_, _, _, _, _, _, _, _, _, _]) (F := F) [0, 4, 3, 1, 2] 10 hM rfl rfl)
  clear hM M1 cM cG
  have HM0 := Aside0.mk (blk_cell (M2.out.blk_at 2 rfl))
  have HG0 := Aside0.mk (blk_cell (M2.out.blk_at 0 rfl))
  have cM := HM0.out
  have cG := HG0.out
  unfold Wa.wc at cG
  go_upto_region 3 with (fail)
  have M2D := Aside0.mk M2.out.drew
  have HS0 := Aside0.mk (show (∀ j : Nat, wc.drew.cell? ⟨w.heap.size, j, none⟩ = wc.cell? ⟨w.heap.size, j, none⟩) ∧ (∀ j : Nat, j < 13 → wc.drew.cell? ⟨g, j, none⟩ = wc.cell? ⟨g, j, none⟩) from ⟨fun _ => rfl, fun _ _ => rfl⟩)
  have H9 := HS0
  go_region_held3 (fun w' => (∀ j : Nat, w'.cell? ⟨w.heap.size, j, none⟩ = wc.cell? ⟨w.heap.size, j, none⟩) ∧ (∀ j : Nat, j < 13 → w'.cell? ⟨g, j, none⟩ = wc.cell? ⟨g, j, none⟩)) (first | with_reducible exact HS0.out | with_reducible exact H9.out | fail) ((go_at_call 94; refine (send_calls w0 _ emp _ g r.f0 r.f1 m.f3 m.f3 0 _ cx va (.slice none 0 0) (.slice none 0 0) (.slice none 0 0) (-1) 0 (.slice none 0 0) [] m.f1 2 0 0 0 (m.f7.length : Int) 0 0 none 0 [] (Mem.sel (ps := [_, _, _, _, _, _]) (F := F) [0, 1, 2, 3, 4, 5] 6 (Mem.cons_emp M2D.out) rfl rfl) (Rd.old (C_zero _)) (by decide) (by decide) (by decide)).mono ?_; rintro e w1 ⟨vo, rfl, hM⟩; have M3 := Aside0.mk (Mem.sel (ps := [_, _, _, _, _, _]) (F := F) [1, 2, 3, 4, 5] 6 hM rfl rfl); clear hM; have H9 := Aside0.mk (show (∀ j : Nat, w1.cell? ⟨w.heap.size, j, none⟩ = wc.cell? ⟨w.heap.size, j, none⟩) ∧ (∀ j : Nat, j < 13 → w1.cell? ⟨g, j, none⟩ = wc.cell? ⟨g, j, none⟩) from ⟨fun j => (blk_cell (M3.out.blk_at 2 rfl) j).trans (HM0.out j).symm, fun j hj => (blk_cell (M3.out.blk_at 0 rfl) j).trans (Eq.trans (wc_low _ _ _ _ _ _ _ _ _ _ _ _ _ _ _ j hj) (HG0.out j).symm)⟩)))
  go_wp2
  first | go_end0 | (refine bodyPost_ret (results_none rfl _ _ _) rfl ?_)
  have hs := HSS.out
  have hcx := HCX.out
  subst hs
  subst hcx
  exact ⟨rfl, _, _, _, _, _, _, Mem.sel (ps := [_, _, _, _, _, _, _, _]) (F := F) [3, 4, 7, 6, 1, 2, 0] 8 (Mem.row_nil (Mem.row_nil (Mem.row_nil M3.out (Kd.int .i64) 3) (Kd.int .i64) 3) kE 102) rfl rfl⟩
theorem view_y2 (w0 w : World) (F : List Res) (g : Nat) (r : Rep) (m : Msg) (v5 v7 v8 v9 v10 : Value) (A : Option Addr) (c : Nat) (hM : Mem w0 w (blk g 99 (Wa.wc r.f0 r.f1 r.f2 r.f3 r.f4 v5 r.f6 v7 v8 v9 v10 r.f11 r.f12 (.slice none 0 0)) :: row kM 29 (.slice none 0 0) [] :: Kx.sL r v5 v7 v8 v9 v10 F)) (hl : Kd.C kE w0 A m.f7.length m.f7) (hln : m.f7.length ≤ 1000000) (hv : 0 ≤ m.f3) (hv2 : m.f3 ≤ 4611686018427387904) (hi0 : 0 ≤ r.f0) (hi1 : r.f0 < r.f1) (hn5 : r.f1 ≤ 5) (h1 : ¬ m.f3 < r.f2) (h2 : m.f3 % r.f1 = m.f1) (h3 : m.f3 = r.f2) (h4 : ¬ r.f4 = 0) (s : Rep) (hs : normal r m.f3 m.f7 m.f5 = s) :
    Calls Try.prog 100 #[.pointer (some ⟨g, 0, none⟩), .agg (Kx.mA m A c)] w fun e w' => e = .returned (.tuple #[]) ∧ ∃ v5' v7' v8' v9' v10' vout' : Value, Mem w0 w' (blk g 99 (Wa.wc s.f0 s.f1 s.f2 s.f3 s.f4 v5' s.f6 v7' v8' v9' v10' s.f11 s.f12 vout') :: row kM 29 vout' [toOne s m.f1 ⟨2, 0, 0, 0, (s.f5.length : Int), 0, 0, []⟩] :: Kx.sL s v5' v7' v8' v9' v10' F) := by
  obtain ⟨B5, d5, rfl, _, _⟩ := hM.row_at 2 rfl
  obtain ⟨cx, hcx⟩ : ∃ cx : Int, (if r.f1 = 1 then (m.f7.length : Int) else min (max r.f6 m.f5) (m.f7.length : Int)) = cx := ⟨_, rfl⟩
  have HCX := Aside0.mk hcx
  have HSS := Aside0.mk hs
  clear hcx hs
  have e1 : decide (m.f3 < r.f2) = false := by simpa using h1
  clear h1
  have e2 : (m.f3 % r.f1 == m.f1) = true := by simpa using h2
  have e2' : (m.f3 % r.f1 != m.f1) = false := by simpa using h2
  clear h2
  have e3 : (m.f3 == r.f2) = true := by simpa using h3
  clear h3
  have e4 : (r.f4 == 0) = false := by simpa using h4
  clear h4
  have HL := Aside0.mk hl
  have HLN := Aside0.mk hln
  have HV := Aside0.mk (show 0 ≤ m.f3 ∧ m.f3 ≤ 4611686018427387904 from ⟨hv, hv2⟩)
  have HI := Aside0.mk (show 0 ≤ r.f0 ∧ r.f0 < r.f1 ∧ r.f1 ≤ 5 from ⟨hi0, hi1, hn5⟩)
  have M1 := Aside0.mk (hM.alloc (Kx.mA m A c) 29)
  clear hM hl hln hv hv2 hi0 hi1 hn5
  have cM := blk_cell (M1.out.blk_at 0 rfl)
  have cG := blk_cell (M1.out.blk_at 1 rfl)
  unfold Wa.wc at cG
  go_enter Try.func100, Try.ntmps100
  go_wp2_with fail
  have hW := M1.out.blk_at 1 rfl
  go_quiet ((go_at_call 74; exact primary_quiet _ _ g r.f0 r.f1 r.f2 r.f3 r.f4 _ r.f6 _ _ _ _ r.f11 r.f12 _ m.f3 hW HV.out.1 HV.out.2 (by have := HI.out; omega) HI.out.2.2))
  clear hW
  go_wp2_with fail
  refine (normal_calls w0 _ _ g r.f0 r.f1 r.f2 r.f3 r.f4 _ r.f6 _ _ _ _ r.f11 r.f12 _ m.f3 m.f5 A c m.f7 (Mem.sel (ps := [_, _, _, _, _, _, _, _]) (F := F) [1, 0, 2, 3, 4, 5, 6, 7] 8 (M1.out.drewN _) rfl rfl) (fun w' b hq => Kd.C_below HL.out hq.below) (Nat.le_trans HLN.out (by decide)) HI.out.1 HI.out.2.1 HI.out.2.2 cx HCX.out).mono ?_
  rintro e wc ⟨vl, va, rfl, hM⟩
  obtain ⟨L5, l5, rfl, hl5, _⟩ := hM.row_at 2 rfl
  have M2 := Aside0.mk (Mem.sel (ps := [_, _, _, _, _, _, _, _, _, _]) (F := F) [0, 4, 3, 1, 2] 10 hM rfl rfl)
  clear hM M1 cM cG
  have HM0 := Aside0.mk (blk_cell (M2.out.blk_at 2 rfl))
  have HG0 := Aside0.mk (blk_cell (M2.out.blk_at 0 rfl))
  have cM := HM0.out
  have cG := HG0.out
  unfold Wa.wc at cG
  go_upto_region 3 with (fail)
  have M2D := Aside0.mk M2.out.drew
  have HS0 := Aside0.mk (show (∀ j : Nat, wc.drew.cell? ⟨w.heap.size, j, none⟩ = wc.cell? ⟨w.heap.size, j, none⟩) ∧ (∀ j : Nat, j < 13 → wc.drew.cell? ⟨g, j, none⟩ = wc.cell? ⟨g, j, none⟩) from ⟨fun _ => rfl, fun _ _ => rfl⟩)
  have H9 := HS0
  go_region_held3 (fun w' => (∀ j : Nat, w'.cell? ⟨w.heap.size, j, none⟩ = wc.cell? ⟨w.heap.size, j, none⟩) ∧ (∀ j : Nat, j < 13 → w'.cell? ⟨g, j, none⟩ = wc.cell? ⟨g, j, none⟩)) (first | with_reducible exact HS0.out | with_reducible exact H9.out | fail) ((go_at_call 94; refine (send_calls w0 _ emp _ g r.f0 r.f1 m.f3 m.f3 0 _ cx va (.slice none 0 0) (.slice none 0 0) (.slice none 0 0) (-1) 0 (.slice none 0 0) [] m.f1 2 0 0 0 (m.f7.length : Int) 0 0 none 0 [] (Mem.sel (ps := [_, _, _, _, _, _]) (F := F) [0, 1, 2, 3, 4, 5] 6 (Mem.cons_emp M2D.out) rfl rfl) (Rd.old (C_zero _)) (by decide) (by decide) (by decide)).mono ?_; rintro e w1 ⟨vo, rfl, hM⟩; have M3 := Aside0.mk (Mem.sel (ps := [_, _, _, _, _, _]) (F := F) [1, 2, 3, 4, 5] 6 hM rfl rfl); clear hM; have H9 := Aside0.mk (show (∀ j : Nat, w1.cell? ⟨w.heap.size, j, none⟩ = wc.cell? ⟨w.heap.size, j, none⟩) ∧ (∀ j : Nat, j < 13 → w1.cell? ⟨g, j, none⟩ = wc.cell? ⟨g, j, none⟩) from ⟨fun j => (blk_cell (M3.out.blk_at 2 rfl) j).trans (HM0.out j).symm, fun j hj => (blk_cell (M3.out.blk_at 0 rfl) j).trans (Eq.trans (wc_low _ _ _ _ _ _ _ _ _ _ _ _ _ _ _ j hj) (HG0.out j).symm)⟩)))
  go_wp2
  first | go_end0 | (refine bodyPost_ret (results_none rfl _ _ _) rfl ?_)
  have hs := HSS.out
  have hcx := HCX.out
  subst hs
  subst hcx
  exact ⟨rfl, _, _, _, _, _, _, Mem.sel (ps := [_, _, _, _, _, _, _, _]) (F := F) [3, 4, 7, 6, 1, 2, 0] 8 (Mem.row_nil (Mem.row_nil (Mem.row_nil M3.out (Kd.int .i64) 3) (Kd.int .i64) 3) kE 102) rfl rfl⟩
end Go.Proofs.Ytggbjokhniigkaa.Tv
namespace Go.Proofs.Ytggbjokhniigkaa.Tc
open Ty Go.RowKit YtggbjokhniigkaaW.PrintWords YtggbjokhniigkaaW.PrintLast YtggbjokhniigkaaW.PrintMore Mx Kx Wa Tk We Sa Tl Wj Wd
theorem commit_calls (w0 w : World) (F : List Res) (g : Nat) (i n vw nr hw : Int) (A5 : Option Addr) (n5 c5 : Nat) (cm : Int) (va vv vo vb : Value) (bv bd : Int) (vout : Value) (k : Int)
    (hM : Mem w0 w (blk g 99 (Wa.wc i n vw nr hw (.slice A5 n5 c5) cm va vv vo vb bv bd vout) :: F)) (x : Int) (hx : max cm (min k (n5 : Int)) = x) :
    Calls Try.prog 106 #[.pointer (some ⟨g, 0, none⟩), .int .i64 k] w fun e w' => e = .returned (.tuple #[]) ∧ Mem w0 w' (blk g 99 (Wa.wc i n vw nr hw (.slice A5 n5 c5) x va vv vo vb bv bd vout) :: F) := by
  have HX := Aside0.mk hx
  have M1 := Aside0.mk hM
  have cG := blk_cell (hM.blk_at 0 rfl)
  have fG := blk_frozen (hM.blk_at 0 rfl)
  have hg := blk_lt (hM.blk_at 0 rfl)
  unfold Wa.wc at cG
  clear hM hx
  go_enter Try.func106, Try.ntmps106
  go_region
  all_goals
    go_wp2_with fail
    all_goals
      first | go_end0 | (refine bodyPost_ret (results_none rfl _ _ _) rfl ?_)
      have hx := HX.out
      clear cG fG hg
      first
        | (have e : x = (n5 : Int) := by omega
           subst e
           exact ⟨rfl, (M1.out.set 0 rfl 6 (.int .i64 (n5 : Int))).drew⟩)
        | (have e : x = cm := by omega
           subst e
           exact ⟨rfl, (M1.out.set 0 rfl 6 (.int .i64 x)).drew⟩)
        | (have e : x = k := by omega
           subst e
           exact ⟨rfl, (M1.out.set 0 rfl 6 (.int .i64 x)).drew⟩)
theorem prep_n1 (w0 w : World) (F : List Res) (g : Nat) (r : Rep) (m : Msg) (v5 v7 v8 v9 v10 : Value) (A : Option Addr) (c : Nat) (hM : Mem w0 w (blk g 99 (Wa.wc r.f0 r.f1 r.f2 r.f3 r.f4 v5 r.f6 v7 v8 v9 v10 r.f11 r.f12 (.slice none 0 0)) :: row kM 29 (.slice none 0 0) [] :: Kx.sL r v5 v7 v8 v9 v10 F)) (hv : 0 ≤ m.f3) (hv2 : m.f3 ≤ 4611686018427387904) (hn0 : 0 < r.f1) (hn5 : r.f1 ≤ 5) (h1 : m.f3 < r.f2) :
    Calls Try.prog 96 #[.pointer (some ⟨g, 0, none⟩), .agg (Kx.mA m A c)] w fun e w' => e = .returned (.tuple #[]) ∧ ∃ v5' v7' v8' v9' v10' vout' : Value, Mem w0 w' (blk g 99 (Wa.wc r.f0 r.f1 r.f2 r.f3 r.f4 v5' r.f6 v7' v8' v9' v10' r.f11 r.f12 vout') :: row kM 29 vout' [] :: Kx.sL r v5' v7' v8' v9' v10' F) := by
  obtain ⟨B5, d5, rfl, _, _⟩ := hM.row_at 2 rfl
  have e1 : decide (m.f3 < r.f2) = true := by simpa using h1
  clear h1
  have HV := Aside0.mk (show 0 ≤ m.f3 ∧ m.f3 ≤ 4611686018427387904 from ⟨hv, hv2⟩)
  have HI := Aside0.mk (show 0 < r.f1 ∧ r.f1 ≤ 5 from ⟨hn0, hn5⟩)
  have M1 := Aside0.mk (hM.alloc (Kx.mA m A c) 29)
  clear hM hv hv2 hn0 hn5
  have cM := blk_cell (M1.out.blk_at 0 rfl)
  have cG := blk_cell (M1.out.blk_at 1 rfl)
  unfold Wa.wc at cG
  go_enter Try.func96, Try.ntmps96
  go_wp2_with fail
  have hW := M1.out.blk_at 1 rfl
  go_quiet ((go_at_call 74; exact primary_quiet _ _ g r.f0 r.f1 r.f2 r.f3 r.f4 _ r.f6 _ _ _ _ r.f11 r.f12 _ m.f3 hW HV.out.1 HV.out.2 HI.out.1 HI.out.2))
  clear hW
  go_wp2
  first | go_end0 | (refine bodyPost_ret (results_none rfl _ _ _) rfl ?_)
  exact ⟨rfl, _, _, _, _, _, _, Mem.sel (ps := [_, _, _, _, _, _, _, _]) (F := F) [1, 2, 3, 4, 5, 6, 7] 8 (M1.out.drewN _) rfl rfl⟩
theorem prep_n2 (w0 w : World) (F : List Res) (g : Nat) (r : Rep) (m : Msg) (v5 v7 v8 v9 v10 : Value) (A : Option Addr) (c : Nat) (hM : Mem w0 w (blk g 99 (Wa.wc r.f0 r.f1 r.f2 r.f3 r.f4 v5 r.f6 v7 v8 v9 v10 r.f11 r.f12 (.slice none 0 0)) :: row kM 29 (.slice none 0 0) [] :: Kx.sL r v5 v7 v8 v9 v10 F)) (hv : 0 ≤ m.f3) (hv2 : m.f3 ≤ 4611686018427387904) (hn0 : 0 < r.f1) (hn5 : r.f1 ≤ 5) (h1 : ¬ m.f3 < r.f2) (h2 : ¬ m.f3 % r.f1 = m.f1) :
    Calls Try.prog 96 #[.pointer (some ⟨g, 0, none⟩), .agg (Kx.mA m A c)] w fun e w' => e = .returned (.tuple #[]) ∧ ∃ v5' v7' v8' v9' v10' vout' : Value, Mem w0 w' (blk g 99 (Wa.wc r.f0 r.f1 r.f2 r.f3 r.f4 v5' r.f6 v7' v8' v9' v10' r.f11 r.f12 vout') :: row kM 29 vout' [] :: Kx.sL r v5' v7' v8' v9' v10' F) := by
  obtain ⟨B5, d5, rfl, _, _⟩ := hM.row_at 2 rfl
  have e1 : decide (m.f3 < r.f2) = false := by simpa using h1
  clear h1
  have e2 : (m.f3 % r.f1 == m.f1) = false := by simpa using h2
  have e2' : (m.f3 % r.f1 != m.f1) = true := by simpa using h2
  clear h2
  have HV := Aside0.mk (show 0 ≤ m.f3 ∧ m.f3 ≤ 4611686018427387904 from ⟨hv, hv2⟩)
  have HI := Aside0.mk (show 0 < r.f1 ∧ r.f1 ≤ 5 from ⟨hn0, hn5⟩)
  have M1 := Aside0.mk (hM.alloc (Kx.mA m A c) 29)
  clear hM hv hv2 hn0 hn5
  have cM := blk_cell (M1.out.blk_at 0 rfl)
  have cG := blk_cell (M1.out.blk_at 1 rfl)
  unfold Wa.wc at cG
  go_enter Try.func96, Try.ntmps96
  go_wp2_with fail
  have hW := M1.out.blk_at 1 rfl
  go_quiet ((go_at_call 74; exact primary_quiet _ _ g r.f0 r.f1 r.f2 r.f3 r.f4 _ r.f6 _ _ _ _ r.f11 r.f12 _ m.f3 hW HV.out.1 HV.out.2 HI.out.1 HI.out.2))
  clear hW
  go_wp2
  first | go_end0 | (refine bodyPost_ret (results_none rfl _ _ _) rfl ?_)
  exact ⟨rfl, _, _, _, _, _, _, Mem.sel (ps := [_, _, _, _, _, _, _, _]) (F := F) [1, 2, 3, 4, 5, 6, 7] 8 (M1.out.drewN _) rfl rfl⟩
theorem prep_a1 (w0 w : World) (F : List Res) (g : Nat) (r : Rep) (m : Msg) (v5 v7 v8 v9 v10 : Value) (A : Option Addr) (c : Nat) (hM : Mem w0 w (blk g 99 (Wa.wc r.f0 r.f1 r.f2 r.f3 r.f4 v5 r.f6 v7 v8 v9 v10 r.f11 r.f12 (.slice none 0 0)) :: row kM 29 (.slice none 0 0) [] :: Kx.sL r v5 v7 v8 v9 v10 F)) (hv : 0 ≤ m.f3) (hv2 : m.f3 ≤ 4611686018427387904) (hn0 : 0 < r.f1) (hn5 : r.f1 ≤ 5) (h1 : ¬ m.f3 < r.f2) (h2 : m.f3 % r.f1 = m.f1) (h3 : r.f2 < m.f3) (s : Rep) (hs : { clear r with f2 := m.f3, f4 := 2 } = s) :
    Calls Try.prog 96 #[.pointer (some ⟨g, 0, none⟩), .agg (Kx.mA m A c)] w fun e w' => e = .returned (.tuple #[]) ∧ ∃ v5' v7' v8' v9' v10' vout' : Value, Mem w0 w' (blk g 99 (Wa.wc s.f0 s.f1 s.f2 s.f3 s.f4 v5' s.f6 v7' v8' v9' v10' s.f11 s.f12 vout') :: row kM 29 vout' [toOne s m.f1 ⟨7, 0, 0, 0, s.f6, 0, 0, []⟩] :: Kx.sL s v5' v7' v8' v9' v10' F) := by
  obtain ⟨B5, d5, rfl, _, _⟩ := hM.row_at 2 rfl
  have HSS := Aside0.mk hs
  clear hs
  have e1 : decide (m.f3 < r.f2) = false := by simpa using h1
  clear h1
  have e2 : (m.f3 % r.f1 == m.f1) = true := by simpa using h2
  have e2' : (m.f3 % r.f1 != m.f1) = false := by simpa using h2
  clear h2
  have e3 : decide (r.f2 < m.f3) = true := by simpa using h3
  clear h3
  have HV := Aside0.mk (show 0 ≤ m.f3 ∧ m.f3 ≤ 4611686018427387904 from ⟨hv, hv2⟩)
  have HI := Aside0.mk (show 0 < r.f1 ∧ r.f1 ≤ 5 from ⟨hn0, hn5⟩)
  have M1 := Aside0.mk (hM.alloc (Kx.mA m A c) 29)
  clear hM hv hv2 hn0 hn5
  have cM := blk_cell (M1.out.blk_at 0 rfl)
  have cG := blk_cell (M1.out.blk_at 1 rfl)
  unfold Wa.wc at cG
  go_enter Try.func96, Try.ntmps96
  go_wp2_with fail
  have hW := M1.out.blk_at 1 rfl
  go_quiet ((go_at_call 74; exact primary_quiet _ _ g r.f0 r.f1 r.f2 r.f3 r.f4 _ r.f6 _ _ _ _ r.f11 r.f12 _ m.f3 hW HV.out.1 HV.out.2 HI.out.1 HI.out.2))
  clear hW
  go_wp2_with fail
  have fG := blk_frozen (M1.out.blk_at 1 rfl)
  have hg := blk_lt (M1.out.blk_at 1 rfl)
  go_quiet (fail)
  go_wp2_with fail
  refine (clear_calls w0 _ _ g r.f0 r.f1 m.f3 r.f3 2 _ r.f6 _ _ _ _ r.f11 r.f12 _ (Mem.sel (ps := [_, _, _, _, _, _, _, _]) (F := F) [1, 0, 2, 3, 4, 5, 6, 7] 8 (((M1.out.drewN _).set 1 rfl 2 (.int .i64 m.f3)).set 1 rfl 4 (.int .i64 2)) rfl rfl)).mono ?_
  rintro e wc ⟨rfl, hM⟩
  have M2 := Aside0.mk (Mem.sel (ps := [_, _, _, _, _, _, _, _]) (F := F) [0, 2, 1, 3, 4] 8 hM rfl rfl)
  clear hM M1 cM cG fG hg
  have HM0 := Aside0.mk (blk_cell (M2.out.blk_at 2 rfl))
  have HG0 := Aside0.mk (blk_cell (M2.out.blk_at 0 rfl))
  have cM := HM0.out
  have cG := HG0.out
  unfold Wa.wc at cG
  go_upto_region 5 with (fail)
  have M2D := Aside0.mk M2.out.drew
  have HS0 := Aside0.mk (show (∀ j : Nat, wc.drew.cell? ⟨w.heap.size, j, none⟩ = wc.cell? ⟨w.heap.size, j, none⟩) ∧ (∀ j : Nat, j < 13 → wc.drew.cell? ⟨g, j, none⟩ = wc.cell? ⟨g, j, none⟩) from ⟨fun _ => rfl, fun _ _ => rfl⟩)
  have H9 := HS0
  go_region_held3 (fun w' => (∀ j : Nat, w'.cell? ⟨w.heap.size, j, none⟩ = wc.cell? ⟨w.heap.size, j, none⟩) ∧ (∀ j : Nat, j < 13 → w'.cell? ⟨g, j, none⟩ = wc.cell? ⟨g, j, none⟩)) (first | with_reducible exact HS0.out | with_reducible exact H9.out | fail) ((go_at_call 94; refine (send_calls w0 _ emp _ g r.f0 r.f1 m.f3 r.f3 2 _ r.f6 v7 (.slice none 0 0) (.slice none 0 0) (.slice none 0 0) (-1) 0 (.slice none 0 0) [] m.f1 7 0 0 0 r.f6 0 0 none 0 [] (Mem.sel (ps := [_, _, _, _, _, _]) (F := F) [0, 1, 2, 3, 4, 5] 6 (Mem.cons_emp M2D.out) rfl rfl) (Rd.old (C_zero _)) (by decide) (by decide) (by decide)).mono ?_; rintro e w1 ⟨vo, rfl, hM⟩; have M3 := Aside0.mk (Mem.sel (ps := [_, _, _, _, _, _]) (F := F) [1, 2, 3, 4, 5] 6 hM rfl rfl); clear hM; have H9 := Aside0.mk (show (∀ j : Nat, w1.cell? ⟨w.heap.size, j, none⟩ = wc.cell? ⟨w.heap.size, j, none⟩) ∧ (∀ j : Nat, j < 13 → w1.cell? ⟨g, j, none⟩ = wc.cell? ⟨g, j, none⟩) from ⟨fun j => (blk_cell (M3.out.blk_at 2 rfl) j).trans (HM0.out j).symm, fun j hj => (blk_cell (M3.out.blk_at 0 rfl) j).trans (Eq.trans (wc_low _ _ _ _ _ _ _ _ _ _ _ _ _ _ _ j hj) (HG0.out j).symm)⟩)))
  go_wp2
  first | go_end0 | (refine bodyPost_ret (results_none rfl _ _ _) rfl ?_)
  have hs := HSS.out
  subst hs
  exact ⟨rfl, _, _, _, _, _, _, Mem.sel (ps := [_, _, _, _, _, _, _, _]) (F := F) [3, 4, 6, 7, 1, 2, 0] 8 (Mem.row_nil (Mem.row_nil (Mem.row_nil M3.out (Kd.int .i64) 3) (Kd.int .i64) 3) kE 102) rfl rfl⟩
theorem prep_a2 (w0 w : World) (F : List Res) (g : Nat) (r : Rep) (m : Msg) (v5 v7 v8 v9 v10 : Value) (A : Option Addr) (c : Nat) (hM : Mem w0 w (blk g 99 (Wa.wc r.f0 r.f1 r.f2 r.f3 r.f4 v5 r.f6 v7 v8 v9 v10 r.f11 r.f12 (.slice none 0 0)) :: row kM 29 (.slice none 0 0) [] :: Kx.sL r v5 v7 v8 v9 v10 F)) (hv : 0 ≤ m.f3) (hv2 : m.f3 ≤ 4611686018427387904) (hn0 : 0 < r.f1) (hn5 : r.f1 ≤ 5) (h1 : ¬ m.f3 < r.f2) (h2 : m.f3 % r.f1 = m.f1) (h3 : ¬ r.f2 < m.f3) (h4 : ¬ r.f4 = 0) (s : Rep) (hs : { clear r with f2 := m.f3, f4 := 2 } = s) :
    Calls Try.prog 96 #[.pointer (some ⟨g, 0, none⟩), .agg (Kx.mA m A c)] w fun e w' => e = .returned (.tuple #[]) ∧ ∃ v5' v7' v8' v9' v10' vout' : Value, Mem w0 w' (blk g 99 (Wa.wc s.f0 s.f1 s.f2 s.f3 s.f4 v5' s.f6 v7' v8' v9' v10' s.f11 s.f12 vout') :: row kM 29 vout' [toOne s m.f1 ⟨7, 0, 0, 0, s.f6, 0, 0, []⟩] :: Kx.sL s v5' v7' v8' v9' v10' F) := by
  obtain ⟨B5, d5, rfl, _, _⟩ := hM.row_at 2 rfl
  have HSS := Aside0.mk hs
  clear hs
  have e1 : decide (m.f3 < r.f2) = false := by simpa using h1
  clear h1
  have e2 : (m.f3 % r.f1 == m.f1) = true := by simpa using h2
  have e2' : (m.f3 % r.f1 != m.f1) = false := by simpa using h2
  clear h2
  have e3 : decide (r.f2 < m.f3) = false := by simpa using h3
  clear h3
  have e4 : (r.f4 == 0) = false := by simpa using h4
  have e4' : (r.f4 != 0) = true := by simpa using h4
  clear h4
  have HV := Aside0.mk (show 0 ≤ m.f3 ∧ m.f3 ≤ 4611686018427387904 from ⟨hv, hv2⟩)
  have HI := Aside0.mk (show 0 < r.f1 ∧ r.f1 ≤ 5 from ⟨hn0, hn5⟩)
  have M1 := Aside0.mk (hM.alloc (Kx.mA m A c) 29)
  clear hM hv hv2 hn0 hn5
  have cM := blk_cell (M1.out.blk_at 0 rfl)
  have cG := blk_cell (M1.out.blk_at 1 rfl)
  unfold Wa.wc at cG
  go_enter Try.func96, Try.ntmps96
  go_wp2_with fail
  have hW := M1.out.blk_at 1 rfl
  go_quiet ((go_at_call 74; exact primary_quiet _ _ g r.f0 r.f1 r.f2 r.f3 r.f4 _ r.f6 _ _ _ _ r.f11 r.f12 _ m.f3 hW HV.out.1 HV.out.2 HI.out.1 HI.out.2))
  clear hW
  go_wp2_with fail
  have fG := blk_frozen (M1.out.blk_at 1 rfl)
  have hg := blk_lt (M1.out.blk_at 1 rfl)
  go_quiet (fail)
  go_wp2_with fail
  refine (clear_calls w0 _ _ g r.f0 r.f1 m.f3 r.f3 2 _ r.f6 _ _ _ _ r.f11 r.f12 _ (Mem.sel (ps := [_, _, _, _, _, _, _, _]) (F := F) [1, 0, 2, 3, 4, 5, 6, 7] 8 (((M1.out.drewN _).set 1 rfl 2 (.int .i64 m.f3)).set 1 rfl 4 (.int .i64 2)) rfl rfl)).mono ?_
  rintro e wc ⟨rfl, hM⟩
  have M2 := Aside0.mk (Mem.sel (ps := [_, _, _, _, _, _, _, _]) (F := F) [0, 2, 1, 3, 4] 8 hM rfl rfl)
  clear hM M1 cM cG fG hg
  have HM0 := Aside0.mk (blk_cell (M2.out.blk_at 2 rfl))
  have HG0 := Aside0.mk (blk_cell (M2.out.blk_at 0 rfl))
  have cM := HM0.out
  have cG := HG0.out
  unfold Wa.wc at cG
  go_upto_region 5 with (fail)
  have M2D := Aside0.mk M2.out.drew
  have HS0 := Aside0.mk (show (∀ j : Nat, wc.drew.cell? ⟨w.heap.size, j, none⟩ = wc.cell? ⟨w.heap.size, j, none⟩) ∧ (∀ j : Nat, j < 13 → wc.drew.cell? ⟨g, j, none⟩ = wc.cell? ⟨g, j, none⟩) from ⟨fun _ => rfl, fun _ _ => rfl⟩)
  have H9 := HS0
  go_region_held3 (fun w' => (∀ j : Nat, w'.cell? ⟨w.heap.size, j, none⟩ = wc.cell? ⟨w.heap.size, j, none⟩) ∧ (∀ j : Nat, j < 13 → w'.cell? ⟨g, j, none⟩ = wc.cell? ⟨g, j, none⟩)) (first | with_reducible exact HS0.out | with_reducible exact H9.out | fail) ((go_at_call 94; refine (send_calls w0 _ emp _ g r.f0 r.f1 m.f3 r.f3 2 _ r.f6 v7 (.slice none 0 0) (.slice none 0 0) (.slice none 0 0) (-1) 0 (.slice none 0 0) [] m.f1 7 0 0 0 r.f6 0 0 none 0 [] (Mem.sel (ps := [_, _, _, _, _, _]) (F := F) [0, 1, 2, 3, 4, 5] 6 (Mem.cons_emp M2D.out) rfl rfl) (Rd.old (C_zero _)) (by decide) (by decide) (by decide)).mono ?_; rintro e w1 ⟨vo, rfl, hM⟩; have M3 := Aside0.mk (Mem.sel (ps := [_, _, _, _, _, _]) (F := F) [1, 2, 3, 4, 5] 6 hM rfl rfl); clear hM; have H9 := Aside0.mk (show (∀ j : Nat, w1.cell? ⟨w.heap.size, j, none⟩ = wc.cell? ⟨w.heap.size, j, none⟩) ∧ (∀ j : Nat, j < 13 → w1.cell? ⟨g, j, none⟩ = wc.cell? ⟨g, j, none⟩) from ⟨fun j => (blk_cell (M3.out.blk_at 2 rfl) j).trans (HM0.out j).symm, fun j hj => (blk_cell (M3.out.blk_at 0 rfl) j).trans (Eq.trans (wc_low _ _ _ _ _ _ _ _ _ _ _ _ _ _ _ j hj) (HG0.out j).symm)⟩)))
  go_wp2
  first | go_end0 | (refine bodyPost_ret (results_none rfl _ _ _) rfl ?_)
  have hs := HSS.out
  subst hs
  exact ⟨rfl, _, _, _, _, _, _, Mem.sel (ps := [_, _, _, _, _, _, _, _]) (F := F) [3, 4, 6, 7, 1, 2, 0] 8 (Mem.row_nil (Mem.row_nil (Mem.row_nil M3.out (Kd.int .i64) 3) (Kd.int .i64) 3) kE 102) rfl rfl⟩
end Go.Proofs.Ytggbjokhniigkaa.Tc
namespace Go.Proofs.Ytggbjokhniigkaa.Tc3
open Tc Ty Go.RowKit YtggbjokhniigkaaW.PrintWords YtggbjokhniigkaaW.PrintLast YtggbjokhniigkaaW.PrintMore Mx Kx Wa Tk We Sa Tl Wj Wd
theorem prep_c0 (w0 w : World) (F : List Res) (g : Nat) (r : Rep) (m : Msg) (v5 v7 v8 v9 v10 : Value) (A : Option Addr) (c : Nat) (hM : Mem w0 w (blk g 99 (Wa.wc r.f0 r.f1 r.f2 r.f3 r.f4 v5 r.f6 v7 v8 v9 v10 r.f11 r.f12 (.slice none 0 0)) :: row kM 29 (.slice none 0 0) [] :: Kx.sL r v5 v7 v8 v9 v10 F)) (hv : 0 ≤ m.f3) (hv2 : m.f3 ≤ 4611686018427387904) (hn0 : 0 < r.f1) (hn5 : r.f1 ≤ 5) (hk : ¬ m.f0 = 1) (h1 : ¬ m.f3 < r.f2) (h2 : m.f3 % r.f1 = m.f1) (h3 : ¬ r.f2 < m.f3) (h4 : r.f4 = 0) (h5 : ¬ (r.f5.length : Int) < m.f5) (s : Rep) (hs : raise r m.f5 = s) :
    Calls Try.prog 96 #[.pointer (some ⟨g, 0, none⟩), .agg (Kx.mA m A c)] w fun e w' => e = .returned (.tuple #[]) ∧ ∃ v5' v7' v8' v9' v10' vout' : Value, Mem w0 w' (blk g 99 (Wa.wc s.f0 s.f1 s.f2 s.f3 s.f4 v5' s.f6 v7' v8' v9' v10' s.f11 s.f12 vout') :: row kM 29 vout' [] :: Kx.sL s v5' v7' v8' v9' v10' F) := by
  obtain ⟨B5, d5, rfl, _, _⟩ := hM.row_at 2 rfl
  obtain ⟨cx, hcx⟩ : ∃ cx : Int, max r.f6 (min m.f5 (r.f5.length : Int)) = cx := ⟨_, rfl⟩
  have HCX := Aside0.mk hcx
  have HSS := Aside0.mk hs
  clear hs hcx
  have e0 : (m.f0 == 1) = false := by simpa using hk
  clear hk
  have e1 : decide (m.f3 < r.f2) = false := by simpa using h1
  clear h1
  have e2 : (m.f3 % r.f1 == m.f1) = true := by simpa using h2
  have e2' : (m.f3 % r.f1 != m.f1) = false := by simpa using h2
  clear h2
  have e3 : decide (r.f2 < m.f3) = false := by simpa using h3
  clear h3
  have e4 : (r.f4 == 0) = true := by simpa using h4
  have e4' : (r.f4 != 0) = false := by simpa using h4
  clear h4
  have e5 : decide ((r.f5.length : Int) < m.f5) = false := by simpa using h5
  clear h5
  have HV := Aside0.mk (show 0 ≤ m.f3 ∧ m.f3 ≤ 4611686018427387904 from ⟨hv, hv2⟩)
  have HI := Aside0.mk (show 0 < r.f1 ∧ r.f1 ≤ 5 from ⟨hn0, hn5⟩)
  have M1 := Aside0.mk (hM.alloc (Kx.mA m A c) 29)
  clear hM hv hv2 hn0 hn5
  have cM := blk_cell (M1.out.blk_at 0 rfl)
  have cG := blk_cell (M1.out.blk_at 1 rfl)
  unfold Wa.wc at cG
  go_enter Try.func96, Try.ntmps96
  go_wp2_with fail
  have hW := M1.out.blk_at 1 rfl
  go_quiet ((go_at_call 74; exact primary_quiet _ _ g r.f0 r.f1 r.f2 r.f3 r.f4 _ r.f6 _ _ _ _ r.f11 r.f12 _ m.f3 hW HV.out.1 HV.out.2 HI.out.1 HI.out.2))
  clear hW
  go_wp2_with fail
  go_quiet (fail)
  go_wp2_with fail
  go_quiet (fail)
  go_wp2_with fail
  refine (commit_calls w0 _ _ g r.f0 r.f1 r.f2 r.f3 r.f4 B5 r.f5.length d5 r.f6 _ _ _ _ r.f11 r.f12 _ m.f5 (Mem.sel (ps := [_, _, _, _, _, _, _, _]) (F := F) [1, 0, 2, 3, 4, 5, 6, 7] 8 (M1.out.drewN _) rfl rfl) cx HCX.out).mono ?_
  rintro e wc ⟨rfl, hM⟩
  have M2 := Aside0.mk (Mem.sel (ps := [_, _, _, _, _, _, _, _]) (F := F) [0, 2, 1, 3, 4, 5, 6, 7] 8 hM rfl rfl)
  clear hM M1 cM cG
  have cM := blk_cell (M2.out.blk_at 2 rfl)
  have cG := blk_cell (M2.out.blk_at 0 rfl)
  unfold Wa.wc at cG
  go_wp2_with fail
  have M3 := M2
  first | go_end0 | (refine bodyPost_ret (results_none rfl _ _ _) rfl ?_)
  have hs := HSS.out
  have hcx := HCX.out
  subst hs
  subst hcx
  exact ⟨rfl, _, _, _, _, _, _, Mem.sel (ps := [_, _, _, _, _, _, _, _]) (F := F) [0, 1, 3, 4, 5, 6, 7] 8 M3.out rfl rfl⟩
theorem prep_c1 (w0 w : World) (F : List Res) (g : Nat) (r : Rep) (m : Msg) (v5 v7 v8 v9 v10 : Value) (A : Option Addr) (c : Nat) (hM : Mem w0 w (blk g 99 (Wa.wc r.f0 r.f1 r.f2 r.f3 r.f4 v5 r.f6 v7 v8 v9 v10 r.f11 r.f12 (.slice none 0 0)) :: row kM 29 (.slice none 0 0) [] :: Kx.sL r v5 v7 v8 v9 v10 F)) (hv : 0 ≤ m.f3) (hv2 : m.f3 ≤ 4611686018427387904) (hn0 : 0 < r.f1) (hn5 : r.f1 ≤ 5) (hk : ¬ m.f0 = 1) (h1 : ¬ m.f3 < r.f2) (h2 : m.f3 % r.f1 = m.f1) (h3 : ¬ r.f2 < m.f3) (h4 : r.f4 = 0) (h5 : (r.f5.length : Int) < m.f5) (s : Rep) (hs : raise r m.f5 = s) :
    Calls Try.prog 96 #[.pointer (some ⟨g, 0, none⟩), .agg (Kx.mA m A c)] w fun e w' => e = .returned (.tuple #[]) ∧ ∃ v5' v7' v8' v9' v10' vout' : Value, Mem w0 w' (blk g 99 (Wa.wc s.f0 s.f1 s.f2 s.f3 s.f4 v5' s.f6 v7' v8' v9' v10' s.f11 s.f12 vout') :: row kM 29 vout' [toOne s m.f1 ⟨7, 0, 0, 0, (s.f5.length : Int), 0, 0, []⟩] :: Kx.sL s v5' v7' v8' v9' v10' F) := by
  obtain ⟨B5, d5, rfl, _, _⟩ := hM.row_at 2 rfl
  obtain ⟨cx, hcx⟩ : ∃ cx : Int, max r.f6 (min m.f5 (r.f5.length : Int)) = cx := ⟨_, rfl⟩
  have HCX := Aside0.mk hcx
  have HSS := Aside0.mk hs
  clear hs hcx
  have e0 : (m.f0 == 1) = false := by simpa using hk
  clear hk
  have e1 : decide (m.f3 < r.f2) = false := by simpa using h1
  clear h1
  have e2 : (m.f3 % r.f1 == m.f1) = true := by simpa using h2
  have e2' : (m.f3 % r.f1 != m.f1) = false := by simpa using h2
  clear h2
  have e3 : decide (r.f2 < m.f3) = false := by simpa using h3
  clear h3
  have e4 : (r.f4 == 0) = true := by simpa using h4
  have e4' : (r.f4 != 0) = false := by simpa using h4
  clear h4
  have e5 : decide ((r.f5.length : Int) < m.f5) = true := by simpa using h5
  clear h5
  have HV := Aside0.mk (show 0 ≤ m.f3 ∧ m.f3 ≤ 4611686018427387904 from ⟨hv, hv2⟩)
  have HI := Aside0.mk (show 0 < r.f1 ∧ r.f1 ≤ 5 from ⟨hn0, hn5⟩)
  have M1 := Aside0.mk (hM.alloc (Kx.mA m A c) 29)
  clear hM hv hv2 hn0 hn5
  have cM := blk_cell (M1.out.blk_at 0 rfl)
  have cG := blk_cell (M1.out.blk_at 1 rfl)
  unfold Wa.wc at cG
  go_enter Try.func96, Try.ntmps96
  go_wp2_with fail
  have hW := M1.out.blk_at 1 rfl
  go_quiet ((go_at_call 74; exact primary_quiet _ _ g r.f0 r.f1 r.f2 r.f3 r.f4 _ r.f6 _ _ _ _ r.f11 r.f12 _ m.f3 hW HV.out.1 HV.out.2 HI.out.1 HI.out.2))
  clear hW
  go_wp2_with fail
  go_quiet (fail)
  go_wp2_with fail
  go_quiet (fail)
  go_wp2_with fail
  refine (commit_calls w0 _ _ g r.f0 r.f1 r.f2 r.f3 r.f4 B5 r.f5.length d5 r.f6 _ _ _ _ r.f11 r.f12 _ m.f5 (Mem.sel (ps := [_, _, _, _, _, _, _, _]) (F := F) [1, 0, 2, 3, 4, 5, 6, 7] 8 (M1.out.drewN _) rfl rfl) cx HCX.out).mono ?_
  rintro e wc ⟨rfl, hM⟩
  have M2 := Aside0.mk (Mem.sel (ps := [_, _, _, _, _, _, _, _]) (F := F) [0, 2, 1, 3, 4, 5, 6, 7] 8 hM rfl rfl)
  clear hM M1 cM cG
  have cM := blk_cell (M2.out.blk_at 2 rfl)
  have cG := blk_cell (M2.out.blk_at 0 rfl)
  unfold Wa.wc at cG
  go_wp2_with fail
  refine (send_calls w0 _ emp _ g r.f0 r.f1 r.f2 r.f3 r.f4 _ cx v7 v8 v9 v10 r.f11 r.f12 (.slice none 0 0) [] m.f1 7 0 0 0 (r.f5.length : Int) 0 0 none 0 [] (Mem.sel (ps := [_, _, _, _, _, _, _, _, _]) (F := F) [0, 1, 2, 3, 4, 5, 6, 7, 8] 9 (Mem.cons_emp M2.out) rfl rfl) (Rd.old (C_zero _)) (by decide) (by decide) (by decide)).mono ?_
  rintro e w1 ⟨vo, rfl, hM⟩
  have M3 := Aside0.mk (Mem.sel (ps := [_, _, _, _, _, _, _, _, _]) (F := F) [1, 2, 3, 4, 5, 6, 7, 8] 9 hM rfl rfl)
  clear hM
  go_wp2
  first | go_end0 | (refine bodyPost_ret (results_none rfl _ _ _) rfl ?_)
  have hs := HSS.out
  have hcx := HCX.out
  subst hs
  subst hcx
  exact ⟨rfl, _, _, _, _, _, _, Mem.sel (ps := [_, _, _, _, _, _, _, _]) (F := F) [0, 1, 3, 4, 5, 6, 7] 8 M3.out rfl rfl⟩
end Go.Proofs.Ytggbjokhniigkaa.Tc3
