/- Texts laid together: Td, Co, Pe. No condition. -/
import Derived.Deep.RegionHeld3
import Derived.Lib.AppendZeros
import Derived.Lib.AppendZerosOnto
import Derived.Deep.LoopGhost
import Derived.Test.YtggbjokhniigkaaGreatYTz11
set_option linter.unusedVariables false
set_option linter.unusedSimpArgs false
set_option maxRecDepth 100000
set_option maxHeartbeats 8000000
namespace Go.Proofs.YtggbjokhniigkaaGreat.Td
open Ty Go.RowKit YtggbjokhniigkaaGreatW.PrintWords YtggbjokhniigkaaGreatW.PrintLast YtggbjokhniigkaaGreatW.PrintMore Mx Kx Wa Tk Sa To Wd Wj
theorem prep11_n1 (w0 w : World) (F : List Res) (g : Nat) (r : Rep) (m : Msg) (v5 v7 v8 v9 v10 : Value) (A : Option Addr) (c : Nat) (hM : Mem w0 w (blk g 25 (qc r.f0 r.f1 r.f2 r.f3 r.f4 v5 r.f6 v7 v8 v9 v10 r.f11 r.f12) :: Kx.sL r v5 v7 v8 v9 v10 F)) (hv : 0 ≤ m.f3) (hv2 : m.f3 ≤ 4611686018427387904) (hn0 : 0 < r.f1) (hn5 : r.f1 ≤ 5) (h1 : m.f3 < r.f2) :
    Calls Tryz.prog 70 #[.pointer (some ⟨g, 0, none⟩), .agg (Kx.mA m A c)] w fun e w' => ∃ vout v5' v7' v8' v9' v10' : Value, e = .returned vout ∧ Mem w0 w' (blk g 25 (qc r.f0 r.f1 r.f2 r.f3 r.f4 v5' r.f6 v7' v8' v9' v10' r.f11 r.f12) :: row kE 68 v5' r.f5 :: row (Kd.int .i64) 3 v7' r.f7 :: row (Kd.int .i64) 3 v8' r.f8 :: row (Kd.int .i64) 3 v9' r.f9 :: row kE 68 v10' r.f10 :: row kM 27 vout [] :: F) := by
  obtain ⟨B5, d5, rfl, _, _⟩ := hM.row_at 1 rfl
  have e1 : decide (m.f3 < r.f2) = true := by simpa using h1
  clear h1
  have HV := Aside0.mk (show 0 ≤ m.f3 ∧ m.f3 ≤ 4611686018427387904 from ⟨hv, hv2⟩)
  have HI := Aside0.mk (show 0 < r.f1 ∧ r.f1 ≤ 5 from ⟨hn0, hn5⟩)
  have M1 := Aside0.mk (hM.alloc (Kx.mA m A c) 27)
  clear hM hv hv2 hn0 hn5
  have cM := blk_cell (M1.out.blk_at 0 rfl)
  have cG := blk_cell (M1.out.blk_at 1 rfl)
  unfold qc at cG
  have z1 : (r.f1 == 0) = false := by have := HI.out; simp; omega
  have z2 : ¬ r.f1 = 0 := by have := HI.out; omega
  have z3 : m.f3.tmod r.f1 = m.f3 % r.f1 := Int.tmod_eq_emod_of_nonneg HV.out.1
  go_enter Tryz.func70, Tryz.ntmps70
  go_wp2_with fail
  go_quiet (fail)
  clear z1 z2 z3
  go_wp2
  go_ret
  exact ⟨_, _, _, _, _, _, rfl, Mem.sel (ps := [_, _, _, _, _, _, _, _]) (F := F) [2, 3, 4, 5, 6, 7, 0] 8 (Mem.row_nil (M1.out.drewN _) kM 27) rfl rfl⟩
theorem prep11_n2 (w0 w : World) (F : List Res) (g : Nat) (r : Rep) (m : Msg) (v5 v7 v8 v9 v10 : Value) (A : Option Addr) (c : Nat) (hM : Mem w0 w (blk g 25 (qc r.f0 r.f1 r.f2 r.f3 r.f4 v5 r.f6 v7 v8 v9 v10 r.f11 r.f12) :: Kx.sL r v5 v7 v8 v9 v10 F)) (hv : 0 ≤ m.f3) (hv2 : m.f3 ≤ 4611686018427387904) (hn0 : 0 < r.f1) (hn5 : r.f1 ≤ 5) (h1 : ¬ m.f3 < r.f2) (h2 : ¬ m.f3 % r.f1 = m.f1) :
    Calls Tryz.prog 70 #[.pointer (some ⟨g, 0, none⟩), .agg (Kx.mA m A c)] w fun e w' => ∃ vout v5' v7' v8' v9' v10' : Value, e = .returned vout ∧ Mem w0 w' (blk g 25 (qc r.f0 r.f1 r.f2 r.f3 r.f4 v5' r.f6 v7' v8' v9' v10' r.f11 r.f12) :: row kE 68 v5' r.f5 :: row (Kd.int .i64) 3 v7' r.f7 :: row (Kd.int .i64) 3 v8' r.f8 :: row (Kd.int .i64) 3 v9' r.f9 :: row kE 68 v10' r.f10 :: row kM 27 vout [] :: F) := by
  obtain ⟨B5, d5, rfl, _, _⟩ := hM.row_at 1 rfl
  have e1 : decide (m.f3 < r.f2) = false := by simpa using h1
  clear h1
  have e2 : (m.f3 % r.f1 == m.f1) = false := by simpa using h2
  have e2' : (m.f3 % r.f1 != m.f1) = true := by simpa using h2
  clear h2
  have HV := Aside0.mk (show 0 ≤ m.f3 ∧ m.f3 ≤ 4611686018427387904 from ⟨hv, hv2⟩)
  have HI := Aside0.mk (show 0 < r.f1 ∧ r.f1 ≤ 5 from ⟨hn0, hn5⟩)
  have M1 := Aside0.mk (hM.alloc (Kx.mA m A c) 27)
  clear hM hv hv2 hn0 hn5
  have cM := blk_cell (M1.out.blk_at 0 rfl)
  have cG := blk_cell (M1.out.blk_at 1 rfl)
  unfold qc at cG
  have z1 : (r.f1 == 0) = false := by have := HI.out; simp; omega
  have z2 : ¬ r.f1 = 0 := by have := HI.out; omega
  have z3 : m.f3.tmod r.f1 = m.f3 % r.f1 := Int.tmod_eq_emod_of_nonneg HV.out.1
  go_enter Tryz.func70, Tryz.ntmps70
  go_wp2_with fail
  go_quiet (fail)
  clear z1 z2 z3
  go_wp2
  go_ret
  exact ⟨_, _, _, _, _, _, rfl, Mem.sel (ps := [_, _, _, _, _, _, _, _]) (F := F) [2, 3, 4, 5, 6, 7, 0] 8 (Mem.row_nil (M1.out.drewN _) kM 27) rfl rfl⟩
theorem prep11_a1 (w0 w : World) (F : List Res) (g : Nat) (r : Rep) (m : Msg) (v5 v7 v8 v9 v10 : Value) (A : Option Addr) (c : Nat) (hM : Mem w0 w (blk g 25 (qc r.f0 r.f1 r.f2 r.f3 r.f4 v5 r.f6 v7 v8 v9 v10 r.f11 r.f12) :: Kx.sL r v5 v7 v8 v9 v10 F)) (hv : 0 ≤ m.f3) (hv2 : m.f3 ≤ 4611686018427387904) (hn0 : 0 < r.f1) (hn5 : r.f1 ≤ 5) (h1 : ¬ m.f3 < r.f2) (h2 : m.f3 % r.f1 = m.f1) (h3 : r.f2 < m.f3) (s : Rep) (hs : { clear r with f2 := m.f3, f4 := 2 } = s) :
    Calls Tryz.prog 70 #[.pointer (some ⟨g, 0, none⟩), .agg (Kx.mA m A c)] w fun e w' => ∃ vout v5' v7' v8' v9' v10' : Value, e = .returned vout ∧ Mem w0 w' (blk g 25 (qc s.f0 s.f1 s.f2 s.f3 s.f4 v5' s.f6 v7' v8' v9' v10' s.f11 s.f12) :: row kE 68 v5' s.f5 :: row (Kd.int .i64) 3 v7' s.f7 :: row (Kd.int .i64) 3 v8' s.f8 :: row (Kd.int .i64) 3 v9' s.f9 :: row kE 68 v10' s.f10 :: row kM 27 vout [toOne s m.f1 ⟨7, 0, 0, 0, s.f6, 0, 0, []⟩] :: F) := by
  obtain ⟨B5, d5, rfl, _, _⟩ := hM.row_at 1 rfl
  have HSS := Aside0.mk hs
  clear hs
  have e1 : decide (m.f3 < r.f2) = false := by simpa using h1
  clear h1
  have e2 : (m.f3 % r.f1 == m.f1) = true := by simpa using h2
  have e2' : (m.f3 % r.f1 != m.f1) = false := by simpa using h2
  clear h2
  have e3 : decide (r.f2 < m.f3) = true := by simpa using h3
  clear h3
  have HV := Aside0.mk (show 0 ≤ m.f3 ∧ m.f3 ≤ 4611686018427387904 from ⟨hv, hv2⟩)
  have HI := Aside0.mk (show 0 < r.f1 ∧ r.f1 ≤ 5 from ⟨hn0, hn5⟩)
  have M1 := Aside0.mk (hM.alloc (Kx.mA m A c) 27)
  clear hM hv hv2 hn0 hn5
  have cM := blk_cell (M1.out.blk_at 0 rfl)
  have cG := blk_cell (M1.out.blk_at 1 rfl)
  unfold qc at cG
  have z1 : (r.f1 == 0) = false := by have := HI.out; simp; omega
  have z2 : ¬ r.f1 = 0 := by have := HI.out; omega
  have z3 : m.f3.tmod r.f1 = m.f3 % r.f1 := Int.tmod_eq_emod_of_nonneg HV.out.1
  go_enter Tryz.func70, Tryz.ntmps70
  go_wp2_with fail
  go_quiet (fail)
  clear z1 z2 z3
  go_wp2_with fail
  have fG := blk_frozen (M1.out.blk_at 1 rfl)
  have hg := blk_lt (M1.out.blk_at 1 rfl)
  go_quiet (fail)
  go_wp2_with fail
  refine (clear11_calls w0 _ _ g r.f0 r.f1 m.f3 r.f3 2 _ r.f6 _ _ _ _ r.f11 r.f12 (Mem.sel (ps := [_, _, _, _, _, _, _]) (F := F) [1, 0, 2, 3, 4, 5, 6] 7 (((M1.out.drewN _).set 1 rfl 2 (.int .i64 m.f3)).set 1 rfl 4 (.int .i64 2)) rfl rfl)).mono ?_
  rintro e wc ⟨rfl, hM⟩
  have M2 := Aside0.mk (Mem.sel (ps := [_, _, _, _, _, _, _]) (F := F) [0, 1, 2, 3] 7 hM rfl rfl)
  clear hM M1 cM cG fG hg
  have HM0 := Aside0.mk (blk_cell (M2.out.blk_at 1 rfl))
  have HG0 := Aside0.mk (blk_cell (M2.out.blk_at 0 rfl))
  have cM := HM0.out
  have cG := HG0.out
  unfold qc at cG
  go_upto_region 7 with (fail)
  have M2D := Aside0.mk M2.out.drew
  have HS0 := Aside0.mk (show (∀ j : Nat, wc.drew.cell? ⟨w.heap.size, j, none⟩ = wc.cell? ⟨w.heap.size, j, none⟩) ∧ (∀ j : Nat, wc.drew.cell? ⟨g, j, none⟩ = wc.cell? ⟨g, j, none⟩) from ⟨fun _ => rfl, fun _ => rfl⟩)
  have H9 := HS0
  go_region_held3 (fun w' => (∀ j : Nat, w'.cell? ⟨w.heap.size, j, none⟩ = wc.cell? ⟨w.heap.size, j, none⟩) ∧ (∀ j : Nat, w'.cell? ⟨g, j, none⟩ = wc.cell? ⟨g, j, none⟩)) (first | with_reducible exact HS0.out | with_reducible exact H9.out | fail) ((go_at_call 72; refine (one11_calls w0 _ emp _ g r.f0 r.f1 m.f3 r.f3 2 _ r.f6 v7 (.slice none 0 0) (.slice none 0 0) (.slice none 0 0) (-1) 0 m.f1 7 0 0 0 r.f6 0 0 none 0 [] (Mem.sel (ps := [_, _, _, _, _]) (F := F) [0, 1, 2, 3, 4] 5 (Mem.cons_emp M2D.out) rfl rfl) (Rd.old (C_zero _)) (by decide) (by decide)).mono ?_; rintro e w1 ⟨vo, rfl, hM⟩; obtain ⟨Bo, co, rfl, _, _⟩ := hM.row_at 0 rfl; have M3 := Aside0.mk (Mem.sel (ps := [_, _, _, _, _, _]) (F := F) [0, 2, 3, 4, 5] 6 hM rfl rfl); clear hM; have H9 := Aside0.mk (show (∀ j : Nat, w1.cell? ⟨w.heap.size, j, none⟩ = wc.cell? ⟨w.heap.size, j, none⟩) ∧ (∀ j : Nat, w1.cell? ⟨g, j, none⟩ = wc.cell? ⟨g, j, none⟩) from ⟨fun j => (blk_cell (M3.out.blk_at 2 rfl) j).trans (HM0.out j).symm, fun j => (blk_cell (M3.out.blk_at 1 rfl) j).trans (HG0.out j).symm⟩)))
  go_wp2
  go_ret
  have hs := HSS.out
  subst hs
  exact ⟨_, _, _, _, _, _, rfl, Mem.sel (ps := [_, _, _, _, _, _, _, _]) (F := F) [4, 6, 7, 1, 2, 0, 3] 8 (Mem.row_nil (Mem.row_nil (Mem.row_nil M3.out (Kd.int .i64) 3) (Kd.int .i64) 3) kE 68) rfl rfl⟩
theorem prep11_a2 (w0 w : World) (F : List Res) (g : Nat) (r : Rep) (m : Msg) (v5 v7 v8 v9 v10 : Value) (A : Option Addr) (c : Nat) (hM : Mem w0 w (blk g 25 (qc r.f0 r.f1 r.f2 r.f3 r.f4 v5 r.f6 v7 v8 v9 v10 r.f11 r.f12) :: Kx.sL r v5 v7 v8 v9 v10 F)) (hv : 0 ≤ m.f3) (hv2 : m.f3 ≤ 4611686018427387904) (hn0 : 0 < r.f1) (hn5 : r.f1 ≤ 5) (h1 : ¬ m.f3 < r.f2) (h2 : m.f3 % r.f1 = m.f1) (h3 : ¬ r.f2 < m.f3) (h4 : ¬ r.f4 = 0) (s : Rep) (hs : { clear r with f2 := m.f3, f4 := 2 } = s) :
    Calls Tryz.prog 70 #[.pointer (some ⟨g, 0, none⟩), .agg (Kx.mA m A c)] w fun e w' => ∃ vout v5' v7' v8' v9' v10' : Value, e = .returned vout ∧ Mem w0 w' (blk g 25 (qc s.f0 s.f1 s.f2 s.f3 s.f4 v5' s.f6 v7' v8' v9' v10' s.f11 s.f12) :: row kE 68 v5' s.f5 :: row (Kd.int .i64) 3 v7' s.f7 :: row (Kd.int .i64) 3 v8' s.f8 :: row (Kd.int .i64) 3 v9' s.f9 :: row kE 68 v10' s.f10 :: row kM 27 vout [toOne s m.f1 ⟨7, 0, 0, 0, s.f6, 0, 0, []⟩] :: F) := by
  obtain ⟨B5, d5, rfl, _, _⟩ := hM.row_at 1 rfl
  have HSS := Aside0.mk hs
  clear hs
  have e1 : decide (m.f3 < r.f2) = false := by simpa using h1
  clear h1
  have e2 : (m.f3 % r.f1 == m.f1) = true := by simpa using h2
  have e2' : (m.f3 % r.f1 != m.f1) = false := by simpa using h2
  clear h2
  have e3 : decide (r.f2 < m.f3) = false := by simpa using h3
  clear h3
  have e4 : (r.f4 == 0) = false := by simpa using h4
  have e4' : (r.f4 != 0) = true := by simpa using h4
  clear h4
  have HV := Aside0.mk (show 0 ≤ m.f3 ∧ m.f3 ≤ 4611686018427387904 from ⟨hv, hv2⟩)
  have HI := Aside0.mk (show 0 < r.f1 ∧ r.f1 ≤ 5 from ⟨hn0, hn5⟩)
  have M1 := Aside0.mk (hM.alloc (Kx.mA m A c) 27)
  clear hM hv hv2 hn0 hn5
  have cM := blk_cell (M1.out.blk_at 0 rfl)
  have cG := blk_cell (M1.out.blk_at 1 rfl)
  unfold qc at cG
  have z1 : (r.f1 == 0) = false := by have := HI.out; simp; omega
  have z2 : ¬ r.f1 = 0 := by have := HI.out; omega
  have z3 : m.f3.tmod r.f1 = m.f3 % r.f1 := Int.tmod_eq_emod_of_nonneg HV.out.1
  go_enter Tryz.func70, Tryz.ntmps70
  go_wp2_with fail
  go_quiet (fail)
  clear z1 z2 z3
  go_wp2_with fail
  have fG := blk_frozen (M1.out.blk_at 1 rfl)
  have hg := blk_lt (M1.out.blk_at 1 rfl)
  go_quiet (fail)
  go_wp2_with fail
  refine (clear11_calls w0 _ _ g r.f0 r.f1 m.f3 r.f3 2 _ r.f6 _ _ _ _ r.f11 r.f12 (Mem.sel (ps := [_, _, _, _, _, _, _]) (F := F) [1, 0, 2, 3, 4, 5, 6] 7 (((M1.out.drewN _).set 1 rfl 2 (.int .i64 m.f3)).set 1 rfl 4 (.int .i64 2)) rfl rfl)).mono ?_
  rintro e wc ⟨rfl, hM⟩
  have M2 := Aside0.mk (Mem.sel (ps := [_, _, _, _, _, _, _]) (F := F) [0, 1, 2, 3] 7 hM rfl rfl)
  clear hM M1 cM cG fG hg
  have HM0 := Aside0.mk (blk_cell (M2.out.blk_at 1 rfl))
  have HG0 := Aside0.mk (blk_cell (M2.out.blk_at 0 rfl))
  have cM := HM0.out
  have cG := HG0.out
  unfold qc at cG
  go_upto_region 7 with (fail)
  have M2D := Aside0.mk M2.out.drew
  have HS0 := Aside0.mk (show (∀ j : Nat, wc.drew.cell? ⟨w.heap.size, j, none⟩ = wc.cell? ⟨w.heap.size, j, none⟩) ∧ (∀ j : Nat, wc.drew.cell? ⟨g, j, none⟩ = wc.cell? ⟨g, j, none⟩) from ⟨fun _ => rfl, fun _ => rfl⟩)
  have H9 := HS0
  go_region_held3 (fun w' => (∀ j : Nat, w'.cell? ⟨w.heap.size, j, none⟩ = wc.cell? ⟨w.heap.size, j, none⟩) ∧ (∀ j : Nat, w'.cell? ⟨g, j, none⟩ = wc.cell? ⟨g, j, none⟩)) (first | with_reducible exact HS0.out | with_reducible exact H9.out | fail) ((go_at_call 72; refine (one11_calls w0 _ emp _ g r.f0 r.f1 m.f3 r.f3 2 _ r.f6 v7 (.slice none 0 0) (.slice none 0 0) (.slice none 0 0) (-1) 0 m.f1 7 0 0 0 r.f6 0 0 none 0 [] (Mem.sel (ps := [_, _, _, _, _]) (F := F) [0, 1, 2, 3, 4] 5 (Mem.cons_emp M2D.out) rfl rfl) (Rd.old (C_zero _)) (by decide) (by decide)).mono ?_; rintro e w1 ⟨vo, rfl, hM⟩; obtain ⟨Bo, co, rfl, _, _⟩ := hM.row_at 0 rfl; have M3 := Aside0.mk (Mem.sel (ps := [_, _, _, _, _, _]) (F := F) [0, 2, 3, 4, 5] 6 hM rfl rfl); clear hM; have H9 := Aside0.mk (show (∀ j : Nat, w1.cell? ⟨w.heap.size, j, none⟩ = wc.cell? ⟨w.heap.size, j, none⟩) ∧ (∀ j : Nat, w1.cell? ⟨g, j, none⟩ = wc.cell? ⟨g, j, none⟩) from ⟨fun j => (blk_cell (M3.out.blk_at 2 rfl) j).trans (HM0.out j).symm, fun j => (blk_cell (M3.out.blk_at 1 rfl) j).trans (HG0.out j).symm⟩)))
  go_wp2
  go_ret
  have hs := HSS.out
  subst hs
  exact ⟨_, _, _, _, _, _, rfl, Mem.sel (ps := [_, _, _, _, _, _, _, _]) (F := F) [4, 6, 7, 1, 2, 0, 3] 8 (Mem.row_nil (Mem.row_nil (Mem.row_nil M3.out (Kd.int .i64) 3) (Kd.int .i64) 3) kE 68) rfl rfl⟩
end Go.Proofs.YtggbjokhniigkaaGreat.Td
namespace Go.Proofs.YtggbjokhniigkaaGreat.Co
open Ty Go.RowKit YtggbjokhniigkaaGreatW.PrintWords YtggbjokhniigkaaGreatW.PrintLast YtggbjokhniigkaaGreatW.PrintMore Mx Kx Wa Wb
theorem row_nil_ {w0 w : World} {rs : List Res} {α : Type} (h : Mem w0 w rs) (d : Kd α) (e : Nat) : Mem w0 w (row d e (.slice none 0 0) [] :: rs) := h.cons (Below.refl _ _) (Kd.R_nil _ _ _ _ _)
/-- A block with room is a row of nothing. -/
theorem row_room {w0 w : World} {rs : List Res} (h : Mem w0 w rs) (i : Nat) {g c : Nat} {cs : Array Value} (hi : rs[i]? = some (blk g 68 cs)) (hs : cs.size = c * 2) (hc : c ≤ maxLen) : Mem w0 w (rs.set i (row kE 68 (.slice (some ⟨g, 0, none⟩) 0 c) [])) := by
  refine h.imp hi _ (fun f hf => ⟨fun k hk => ?_, [], ⟨rfl, .inr ⟨g, c, cs, rfl, Nat.zero_le _, hf.1, Nat.zero_le _, hc, hs, rfl⟩⟩, Reps.none _ _⟩)
  have : g = k := by simpa [Value.ownBlock] using hk
  subst this
  exact hf.2
theorem grow_calls (n : Nat) (w : World) (hn : n ≤ 2000000) :
    Calls Tryz.prog 140 #[.slice none 0 0, .int .i64 n] w fun e w' => ∃ v : Value, e = .returned v ∧ Mem w w' [row kE 68 v []] := by
  have h1 : ¬ ((n : Int) < 0) := by omega
  have h2 : wrap64 ((0 : Int) - 0) = 0 := by unfold wrap64; omega
  have h3 : wrap64 ((n : Int) - 0) = (n : Int) := by unfold wrap64; omega
  by_cases h0 : n = 0
  · subst h0
    go_enter Tryz.func140, Tryz.ntmps140
    go_wp2
    go_ret
    exact ⟨_, rfl, row_nil_ (Mem.nil w) kE 68⟩
  · have hp : 0 < n := by omega
    obtain ⟨i0, hi0, hz0, hs0, hb0⟩ := info_parts infoEntry
    have hrz : ∀ ty, (Builtin.append_ #[22, 3] ty #[.slice none 0 0, .int .i64 (n : Int)]).run Tryz.prog w =
        .ok (.slice (some ⟨w.heap.size, 0, none⟩) n (grownCap w n 0 68)) (w.drew.alloc (.cells (Builtin.zeroCells (Value.agg #[.int .i64 0, .string ⟨#[]⟩]).cells n ++ Builtin.zeroCells (Value.agg #[.int .i64 0, .string ⟨#[]⟩]).cells (grownCap w n 0 68 - n)) 68)) := fun ty =>
      Lib.run_append_nil_zeros w 22 3 ty 68 i0 _ .i64 .i64 Tryz.underlying22 Tryz.underlying3 hi0 hz0 n hp (by rw [hs0]; decide) (by omega) (by rw [hb0]; omega)
    have hG : n ≤ grownCap w n 0 68 := grownCap_ge w _ _ _
    have hGm : grownCap w n 0 68 ≤ maxLen := grownCap_le_maxLen w n 0 68 (by unfold maxLen; omega)
    generalize grownCap w n 0 68 = Gc at hrz hG hGm
    have M1 := Aside0.mk ((Mem.nil w).drew.allocAt (Builtin.zeroCells (Value.agg #[.int .i64 0, .string ⟨#[]⟩]).cells n ++ Builtin.zeroCells (Value.agg #[.int .i64 0, .string ⟨#[]⟩]).cells (Gc - n)) 68 w.heap.size rfl)
    have hsz : (Builtin.zeroCells (Value.agg #[.int .i64 0, .string ⟨#[]⟩]).cells n ++ Builtin.zeroCells (Value.agg #[.int .i64 0, .string ⟨#[]⟩]).cells (Gc - n)).size = Gc * 2 := by
      simp only [Array.size_append, size_zeroCells]
      have e1 : (Value.agg #[.int .i64 0, .string ⟨#[]⟩]).cells.size = 2 := rfl
      rw [e1, ← Nat.add_mul]
      congr 1
      omega
    have HSZ := Aside0.mk hsz
    have HGM := Aside0.mk hGm
    have h4 : (n : Int) > 0 := by omega
    have h5 : ((0 : Int) < (n : Int)) = True := eq_true (by omega)
    have hc63 : Gc ≤ 9223372036854775807 := by unfold maxLen at hGm; exact hGm
    clear hsz hi0 hz0 hs0 hb0 h0 hGm
    go_enter Tryz.func140, Tryz.ntmps140
    go_wp2_with (at_builtin; refine Lib.wpList_append_run _ rfl _ _ _ _ rfl _ _ rfl rfl _ _ (hrz _) ?_)
    go_ret
    exact ⟨_, rfl, row_room M1.out 0 rfl HSZ.out HGM.out⟩
/-- How many are in the first k. -/
def sz (a b : Nat) : Nat → Nat
  | 0 => 0
  | 1 => a
  | _ => a + b
def part {α : Type} (a b : List α) : Nat → List α
  | 0 => []
  | 1 => a
  | _ => a ++ b
theorem concat_calls (gb : Nat) (A1 A2 : Option Addr) (c1 c2 : Nat) (l1 l2 : List Entry) (w : World) (hb : w.heap[gb]? = some (.cells #[.slice A1 l1.length c1, .slice A2 l2.length c2] 22 (0, 0))) (h1 : Kd.C kE w A1 l1.length l1) (h2 : Kd.C kE w A2 l2.length l2) (n1 : l1.length ≤ 1000000) (n2 : l2.length ≤ 1000000) :
    Calls Tryz.prog 133 #[.slice (some ⟨gb, 0, none⟩) 2 2] w fun e w' => ∃ v : Value, e = .returned v ∧ Mem w w' [row kE 68 v (l1 ++ l2)] := by
  have HB := Aside0.mk hb
  have H1 := Aside0.mk h1
  have H2 := Aside0.mk h2
  have HN := Aside0.mk (show l1.length ≤ 1000000 ∧ l2.length ≤ 1000000 from ⟨n1, n2⟩)
  have M0 := Aside0.mk (Mem.nil w)
  have hlt := blk_lt hb
  have HLT := Aside0.mk hlt
  clear hb h1 h2
  have cB := blk_cell HB.out
  go_enter Tryz.func133, Tryz.ntmps133
  go_wp2
  go_loopg [11, 3] 3 (fun kq v11 v3 w' => ∃ (k : Nat), v11 = .int .i64 k ∧ v3 = .int .i64 (sz l1.length l2.length k : Nat) ∧ Aside0 (k ≤ 2 ∧ kq = 3 - k) ∧ w = w')
  case atStart => exact ⟨0, rfl, rfl, ⟨by omega, rfl⟩, rfl⟩
  case round =>
    obtain ⟨k, rfl, rfl, HK, hww⟩ := hrel
    subst hww
    have hk3 : k = 0 ∨ k = 1 ∨ k = 2 := by have := HK.out; omega
    rcases hk3 with rfl | rfl | rfl
    · simp only [sz]
      have e1 : wrap64 (0 + (l1.length : Int)) = (l1.length : Int) := by unfold wrap64; omega
      have e2 : ¬ ((l1.length : Int) < 0) := by omega
      go_wp2
      go_roundg 2
      case measure => have := HK.out; omega
      case rel => exact ⟨1, by first | rfl | go_num, by first | rfl | rw [e1], ⟨by omega, by omega⟩, rfl⟩
    · simp only [sz]
      have e1 : wrap64 ((l1.length : Int) + (l2.length : Int)) = ((l1.length + l2.length : Nat) : Int) := by unfold wrap64; omega
      have e2 : ¬ (((l1.length + l2.length : Nat) : Int) < 0) := by omega
      go_wp2
      go_roundg 1
      case measure => have := HK.out; omega
      case rel => exact ⟨2, by first | rfl | go_num, by first | rfl | rw [e1], ⟨by omega, by omega⟩, rfl⟩
    · simp only [sz]
      go_wp2_with fail
      refine (grow_calls (l1.length + l2.length) _ (by omega)).mono ?_
      rintro e w1 ⟨v, rfl, hM⟩
      have M1 := Aside0.mk hM
      have HD := Aside0.mk (hM.below.block gb HLT.out)
      clear hM cB M0
      go_wp2
      go_loopg [27, 6] 3 (fun kq v27 v6 w' => ∃ (k : Nat), v27 = .int .i64 k ∧ Aside0 (k ≤ 2 ∧ kq = 3 - k) ∧ Aside0 (Mem w w' [row kE 68 v6 (part l1 l2 k)]))
      case atStart => exact ⟨0, rfl, ⟨by omega, rfl⟩, M1⟩
      case round =>
        obtain ⟨k, rfl, HK, M2⟩ := hrel
        have hk3 : k = 0 ∨ k = 1 ∨ k = 2 := by have := HK.out; omega
        clear M1 HD
        have cB := fun j => (blk_cell ((M2.out.below.block gb HLT.out).trans HB.out) j)
        rcases hk3 with rfl | rfl | rfl
        · simp only [part] at M2
          go_wp2_with (((with_reducible refine gate_builtin (b := .append) (xs := #[.tmp 31, .tmp 32]) rfl ?_); at_builtin; refine Mem.app kE M2.out 0 _ [] l1 rfl (.tmp 31) (.tmp 32) 22 68 _ _ rfl Tryz.underlying22 infoEntry rfl (by decide) (by omega) A1 _ c1 rfl rfl rfl (Kd.C_below H1.out M2.out.below) (fun x cs h => h) (by have := HN.out; simp; omega) ?_; intro v1 w2 hM1; have M3 := Aside0.mk hM1; clear hM1))
          go_roundg 2
          case measure => have := HK.out; omega
          case rel => exact ⟨1, by first | rfl | go_num, ⟨by omega, by omega⟩, M3⟩
        · simp only [part] at M2
          go_wp2_with (((with_reducible refine gate_builtin (b := .append) (xs := #[.tmp 31, .tmp 32]) rfl ?_); at_builtin; refine Mem.app kE M2.out 0 _ l1 l2 rfl (.tmp 31) (.tmp 32) 22 68 _ _ rfl Tryz.underlying22 infoEntry rfl (by decide) (by omega) A2 _ c2 rfl rfl rfl (Kd.C_below H2.out M2.out.below) (fun x cs h => h) (by have := HN.out; simp; omega) ?_; intro v1 w2 hM1; have M3 := Aside0.mk hM1; clear hM1))
          go_roundg 1
          case measure => have := HK.out; omega
          case rel => exact ⟨2, by first | rfl | go_num, ⟨by omega, by omega⟩, M3⟩
        · simp only [part] at M2
          go_wp2
          go_ret
          exact ⟨_, rfl, M2.out⟩
theorem rises_calls (A1 A2 : Option Addr) (c1 c2 : Nat) (l1 l2 : List Entry) (w : World) (h1 : Kd.C kE w A1 l1.length l1) (h2 : Kd.C kE w A2 l2.length l2) (n1 : l1.length ≤ 1000000) (n2 : l2.length ≤ 1000000) (b : Bool) (hb : log (l1 ++ l2) = b) :
    Calls Tryz.prog 127 #[.slice A1 l1.length c1, .slice A2 l2.length c2] w fun e w' => e = .returned (.bool b) ∧ Mem w w' [] := by
  have M1 := Aside0.mk ((Mem.nil w).allocAt #[.slice A1 l1.length c1, .slice A2 l2.length c2] 22 w.heap.size rfl)
  have H1 := Aside0.mk (Kd.C_below h1 M1.out.below)
  have H2 := Aside0.mk (Kd.C_below h2 M1.out.below)
  have HN := Aside0.mk (show l1.length ≤ 1000000 ∧ l2.length ≤ 1000000 from ⟨n1, n2⟩)
  obtain ⟨l3, hl3⟩ : ∃ l3, l1 ++ l2 = l3 := ⟨_, rfl⟩
  rw [hl3] at hb
  have HL3 := Aside0.mk hl3
  have HB := Aside0.mk hb
  have HN3 := Aside0.mk (show l3.length ≤ 2000000 by rw [← hl3]; simp; omega)
  clear h1 h2 hl3 hb
  go_enter Tryz.func127, Tryz.ntmps127
  go_wp2_with fail
  refine (concat_calls w.heap.size A1 A2 c1 c2 l1 l2 _ (M1.out.blk_at 0 rfl) H1.out H2.out HN.out.1 HN.out.2).mono ?_
  rintro e w1 ⟨v, rfl, hM⟩
  rw [HL3.out] at hM
  obtain ⟨B, d, rfl, _, hC⟩ := hM.row_at 0 rfl
  have M2 := Aside0.mk (M1.out.trans hM)
  have HC := Aside0.mk hC
  clear hM hC
  go_wp2_with fail
  refine (log_calls B d l3 _ HC.out (by have := HN3.out; omega)).mono ?_
  rintro e w2 ⟨he, hM⟩
  rw [HB.out] at he
  subst he
  have M3 := Aside0.mk (M2.out.trans hM)
  clear hM
  go_wp2
  go_ret
  exact ⟨rfl, Mem.sel (ps := [_, _]) (F := []) [] 2 M3.out rfl rfl⟩
end Go.Proofs.YtggbjokhniigkaaGreat.Co
namespace Go.Proofs.YtggbjokhniigkaaGreat.Pe
open Ty Go.RowKit
theorem rises_snoc (e : Entry) : ∀ (l : List Entry) (last : Int), rises last (l ++ [e]) = (rises last l && decide ((match l.getLast? with | some x => x.f0 | none => last) < e.f0) && decide (e.f0 < maxTime) && decide (e.f1.size ≤ 20000))
  | [], last => by
    simp only [List.nil_append, rises, Bool.and_true, Bool.true_and]
    rfl
  | a :: l, last => by
    have ih := rises_snoc e l a.f0
    simp only [List.cons_append, rises, ih]
    have hm : (match (a :: l).getLast? with | some x => x.f0 | none => last) = (match l.getLast? with | some x => x.f0 | none => a.f0) := by
      cases l with
      | nil => rfl
      | cons b l =>
        rw [List.getLast?_cons_cons]
        cases h : (b :: l).getLast? with
        | none => simp at h
        | some x => rfl
    rw [hm]
    simp only [Bool.and_assoc]
theorem log_snoc (l : List Entry) (e : Entry) (h : log l = true) (h1 : e.f0 < maxTime) (h2 : e.f1.size ≤ 20000) : log (l ++ [e]) = (decide (lastTime l < e.f0) && decide (l.length < 1000)) := by
  unfold log at h ⊢
  simp only [Bool.and_eq_true, decide_eq_true_eq] at h
  rw [rises_snoc, h.1]
  have e1 : (match l.getLast? with | some x => x.f0 | none => 0) = lastTime l := by unfold lastTime; cases l.getLast? <;> rfl
  rw [e1, decide_eq_true h1, decide_eq_true h2]
  simp only [Bool.true_and, Bool.and_true, List.length_append, List.length_singleton]
  congr 1
theorem eq_f {a b : Int} (h : ¬ a = b) : (a == b) = false := by simpa using h
theorem eq_t {a b : Int} (h : a = b) : (a == b) = true := by simpa using h
theorem low_ {a : Int} {n : Nat} (h : a ≤ (n : Int)) : (a == (n : Int) + 1) = false ∧ decide (a ≤ (n : Int)) = true ∧ decide ((n : Int) < a) = false := ⟨eq_f (by omega), decide_eq_true h, decide_eq_false (by omega)⟩
theorem high_ {a : Int} {n : Nat} (h : (n : Int) + 1 < a) : (a == (n : Int) + 1) = false ∧ decide (a ≤ (n : Int)) = false ∧ decide ((n : Int) < a) = true := ⟨eq_f (by omega), decide_eq_false (by omega), decide_eq_true (by omega)⟩
theorem even_ {a : Int} {n : Nat} (h : a = (n : Int) + 1) : (a == (n : Int) + 1) = true ∧ decide (a ≤ (n : Int)) = false ∧ decide ((n : Int) < a) = true := ⟨eq_t h, decide_eq_false (by omega), decide_eq_true (by omega)⟩
theorem up_ {a : Int} {n k : Nat} (h : a = (n : Int) + 1) (hk : k = n + 1) : (a == (n : Int) + 1) = true ∧ decide (a ≤ (k : Int)) = true ∧ decide ((k : Int) < a) = false := ⟨eq_t h, decide_eq_true (by omega), decide_eq_false (by omega)⟩
theorem wr_ {n : Nat} (h : n ≤ 1200) : IntKind.i64.wrap ((n : Int) + 1) = (n : Int) + 1 ∧ wrap64 ((n : Int) + 1) = (n : Int) + 1 := ⟨by rw [IntKind.wrap_i64]; omega, by unfold wrap64; omega⟩
theorem th_t {n : Nat} (h : n < 1000) : decide ((n : Int) < 1000) = true := decide_eq_true (by omega)
theorem th_f {n : Nat} (h : ¬ n < 1000) : decide ((n : Int) < 1000) = false := decide_eq_false (by omega)
end Go.Proofs.YtggbjokhniigkaaGreat.Pe
