/- Walks: the reference's prepare: not taken, asking, a commit. -/
import Derived.Test.YtggbjokhniigkaaGreatSaq
import Derived.Test.YtggbjokhniigkaaGreatGi
import Derived.Test.YtggbjokhniigkaaGreatGh
import Derived.Test.YtggbjokhniigkaaGreatWjq
import Derived.Test.YtggbjokhniigkaaGreatWhq
import Derived.Deep.RegionHeld3
namespace Go.Proofs.YtggbjokhniigkaaGreat.Td
open Go.Proofs.YtggbjokhniigkaaGreat.Ty Go.RowKit Go.Proofs.YtggbjokhniigkaaGreatW.PrintWords Go.Proofs.YtggbjokhniigkaaGreatW.PrintLast Go.Proofs.YtggbjokhniigkaaGreatW.PrintMore Go.Proofs.YtggbjokhniigkaaGreat.Mx Go.Proofs.YtggbjokhniigkaaGreat.Kx Go.Proofs.YtggbjokhniigkaaGreat.Wa Go.Proofs.YtggbjokhniigkaaGreat.Tk Go.Proofs.YtggbjokhniigkaaGreat.Sa Go.Proofs.YtggbjokhniigkaaGreat.To Go.Proofs.YtggbjokhniigkaaGreat.Wd Go.Proofs.YtggbjokhniigkaaGreat.Wj
set_option linter.unusedVariables false
set_option linter.unusedSimpArgs false
set_option maxRecDepth 100000 in
set_option maxHeartbeats 8000000 in
theorem prep11_n1 (w0 w : World) (F : List Res) (g : Nat) (r : Rep) (m : Msg) (v5 v7 v8 v9 v10 : Value) (A : Option Addr) (c : Nat) (hM : Mem w0 w (blk g 25 (qc r.f0 r.f1 r.f2 r.f3 r.f4 v5 r.f6 v7 v8 v9 v10 r.f11 r.f12) :: row kE 68 v5 r.f5 :: row (Kd.int .i64) 3 v7 r.f7 :: row (Kd.int .i64) 3 v8 r.f8 :: row (Kd.int .i64) 3 v9 r.f9 :: row kE 68 v10 r.f10 :: F)) (hv : 0 ≤ m.f3) (hv2 : m.f3 ≤ 4611686018427387904) (hn0 : 0 < r.f1) (hn5 : r.f1 ≤ 5) (h1 : m.f3 < r.f2) :
    Calls Tryz.prog 70 #[.pointer (some ⟨g, 0, none⟩), .agg #[.int .i64 m.f0, .int .i64 m.f1, .int .i64 m.f2, .int .i64 m.f3, .int .i64 m.f4, .int .i64 m.f5, .int .i64 m.f6, .slice A m.f7.length c]] w fun e w' => ∃ vout v5' v7' v8' v9' v10' : Value, e = .returned vout ∧ Mem w0 w' (blk g 25 (qc r.f0 r.f1 r.f2 r.f3 r.f4 v5' r.f6 v7' v8' v9' v10' r.f11 r.f12) :: row kE 68 v5' r.f5 :: row (Kd.int .i64) 3 v7' r.f7 :: row (Kd.int .i64) 3 v8' r.f8 :: row (Kd.int .i64) 3 v9' r.f9 :: row kE 68 v10' r.f10 :: row kM 27 vout [] :: F) := by
  obtain ⟨B5, d5, rfl, _, _⟩ := hM.row_at 1 rfl
  have e1 : decide (m.f3 < r.f2) = true := by simpa using h1
  clear h1
  have HV := Aside0.mk (show 0 ≤ m.f3 ∧ m.f3 ≤ 4611686018427387904 from ⟨hv, hv2⟩)
  have HI := Aside0.mk (show 0 < r.f1 ∧ r.f1 ≤ 5 from ⟨hn0, hn5⟩)
  have M1 := Aside0.mk (hM.alloc #[.int .i64 m.f0, .int .i64 m.f1, .int .i64 m.f2, .int .i64 m.f3, .int .i64 m.f4, .int .i64 m.f5, .int .i64 m.f6, .slice A m.f7.length c] 27)
  clear hM hv hv2 hn0 hn5
  have cM := blk_cell (M1.out.blk_at 0 rfl)
  have cG := blk_cell (M1.out.blk_at 1 rfl)
  unfold qc at cG
  have z1 : (r.f1 == 0) = false := by have := HI.out; simp; omega
  have z2 : ¬ r.f1 = 0 := by have := HI.out; omega
  have z3 : m.f3.tmod r.f1 = m.f3 % r.f1 := Int.tmod_eq_emod_of_nonneg HV.out.1
  go_enter Tryz.func70, Tryz.ntmps70
  go_wp2_with fail
  go_quiet (fail)
  clear z1 z2 z3
  go_wp2
  go_ret
  exact ⟨_, _, _, _, _, _, rfl, Mem.sel (ps := [_, _, _, _, _, _, _, _]) (F := F) [2, 3, 4, 5, 6, 7, 0] 8 (Mem.row_nil (M1.out.drewN _) kM 27) rfl rfl⟩
set_option maxRecDepth 100000 in
set_option maxHeartbeats 8000000 in
theorem prep11_n2 (w0 w : World) (F : List Res) (g : Nat) (r : Rep) (m : Msg) (v5 v7 v8 v9 v10 : Value) (A : Option Addr) (c : Nat) (hM : Mem w0 w (blk g 25 (qc r.f0 r.f1 r.f2 r.f3 r.f4 v5 r.f6 v7 v8 v9 v10 r.f11 r.f12) :: row kE 68 v5 r.f5 :: row (Kd.int .i64) 3 v7 r.f7 :: row (Kd.int .i64) 3 v8 r.f8 :: row (Kd.int .i64) 3 v9 r.f9 :: row kE 68 v10 r.f10 :: F)) (hv : 0 ≤ m.f3) (hv2 : m.f3 ≤ 4611686018427387904) (hn0 : 0 < r.f1) (hn5 : r.f1 ≤ 5) (h1 : ¬ m.f3 < r.f2) (h2 : ¬ m.f3 % r.f1 = m.f1) :
    Calls Tryz.prog 70 #[.pointer (some ⟨g, 0, none⟩), .agg #[.int .i64 m.f0, .int .i64 m.f1, .int .i64 m.f2, .int .i64 m.f3, .int .i64 m.f4, .int .i64 m.f5, .int .i64 m.f6, .slice A m.f7.length c]] w fun e w' => ∃ vout v5' v7' v8' v9' v10' : Value, e = .returned vout ∧ Mem w0 w' (blk g 25 (qc r.f0 r.f1 r.f2 r.f3 r.f4 v5' r.f6 v7' v8' v9' v10' r.f11 r.f12) :: row kE 68 v5' r.f5 :: row (Kd.int .i64) 3 v7' r.f7 :: row (Kd.int .i64) 3 v8' r.f8 :: row (Kd.int .i64) 3 v9' r.f9 :: row kE 68 v10' r.f10 :: row kM 27 vout [] :: F) := by
  obtain ⟨B5, d5, rfl, _, _⟩ := hM.row_at 1 rfl
  have e1 : decide (m.f3 < r.f2) = false := by simpa using h1
  clear h1
  have e2 : (m.f3 % r.f1 == m.f1) = false := by simpa using h2
  have e2' : (m.f3 % r.f1 != m.f1) = true := by simpa using h2
  clear h2
  have HV := Aside0.mk (show 0 ≤ m.f3 ∧ m.f3 ≤ 4611686018427387904 from ⟨hv, hv2⟩)
  have HI := Aside0.mk (show 0 < r.f1 ∧ r.f1 ≤ 5 from ⟨hn0, hn5⟩)
  have M1 := Aside0.mk (hM.alloc #[.int .i64 m.f0, .int .i64 m.f1, .int .i64 m.f2, .int .i64 m.f3, .int .i64 m.f4, .int .i64 m.f5, .int .i64 m.f6, .slice A m.f7.length c] 27)
  clear hM hv hv2 hn0 hn5
  have cM := blk_cell (M1.out.blk_at 0 rfl)
  have cG := blk_cell (M1.out.blk_at 1 rfl)
  unfold qc at cG
  have z1 : (r.f1 == 0) = false := by have := HI.out; simp; omega
  have z2 : ¬ r.f1 = 0 := by have := HI.out; omega
  have z3 : m.f3.tmod r.f1 = m.f3 % r.f1 := Int.tmod_eq_emod_of_nonneg HV.out.1
  go_enter Tryz.func70, Tryz.ntmps70
  go_wp2_with fail
  go_quiet (fail)
  clear z1 z2 z3
  go_wp2
  go_ret
  exact ⟨_, _, _, _, _, _, rfl, Mem.sel (ps := [_, _, _, _, _, _, _, _]) (F := F) [2, 3, 4, 5, 6, 7, 0] 8 (Mem.row_nil (M1.out.drewN _) kM 27) rfl rfl⟩
set_option maxRecDepth 100000 in
set_option maxHeartbeats 8000000 in
theorem prep11_a1 (w0 w : World) (F : List Res) (g : Nat) (r : Rep) (m : Msg) (v5 v7 v8 v9 v10 : Value) (A : Option Addr) (c : Nat) (hM : Mem w0 w (blk g 25 (qc r.f0 r.f1 r.f2 r.f3 r.f4 v5 r.f6 v7 v8 v9 v10 r.f11 r.f12) :: row kE 68 v5 r.f5 :: row (Kd.int .i64) 3 v7 r.f7 :: row (Kd.int .i64) 3 v8 r.f8 :: row (Kd.int .i64) 3 v9 r.f9 :: row kE 68 v10 r.f10 :: F)) (hv : 0 ≤ m.f3) (hv2 : m.f3 ≤ 4611686018427387904) (hn0 : 0 < r.f1) (hn5 : r.f1 ≤ 5) (h1 : ¬ m.f3 < r.f2) (h2 : m.f3 % r.f1 = m.f1) (h3 : r.f2 < m.f3) (s : Rep) (hs : { clear r with f2 := m.f3, f4 := 2 } = s) :
    Calls Tryz.prog 70 #[.pointer (some ⟨g, 0, none⟩), .agg #[.int .i64 m.f0, .int .i64 m.f1, .int .i64 m.f2, .int .i64 m.f3, .int .i64 m.f4, .int .i64 m.f5, .int .i64 m.f6, .slice A m.f7.length c]] w fun e w' => ∃ vout v5' v7' v8' v9' v10' : Value, e = .returned vout ∧ Mem w0 w' (blk g 25 (qc s.f0 s.f1 s.f2 s.f3 s.f4 v5' s.f6 v7' v8' v9' v10' s.f11 s.f12) :: row kE 68 v5' s.f5 :: row (Kd.int .i64) 3 v7' s.f7 :: row (Kd.int .i64) 3 v8' s.f8 :: row (Kd.int .i64) 3 v9' s.f9 :: row kE 68 v10' s.f10 :: row kM 27 vout [toOne s m.f1 ⟨7, 0, 0, 0, s.f6, 0, 0, []⟩] :: F) := by
  obtain ⟨B5, d5, rfl, _, _⟩ := hM.row_at 1 rfl
  have HSS := Aside0.mk hs
  clear hs
  have e1 : decide (m.f3 < r.f2) = false := by simpa using h1
  clear h1
  have e2 : (m.f3 % r.f1 == m.f1) = true := by simpa using h2
  have e2' : (m.f3 % r.f1 != m.f1) = false := by simpa using h2
  clear h2
  have e3 : decide (r.f2 < m.f3) = true := by simpa using h3
  clear h3
  have HV := Aside0.mk (show 0 ≤ m.f3 ∧ m.f3 ≤ 4611686018427387904 from ⟨hv, hv2⟩)
  have HI := Aside0.mk (show 0 < r.f1 ∧ r.f1 ≤ 5 from ⟨hn0, hn5⟩)
  have M1 := Aside0.mk (hM.alloc #[.int .i64 m.f0, .int .i64 m.f1, .int .i64 m.f2, .int .i64 m.f3, .int .i64 m.f4, .int .i64 m.f5, .int .i64 m.f6, .slice A m.f7.length c] 27)
  clear hM hv hv2 hn0 hn5
  have cM := blk_cell (M1.out.blk_at 0 rfl)
  have cG := blk_cell (M1.out.blk_at 1 rfl)
  unfold qc at cG
  have z1 : (r.f1 == 0) = false := by have := HI.out; simp; omega
  have z2 : ¬ r.f1 = 0 := by have := HI.out; omega
  have z3 : m.f3.tmod r.f1 = m.f3 % r.f1 := Int.tmod_eq_emod_of_nonneg HV.out.1
  go_enter Tryz.func70, Tryz.ntmps70
  go_wp2_with fail
  go_quiet (fail)
  clear z1 z2 z3
  go_wp2_with fail
  have fG := blk_frozen (M1.out.blk_at 1 rfl)
  have hg := blk_lt (M1.out.blk_at 1 rfl)
  go_quiet (fail)
  go_wp2_with fail
  refine (clear11_calls w0 _ _ g r.f0 r.f1 m.f3 r.f3 2 _ r.f6 _ _ _ _ r.f11 r.f12 (Mem.sel (ps := [_, _, _, _, _, _, _]) (F := F) [1, 0, 2, 3, 4, 5, 6] 7 (((M1.out.drewN _).set 1 rfl 2 (.int .i64 m.f3)).set 1 rfl 4 (.int .i64 2)) rfl rfl)).mono ?_
  rintro e wc ⟨rfl, hM⟩
  have M2 := Aside0.mk (Mem.sel (ps := [_, _, _, _, _, _, _]) (F := F) [0, 1, 2, 3] 7 hM rfl rfl)
  clear hM M1 cM cG fG hg
  have HM0 := Aside0.mk (blk_cell (M2.out.blk_at 1 rfl))
  have HG0 := Aside0.mk (blk_cell (M2.out.blk_at 0 rfl))
  have cM := HM0.out
  have cG := HG0.out
  unfold qc at cG
  go_upto_region 7 with (fail)
  have M2D := Aside0.mk M2.out.drew
  have HS0 := Aside0.mk (show (∀ j : Nat, wc.drew.cell? ⟨w.heap.size, j, none⟩ = wc.cell? ⟨w.heap.size, j, none⟩) ∧ (∀ j : Nat, wc.drew.cell? ⟨g, j, none⟩ = wc.cell? ⟨g, j, none⟩) from ⟨fun _ => rfl, fun _ => rfl⟩)
  have H9 := HS0
  go_region_held3 (fun w' => (∀ j : Nat, w'.cell? ⟨w.heap.size, j, none⟩ = wc.cell? ⟨w.heap.size, j, none⟩) ∧ (∀ j : Nat, w'.cell? ⟨g, j, none⟩ = wc.cell? ⟨g, j, none⟩)) (first | with_reducible exact HS0.out | with_reducible exact H9.out | fail) ((go_at_call 72; refine (one11_calls w0 _ emp _ g r.f0 r.f1 m.f3 r.f3 2 _ r.f6 v7 (.slice none 0 0) (.slice none 0 0) (.slice none 0 0) (-1) 0 m.f1 7 0 0 0 r.f6 0 0 none 0 [] (Mem.sel (ps := [_, _, _, _, _]) (F := F) [0, 1, 2, 3, 4] 5 (Mem.cons_emp M2D.out) rfl rfl) (Rd.old (C_zero _)) (by decide) (by decide)).mono ?_; rintro e w1 ⟨vo, rfl, hM⟩; obtain ⟨Bo, co, rfl, _, _⟩ := hM.row_at 0 rfl; have M3 := Aside0.mk (Mem.sel (ps := [_, _, _, _, _, _]) (F := F) [0, 2, 3, 4, 5] 6 hM rfl rfl); clear hM; have H9 := Aside0.mk (show (∀ j : Nat, w1.cell? ⟨w.heap.size, j, none⟩ = wc.cell? ⟨w.heap.size, j, none⟩) ∧ (∀ j : Nat, w1.cell? ⟨g, j, none⟩ = wc.cell? ⟨g, j, none⟩) from ⟨fun j => (blk_cell (M3.out.blk_at 2 rfl) j).trans (HM0.out j).symm, fun j => (blk_cell (M3.out.blk_at 1 rfl) j).trans (HG0.out j).symm⟩)))
  go_wp2
  go_ret
  have hs := HSS.out
  subst hs
  exact ⟨_, _, _, _, _, _, rfl, Mem.sel (ps := [_, _, _, _, _, _, _, _]) (F := F) [4, 6, 7, 1, 2, 0, 3] 8 (Mem.row_nil (Mem.row_nil (Mem.row_nil M3.out (Kd.int .i64) 3) (Kd.int .i64) 3) kE 68) rfl rfl⟩
set_option maxRecDepth 100000 in
set_option maxHeartbeats 8000000 in
theorem prep11_a2 (w0 w : World) (F : List Res) (g : Nat) (r : Rep) (m : Msg) (v5 v7 v8 v9 v10 : Value) (A : Option Addr) (c : Nat) (hM : Mem w0 w (blk g 25 (qc r.f0 r.f1 r.f2 r.f3 r.f4 v5 r.f6 v7 v8 v9 v10 r.f11 r.f12) :: row kE 68 v5 r.f5 :: row (Kd.int .i64) 3 v7 r.f7 :: row (Kd.int .i64) 3 v8 r.f8 :: row (Kd.int .i64) 3 v9 r.f9 :: row kE 68 v10 r.f10 :: F)) (hv : 0 ≤ m.f3) (hv2 : m.f3 ≤ 4611686018427387904) (hn0 : 0 < r.f1) (hn5 : r.f1 ≤ 5) (h1 : ¬ m.f3 < r.f2) (h2 : m.f3 % r.f1 = m.f1) (h3 : ¬ r.f2 < m.f3) (h4 : ¬ r.f4 = 0) (s : Rep) (hs : { clear r with f2 := m.f3, f4 := 2 } = s) :
    Calls Tryz.prog 70 #[.pointer (some ⟨g, 0, none⟩), .agg #[.int .i64 m.f0, .int .i64 m.f1, .int .i64 m.f2, .int .i64 m.f3, .int .i64 m.f4, .int .i64 m.f5, .int .i64 m.f6, .slice A m.f7.length c]] w fun e w' => ∃ vout v5' v7' v8' v9' v10' : Value, e = .returned vout ∧ Mem w0 w' (blk g 25 (qc s.f0 s.f1 s.f2 s.f3 s.f4 v5' s.f6 v7' v8' v9' v10' s.f11 s.f12) :: row kE 68 v5' s.f5 :: row (Kd.int .i64) 3 v7' s.f7 :: row (Kd.int .i64) 3 v8' s.f8 :: row (Kd.int .i64) 3 v9' s.f9 :: row kE 68 v10' s.f10 :: row kM 27 vout [toOne s m.f1 ⟨7, 0, 0, 0, s.f6, 0, 0, []⟩] :: F) := by
  obtain ⟨B5, d5, rfl, _, _⟩ := hM.row_at 1 rfl
  have HSS := Aside0.mk hs
  clear hs
  have e1 : decide (m.f3 < r.f2) = false := by simpa using h1
  clear h1
  have e2 : (m.f3 % r.f1 == m.f1) = true := by simpa using h2
  have e2' : (m.f3 % r.f1 != m.f1) = false := by simpa using h2
  clear h2
  have e3 : decide (r.f2 < m.f3) = false := by simpa using h3
  clear h3
  have e4 : (r.f4 == 0) = false := by simpa using h4
  have e4' : (r.f4 != 0) = true := by simpa using h4
  clear h4
  have HV := Aside0.mk (show 0 ≤ m.f3 ∧ m.f3 ≤ 4611686018427387904 from ⟨hv, hv2⟩)
  have HI := Aside0.mk (show 0 < r.f1 ∧ r.f1 ≤ 5 from ⟨hn0, hn5⟩)
  have M1 := Aside0.mk (hM.alloc #[.int .i64 m.f0, .int .i64 m.f1, .int .i64 m.f2, .int .i64 m.f3, .int .i64 m.f4, .int .i64 m.f5, .int .i64 m.f6, .slice A m.f7.length c] 27)
  clear hM hv hv2 hn0 hn5
  have cM := blk_cell (M1.out.blk_at 0 rfl)
  have cG := blk_cell (M1.out.blk_at 1 rfl)
  unfold qc at cG
  have z1 : (r.f1 == 0) = false := by have := HI.out; simp; omega
  have z2 : ¬ r.f1 = 0 := by have := HI.out; omega
  have z3 : m.f3.tmod r.f1 = m.f3 % r.f1 := Int.tmod_eq_emod_of_nonneg HV.out.1
  go_enter Tryz.func70, Tryz.ntmps70
  go_wp2_with fail
  go_quiet (fail)
  clear z1 z2 z3
  go_wp2_with fail
  have fG := blk_frozen (M1.out.blk_at 1 rfl)
  have hg := blk_lt (M1.out.blk_at 1 rfl)
  go_quiet (fail)
  go_wp2_with fail
  refine (clear11_calls w0 _ _ g r.f0 r.f1 m.f3 r.f3 2 _ r.f6 _ _ _ _ r.f11 r.f12 (Mem.sel (ps := [_, _, _, _, _, _, _]) (F := F) [1, 0, 2, 3, 4, 5, 6] 7 (((M1.out.drewN _).set 1 rfl 2 (.int .i64 m.f3)).set 1 rfl 4 (.int .i64 2)) rfl rfl)).mono ?_
  rintro e wc ⟨rfl, hM⟩
  have M2 := Aside0.mk (Mem.sel (ps := [_, _, _, _, _, _, _]) (F := F) [0, 1, 2, 3] 7 hM rfl rfl)
  clear hM M1 cM cG fG hg
  have HM0 := Aside0.mk (blk_cell (M2.out.blk_at 1 rfl))
  have HG0 := Aside0.mk (blk_cell (M2.out.blk_at 0 rfl))
  have cM := HM0.out
  have cG := HG0.out
  unfold qc at cG
  go_upto_region 7 with (fail)
  have M2D := Aside0.mk M2.out.drew
  have HS0 := Aside0.mk (show (∀ j : Nat, wc.drew.cell? ⟨w.heap.size, j, none⟩ = wc.cell? ⟨w.heap.size, j, none⟩) ∧ (∀ j : Nat, wc.drew.cell? ⟨g, j, none⟩ = wc.cell? ⟨g, j, none⟩) from ⟨fun _ => rfl, fun _ => rfl⟩)
  have H9 := HS0
  go_region_held3 (fun w' => (∀ j : Nat, w'.cell? ⟨w.heap.size, j, none⟩ = wc.cell? ⟨w.heap.size, j, none⟩) ∧ (∀ j : Nat, w'.cell? ⟨g, j, none⟩ = wc.cell? ⟨g, j, none⟩)) (first | with_reducible exact HS0.out | with_reducible exact H9.out | fail) ((go_at_call 72; refine (one11_calls w0 _ emp _ g r.f0 r.f1 m.f3 r.f3 2 _ r.f6 v7 (.slice none 0 0) (.slice none 0 0) (.slice none 0 0) (-1) 0 m.f1 7 0 0 0 r.f6 0 0 none 0 [] (Mem.sel (ps := [_, _, _, _, _]) (F := F) [0, 1, 2, 3, 4] 5 (Mem.cons_emp M2D.out) rfl rfl) (Rd.old (C_zero _)) (by decide) (by decide)).mono ?_; rintro e w1 ⟨vo, rfl, hM⟩; obtain ⟨Bo, co, rfl, _, _⟩ := hM.row_at 0 rfl; have M3 := Aside0.mk (Mem.sel (ps := [_, _, _, _, _, _]) (F := F) [0, 2, 3, 4, 5] 6 hM rfl rfl); clear hM; have H9 := Aside0.mk (show (∀ j : Nat, w1.cell? ⟨w.heap.size, j, none⟩ = wc.cell? ⟨w.heap.size, j, none⟩) ∧ (∀ j : Nat, w1.cell? ⟨g, j, none⟩ = wc.cell? ⟨g, j, none⟩) from ⟨fun j => (blk_cell (M3.out.blk_at 2 rfl) j).trans (HM0.out j).symm, fun j => (blk_cell (M3.out.blk_at 1 rfl) j).trans (HG0.out j).symm⟩)))
  go_wp2
  go_ret
  have hs := HSS.out
  subst hs
  exact ⟨_, _, _, _, _, _, rfl, Mem.sel (ps := [_, _, _, _, _, _, _, _]) (F := F) [4, 6, 7, 1, 2, 0, 3] 8 (Mem.row_nil (Mem.row_nil (Mem.row_nil M3.out (Kd.int .i64) 3) (Kd.int .i64) 3) kE 68) rfl rfl⟩
end Go.Proofs.YtggbjokhniigkaaGreat.Td
