/- Texts laid together: Tp. No condition. -/
import Derived.Test.YtggbjokhniigkaaGreatYTz15
import Derived.Test.YtggbjokhniigkaaGreatYTz16
set_option linter.unusedVariables false
set_option linter.unusedSimpArgs false
set_option maxRecDepth 100000
set_option maxHeartbeats 8000000
namespace Go.Proofs.YtggbjokhniigkaaGreat.Tp
open Ty Go.RowKit YtggbjokhniigkaaGreatW.PrintWords YtggbjokhniigkaaGreatW.PrintLast YtggbjokhniigkaaGreatW.PrintMore Mx Kx Wa Tk We Sa Tl Wj Wd Tc Co Pe
theorem prep_low (w0 w : World) (F : List Res) (g : Nat) (r : Rep) (m : Msg) (v5 v7 v8 v9 v10 : Value) (A : Option Addr) (c : Nat) (hM : Mem w0 w (blk g 95 (Wa.wc r.f0 r.f1 r.f2 r.f3 r.f4 v5 r.f6 v7 v8 v9 v10 r.f11 r.f12 (.slice none 0 0)) :: row kM 27 (.slice none 0 0) [] :: Kx.sL r v5 v7 v8 v9 v10 F)) (hl : Kd.C kE w0 A m.f7.length m.f7) (hf : m.f7.length = 1) (hn : r.f5.length ≤ 1200) (hv : 0 ≤ m.f3) (hv2 : m.f3 ≤ 4611686018427387904) (hn0 : 0 < r.f1) (hn5 : r.f1 ≤ 5) (hk : m.f0 = 1) (h1 : ¬ m.f3 < r.f2) (h2 : m.f3 % r.f1 = m.f1) (h3 : ¬ r.f2 < m.f3) (h4 : r.f4 = 0) (h5 : m.f4 ≤ (r.f5.length : Int)) (s : Rep) (hs : raise r m.f5 = s) :
    Calls Tryz.prog 103 #[.pointer (some ⟨g, 0, none⟩), .agg (Kx.mA m A c)] w fun e w' => e = .returned (.tuple #[]) ∧ ∃ v5' v7' v8' v9' v10' vout' : Value, Mem w0 w' (blk g 95 (Wa.wc s.f0 s.f1 s.f2 s.f3 s.f4 v5' s.f6 v7' v8' v9' v10' s.f11 s.f12 vout') :: row kM 27 vout' [toOne s m.f1 ⟨2, 0, 0, 0, (s.f5.length : Int), 0, 0, []⟩] :: Kx.sL s v5' v7' v8' v9' v10' F) := by
  obtain ⟨B5, d5, rfl, _, _⟩ := hM.row_at 2 rfl
  obtain ⟨cx, hcx⟩ : ∃ cx : Int, max r.f6 (min m.f5 (r.f5.length : Int)) = cx := ⟨_, rfl⟩
  have HCX := Aside0.mk hcx
  have HSS := Aside0.mk hs
  clear hs hcx
  obtain ⟨ew, ew'⟩ := wr_ hn
  obtain ⟨e5, e6, e7⟩ := low_ h5
  clear h5
  have e0 : (m.f0 == 1) = true := by simpa using hk
  clear hk
  have e1 : decide (m.f3 < r.f2) = false := by simpa using h1
  clear h1
  have e2 : (m.f3 % r.f1 == m.f1) = true := by simpa using h2
  have e2' : (m.f3 % r.f1 != m.f1) = false := by simpa using h2
  clear h2
  have e3 : decide (r.f2 < m.f3) = false := by simpa using h3
  clear h3
  have e4 : (r.f4 == 0) = true := by simpa using h4
  have e4' : (r.f4 != 0) = false := by simpa using h4
  clear h4
  have HL := Aside0.mk hl
  have HF := Aside0.mk hf
  have HN := Aside0.mk hn
  have HV := Aside0.mk (show 0 ≤ m.f3 ∧ m.f3 ≤ 4611686018427387904 from ⟨hv, hv2⟩)
  have HI := Aside0.mk (show 0 < r.f1 ∧ r.f1 ≤ 5 from ⟨hn0, hn5⟩)
  have M1 := Aside0.mk (hM.alloc (Kx.mA m A c) 27)
  clear hM hl hf hn hv hv2 hn0 hn5
  have cM := blk_cell (M1.out.blk_at 0 rfl)
  have cG := blk_cell (M1.out.blk_at 1 rfl)
  unfold Wa.wc at cG
  go_enter Tryz.func103, Tryz.ntmps103
  go_wp2_with fail
  have hW := M1.out.blk_at 1 rfl
  go_quiet ((go_at_call 97; exact primary_quiet _ _ g r.f0 r.f1 r.f2 r.f3 r.f4 _ r.f6 _ _ _ _ r.f11 r.f12 _ m.f3 hW HV.out.1 HV.out.2 HI.out.1 HI.out.2))
  clear hW
  go_upto_region 2 with (fail)
  go_cut [38] (fun s38 wx => s38 = .bool false ∧ Aside0 (Mem w0 wx (blk w.heap.size 27 (Kx.mA m A c) :: blk g 95 (Wa.wc r.f0 r.f1 r.f2 r.f3 r.f4 (.slice B5 r.f5.length d5) r.f6 v7 v8 v9 v10 r.f11 r.f12 (.slice none 0 0)) :: row kM 27 (.slice none 0 0) [] :: row kE 68 (.slice B5 r.f5.length d5) r.f5 :: row (Kd.int .i64) 3 v7 r.f7 :: row (Kd.int .i64) 3 v8 r.f8 :: row (Kd.int .i64) 3 v9 r.f9 :: row kE 68 v10 r.f10 :: F)))
  case first =>
    go_quiet (fail)
    go_wp2_with fail
    go_meet
    case rel => exact ⟨rfl, ⟨(M1.out.drewN _).drewN _⟩⟩
  case rest =>
    obtain ⟨rfl, M2⟩ := hcut
    clear M1 cM cG
    have cM := blk_cell (M2.out.blk_at 0 rfl)
    have cG := blk_cell (M2.out.blk_at 1 rfl)
    unfold Wa.wc at cG
    go_wp2_with fail
    go_quiet (fail)
    clear ew ew' e5 cM cG
    have M3 := Aside0.mk (M2.out.drewN nq)
    clear M2
    have cM := blk_cell (M3.out.blk_at 0 rfl)
    have cG := blk_cell (M3.out.blk_at 1 rfl)
    unfold Wa.wc at cG
    go_wp2_with fail
    refine (commit_calls w0 _ _ g r.f0 r.f1 r.f2 r.f3 r.f4 B5 r.f5.length d5 r.f6 _ _ _ _ r.f11 r.f12 _ m.f5 (Mem.sel (ps := [_, _, _, _, _, _, _, _]) (F := F) [1, 0, 2, 3, 4, 5, 6, 7] 8 M3.out rfl rfl) cx HCX.out).mono ?_
    rintro e w5 ⟨rfl, hM⟩
    have M5 := Aside0.mk (Mem.sel (ps := [_, _, _, _, _, _, _, _]) (F := F) [0, 2, 1, 3, 4, 5, 6, 7] 8 hM rfl rfl)
    clear hM M3 cM cG
    have cM := blk_cell (M5.out.blk_at 2 rfl)
    have cG := blk_cell (M5.out.blk_at 0 rfl)
    unfold Wa.wc at cG
    go_wp2_with fail
    refine (send_calls w0 _ emp _ g r.f0 r.f1 r.f2 r.f3 r.f4 _ cx v7 v8 v9 v10 r.f11 r.f12 (.slice none 0 0) [] m.f1 2 0 0 0 (r.f5.length : Int) 0 0 none 0 [] (Mem.sel (ps := [_, _, _, _, _, _, _, _, _]) (F := F) [0, 1, 2, 3, 4, 5, 6, 7, 8] 9 (Mem.cons_emp M5.out) rfl rfl) (Rd.old (C_zero _)) (by decide) (by decide) (by decide)).mono ?_
    rintro e w6 ⟨vo, rfl, hM⟩
    have M6 := Aside0.mk (Mem.sel (ps := [_, _, _, _, _, _, _, _, _]) (F := F) [1, 2, 3, 4, 5, 6, 7, 8] 9 hM rfl rfl)
    clear hM
    have cM := blk_cell (M6.out.blk_at 2 rfl)
    go_wp2
    first | go_end0 | (refine bodyPost_ret (results_none rfl _ _ _) rfl ?_)
    have hs := HSS.out
    have hcx := HCX.out
    subst hs
    subst hcx
    exact ⟨rfl, _, _, _, _, _, _, Mem.sel (ps := [_, _, _, _, _, _, _, _]) (F := F) [0, 1, 3, 4, 5, 6, 7] 8 M6.out rfl rfl⟩
theorem prep_high (w0 w : World) (F : List Res) (g : Nat) (r : Rep) (m : Msg) (v5 v7 v8 v9 v10 : Value) (A : Option Addr) (c : Nat) (hM : Mem w0 w (blk g 95 (Wa.wc r.f0 r.f1 r.f2 r.f3 r.f4 v5 r.f6 v7 v8 v9 v10 r.f11 r.f12 (.slice none 0 0)) :: row kM 27 (.slice none 0 0) [] :: Kx.sL r v5 v7 v8 v9 v10 F)) (hl : Kd.C kE w0 A m.f7.length m.f7) (hf : m.f7.length = 1) (hn : r.f5.length ≤ 1200) (hv : 0 ≤ m.f3) (hv2 : m.f3 ≤ 4611686018427387904) (hn0 : 0 < r.f1) (hn5 : r.f1 ≤ 5) (hk : m.f0 = 1) (h1 : ¬ m.f3 < r.f2) (h2 : m.f3 % r.f1 = m.f1) (h3 : ¬ r.f2 < m.f3) (h4 : r.f4 = 0) (h5 : (r.f5.length : Int) + 1 < m.f4) (s : Rep) (hs : raise r m.f5 = s) :
    Calls Tryz.prog 103 #[.pointer (some ⟨g, 0, none⟩), .agg (Kx.mA m A c)] w fun e w' => e = .returned (.tuple #[]) ∧ ∃ v5' v7' v8' v9' v10' vout' : Value, Mem w0 w' (blk g 95 (Wa.wc s.f0 s.f1 s.f2 s.f3 s.f4 v5' s.f6 v7' v8' v9' v10' s.f11 s.f12 vout') :: row kM 27 vout' [toOne s m.f1 ⟨7, 0, 0, 0, (s.f5.length : Int), 0, 0, []⟩] :: Kx.sL s v5' v7' v8' v9' v10' F) := by
  obtain ⟨B5, d5, rfl, _, _⟩ := hM.row_at 2 rfl
  obtain ⟨cx, hcx⟩ : ∃ cx : Int, max r.f6 (min m.f5 (r.f5.length : Int)) = cx := ⟨_, rfl⟩
  have HCX := Aside0.mk hcx
  have HSS := Aside0.mk hs
  clear hs hcx
  obtain ⟨ew, ew'⟩ := wr_ hn
  obtain ⟨e5, e6, e7⟩ := high_ h5
  clear h5
  have e0 : (m.f0 == 1) = true := by simpa using hk
  clear hk
  have e1 : decide (m.f3 < r.f2) = false := by simpa using h1
  clear h1
  have e2 : (m.f3 % r.f1 == m.f1) = true := by simpa using h2
  have e2' : (m.f3 % r.f1 != m.f1) = false := by simpa using h2
  clear h2
  have e3 : decide (r.f2 < m.f3) = false := by simpa using h3
  clear h3
  have e4 : (r.f4 == 0) = true := by simpa using h4
  have e4' : (r.f4 != 0) = false := by simpa using h4
  clear h4
  have HL := Aside0.mk hl
  have HF := Aside0.mk hf
  have HN := Aside0.mk hn
  have HV := Aside0.mk (show 0 ≤ m.f3 ∧ m.f3 ≤ 4611686018427387904 from ⟨hv, hv2⟩)
  have HI := Aside0.mk (show 0 < r.f1 ∧ r.f1 ≤ 5 from ⟨hn0, hn5⟩)
  have M1 := Aside0.mk (hM.alloc (Kx.mA m A c) 27)
  clear hM hl hf hn hv hv2 hn0 hn5
  have cM := blk_cell (M1.out.blk_at 0 rfl)
  have cG := blk_cell (M1.out.blk_at 1 rfl)
  unfold Wa.wc at cG
  go_enter Tryz.func103, Tryz.ntmps103
  go_wp2_with fail
  have hW := M1.out.blk_at 1 rfl
  go_quiet ((go_at_call 97; exact primary_quiet _ _ g r.f0 r.f1 r.f2 r.f3 r.f4 _ r.f6 _ _ _ _ r.f11 r.f12 _ m.f3 hW HV.out.1 HV.out.2 HI.out.1 HI.out.2))
  clear hW
  go_upto_region 2 with (fail)
  go_cut [38] (fun s38 wx => s38 = .bool false ∧ Aside0 (Mem w0 wx (blk w.heap.size 27 (Kx.mA m A c) :: blk g 95 (Wa.wc r.f0 r.f1 r.f2 r.f3 r.f4 (.slice B5 r.f5.length d5) r.f6 v7 v8 v9 v10 r.f11 r.f12 (.slice none 0 0)) :: row kM 27 (.slice none 0 0) [] :: row kE 68 (.slice B5 r.f5.length d5) r.f5 :: row (Kd.int .i64) 3 v7 r.f7 :: row (Kd.int .i64) 3 v8 r.f8 :: row (Kd.int .i64) 3 v9 r.f9 :: row kE 68 v10 r.f10 :: F)))
  case first =>
    go_quiet (fail)
    go_wp2_with fail
    go_meet
    case rel => exact ⟨rfl, ⟨(M1.out.drewN _).drewN _⟩⟩
  case rest =>
    obtain ⟨rfl, M2⟩ := hcut
    clear M1 cM cG
    have cM := blk_cell (M2.out.blk_at 0 rfl)
    have cG := blk_cell (M2.out.blk_at 1 rfl)
    unfold Wa.wc at cG
    go_wp2_with fail
    go_quiet (fail)
    clear ew ew' e5 cM cG
    have M3 := Aside0.mk (M2.out.drewN nq)
    clear M2
    have cM := blk_cell (M3.out.blk_at 0 rfl)
    have cG := blk_cell (M3.out.blk_at 1 rfl)
    unfold Wa.wc at cG
    go_wp2_with fail
    refine (commit_calls w0 _ _ g r.f0 r.f1 r.f2 r.f3 r.f4 B5 r.f5.length d5 r.f6 _ _ _ _ r.f11 r.f12 _ m.f5 (Mem.sel (ps := [_, _, _, _, _, _, _, _]) (F := F) [1, 0, 2, 3, 4, 5, 6, 7] 8 M3.out rfl rfl) cx HCX.out).mono ?_
    rintro e w5 ⟨rfl, hM⟩
    have M5 := Aside0.mk (Mem.sel (ps := [_, _, _, _, _, _, _, _]) (F := F) [0, 2, 1, 3, 4, 5, 6, 7] 8 hM rfl rfl)
    clear hM M3 cM cG
    have cM := blk_cell (M5.out.blk_at 2 rfl)
    have cG := blk_cell (M5.out.blk_at 0 rfl)
    unfold Wa.wc at cG
    go_wp2_with fail
    refine (send_calls w0 _ emp _ g r.f0 r.f1 r.f2 r.f3 r.f4 _ cx v7 v8 v9 v10 r.f11 r.f12 (.slice none 0 0) [] m.f1 7 0 0 0 (r.f5.length : Int) 0 0 none 0 [] (Mem.sel (ps := [_, _, _, _, _, _, _, _, _]) (F := F) [0, 1, 2, 3, 4, 5, 6, 7, 8] 9 (Mem.cons_emp M5.out) rfl rfl) (Rd.old (C_zero _)) (by decide) (by decide) (by decide)).mono ?_
    rintro e w6 ⟨vo, rfl, hM⟩
    have M6 := Aside0.mk (Mem.sel (ps := [_, _, _, _, _, _, _, _, _]) (F := F) [1, 2, 3, 4, 5, 6, 7, 8] 9 hM rfl rfl)
    clear hM
    have cM := blk_cell (M6.out.blk_at 2 rfl)
    go_wp2
    first | go_end0 | (refine bodyPost_ret (results_none rfl _ _ _) rfl ?_)
    have hs := HSS.out
    have hcx := HCX.out
    subst hs
    subst hcx
    exact ⟨rfl, _, _, _, _, _, _, Mem.sel (ps := [_, _, _, _, _, _, _, _]) (F := F) [0, 1, 3, 4, 5, 6, 7] 8 M6.out rfl rfl⟩
theorem prep_rej (w0 w : World) (F : List Res) (g : Nat) (r : Rep) (m : Msg) (v5 v7 v8 v9 v10 : Value) (A : Option Addr) (c : Nat) (hM : Mem w0 w (blk g 95 (Wa.wc r.f0 r.f1 r.f2 r.f3 r.f4 v5 r.f6 v7 v8 v9 v10 r.f11 r.f12 (.slice none 0 0)) :: row kM 27 (.slice none 0 0) [] :: Kx.sL r v5 v7 v8 v9 v10 F)) (hl : Kd.C kE w0 A m.f7.length m.f7) (hf : m.f7.length = 1) (hn : r.f5.length ≤ 1200) (hv : 0 ≤ m.f3) (hv2 : m.f3 ≤ 4611686018427387904) (hn0 : 0 < r.f1) (hn5 : r.f1 ≤ 5) (hk : m.f0 = 1) (h1 : ¬ m.f3 < r.f2) (h2 : m.f3 % r.f1 = m.f1) (h3 : ¬ r.f2 < m.f3) (h4 : r.f4 = 0) (h5 : m.f4 = (r.f5.length : Int) + 1) (hb : log (r.f5 ++ m.f7) = false) (s : Rep) (hs : raise r m.f5 = s) :
    Calls Tryz.prog 103 #[.pointer (some ⟨g, 0, none⟩), .agg (Kx.mA m A c)] w fun e w' => e = .returned (.tuple #[]) ∧ ∃ v5' v7' v8' v9' v10' vout' : Value, Mem w0 w' (blk g 95 (Wa.wc s.f0 s.f1 s.f2 s.f3 s.f4 v5' s.f6 v7' v8' v9' v10' s.f11 s.f12 vout') :: row kM 27 vout' [toOne s m.f1 ⟨7, 0, 0, 0, (s.f5.length : Int), 0, 0, []⟩] :: Kx.sL s v5' v7' v8' v9' v10' F) := by
  obtain ⟨B5, d5, rfl, _, _⟩ := hM.row_at 2 rfl
  have HB := Aside0.mk hb
  clear hb
  obtain ⟨cx, hcx⟩ : ∃ cx : Int, max r.f6 (min m.f5 (r.f5.length : Int)) = cx := ⟨_, rfl⟩
  have HCX := Aside0.mk hcx
  have HSS := Aside0.mk hs
  clear hs hcx
  obtain ⟨ew, ew'⟩ := wr_ hn
  obtain ⟨e5, e6, e7⟩ := even_ h5
  clear h5
  have e0 : (m.f0 == 1) = true := by simpa using hk
  clear hk
  have e1 : decide (m.f3 < r.f2) = false := by simpa using h1
  clear h1
  have e2 : (m.f3 % r.f1 == m.f1) = true := by simpa using h2
  have e2' : (m.f3 % r.f1 != m.f1) = false := by simpa using h2
  clear h2
  have e3 : decide (r.f2 < m.f3) = false := by simpa using h3
  clear h3
  have e4 : (r.f4 == 0) = true := by simpa using h4
  have e4' : (r.f4 != 0) = false := by simpa using h4
  clear h4
  have HL := Aside0.mk hl
  have HF := Aside0.mk hf
  have HN := Aside0.mk hn
  have HV := Aside0.mk (show 0 ≤ m.f3 ∧ m.f3 ≤ 4611686018427387904 from ⟨hv, hv2⟩)
  have HI := Aside0.mk (show 0 < r.f1 ∧ r.f1 ≤ 5 from ⟨hn0, hn5⟩)
  have M1 := Aside0.mk (hM.alloc (Kx.mA m A c) 27)
  clear hM hl hf hn hv hv2 hn0 hn5
  have cM := blk_cell (M1.out.blk_at 0 rfl)
  have cG := blk_cell (M1.out.blk_at 1 rfl)
  unfold Wa.wc at cG
  go_enter Tryz.func103, Tryz.ntmps103
  go_wp2_with fail
  have hW := M1.out.blk_at 1 rfl
  go_quiet ((go_at_call 97; exact primary_quiet _ _ g r.f0 r.f1 r.f2 r.f3 r.f4 _ r.f6 _ _ _ _ r.f11 r.f12 _ m.f3 hW HV.out.1 HV.out.2 HI.out.1 HI.out.2))
  clear hW
  go_upto_region 2 with (fail)
  go_cut [38] (fun s38 wx => s38 = .bool false ∧ Aside0 (Mem w0 wx (blk w.heap.size 27 (Kx.mA m A c) :: blk g 95 (Wa.wc r.f0 r.f1 r.f2 r.f3 r.f4 (.slice B5 r.f5.length d5) r.f6 v7 v8 v9 v10 r.f11 r.f12 (.slice none 0 0)) :: row kM 27 (.slice none 0 0) [] :: row kE 68 (.slice B5 r.f5.length d5) r.f5 :: row (Kd.int .i64) 3 v7 r.f7 :: row (Kd.int .i64) 3 v8 r.f8 :: row (Kd.int .i64) 3 v9 r.f9 :: row kE 68 v10 r.f10 :: F)))
  case first =>
    go_quiet (fail)
    go_wp2_with fail
    go_meet
    case rel => exact ⟨rfl, ⟨(M1.out.drewN _).drewN _⟩⟩
  case rest =>
    obtain ⟨rfl, M2⟩ := hcut
    clear M1 cM cG
    have HM0 := Aside0.mk (blk_cell (M2.out.blk_at 0 rfl))
    have HG0 := Aside0.mk (blk_cell (M2.out.blk_at 1 rfl))
    have cM := HM0.out
    have cG := HG0.out
    unfold Wa.wc at cG
    have RISE : Aside0 (∀ wd : World, Mem w0 wd (blk w.heap.size 27 (Kx.mA m A c) :: blk g 95 (Wa.wc r.f0 r.f1 r.f2 r.f3 r.f4 (.slice B5 r.f5.length d5) r.f6 v7 v8 v9 v10 r.f11 r.f12 (.slice none 0 0)) :: row kM 27 (.slice none 0 0) [] :: row kE 68 (.slice B5 r.f5.length d5) r.f5 :: row (Kd.int .i64) 3 v7 r.f7 :: row (Kd.int .i64) 3 v8 r.f8 :: row (Kd.int .i64) 3 v9 r.f9 :: row kE 68 v10 r.f10 :: F) → Calls Tryz.prog 127 #[.slice B5 r.f5.length d5, .slice A m.f7.length c] wd fun e w' => e = .returned (.bool false) ∧ Mem w0 w' (blk w.heap.size 27 (Kx.mA m A c) :: blk g 95 (Wa.wc r.f0 r.f1 r.f2 r.f3 r.f4 (.slice B5 r.f5.length d5) r.f6 v7 v8 v9 v10 r.f11 r.f12 (.slice none 0 0)) :: row kM 27 (.slice none 0 0) [] :: row kE 68 (.slice B5 r.f5.length d5) r.f5 :: row (Kd.int .i64) 3 v7 r.f7 :: row (Kd.int .i64) 3 v8 r.f8 :: row (Kd.int .i64) 3 v9 r.f9 :: row kE 68 v10 r.f10 :: F)) := ⟨fun wd hMd =>
      (rises_calls B5 A d5 c r.f5 m.f7 wd (hMd.row_C 3 rfl) (Kd.C_below HL.out hMd.below) (by have := HN.out; omega) (by have := HF.out; omega) false HB.out).mono fun e w' q => ⟨q.1, hMd.trans q.2⟩⟩
    go_upto_region 7 with (fail)
    have M2D := Aside0.mk M2.out.drew
    have HS0 := Aside0.mk (show (∀ j : Nat, wc.drew.cell? ⟨w.heap.size, j, none⟩ = wc.cell? ⟨w.heap.size, j, none⟩) ∧ (∀ j : Nat, wc.drew.cell? ⟨g, j, none⟩ = wc.cell? ⟨g, j, none⟩) from ⟨fun _ => rfl, fun _ => rfl⟩)
    have H9 := HS0
    go_region_held3 (fun w' => (∀ j : Nat, w'.cell? ⟨w.heap.size, j, none⟩ = wc.cell? ⟨w.heap.size, j, none⟩) ∧ (∀ j : Nat, w'.cell? ⟨g, j, none⟩ = wc.cell? ⟨g, j, none⟩)) (first | with_reducible exact HS0.out | with_reducible exact H9.out | fail) ((go_at_call 127; refine (RISE.out _ M2D.out).mono ?_; rintro e w1 ⟨rfl, hM⟩; have M3 := Aside0.mk hM; clear hM; have H9 := Aside0.mk (show (∀ j : Nat, w1.cell? ⟨w.heap.size, j, none⟩ = wc.cell? ⟨w.heap.size, j, none⟩) ∧ (∀ j : Nat, w1.cell? ⟨g, j, none⟩ = wc.cell? ⟨g, j, none⟩) from ⟨fun j => (blk_cell (M3.out.blk_at 0 rfl) j).trans (HM0.out j).symm, fun j => (blk_cell (M3.out.blk_at 1 rfl) j).trans (HG0.out j).symm⟩)))
    clear H9 HS0 HM0 HG0 M2D RISE M2
    clear ew ew' e5
    go_wp2_with fail
    refine (commit_calls w0 _ _ g r.f0 r.f1 r.f2 r.f3 r.f4 B5 r.f5.length d5 r.f6 _ _ _ _ r.f11 r.f12 _ m.f5 (Mem.sel (ps := [_, _, _, _, _, _, _, _]) (F := F) [1, 0, 2, 3, 4, 5, 6, 7] 8 M3.out rfl rfl) cx HCX.out).mono ?_
    rintro e w5 ⟨rfl, hM⟩
    have M5 := Aside0.mk (Mem.sel (ps := [_, _, _, _, _, _, _, _]) (F := F) [0, 2, 1, 3, 4, 5, 6, 7] 8 hM rfl rfl)
    clear hM M3 cM cG
    have cM := blk_cell (M5.out.blk_at 2 rfl)
    have cG := blk_cell (M5.out.blk_at 0 rfl)
    unfold Wa.wc at cG
    go_wp2_with fail
    refine (send_calls w0 _ emp _ g r.f0 r.f1 r.f2 r.f3 r.f4 _ cx v7 v8 v9 v10 r.f11 r.f12 (.slice none 0 0) [] m.f1 7 0 0 0 (r.f5.length : Int) 0 0 none 0 [] (Mem.sel (ps := [_, _, _, _, _, _, _, _, _]) (F := F) [0, 1, 2, 3, 4, 5, 6, 7, 8] 9 (Mem.cons_emp M5.out) rfl rfl) (Rd.old (C_zero _)) (by decide) (by decide) (by decide)).mono ?_
    rintro e w6 ⟨vo, rfl, hM⟩
    have M6 := Aside0.mk (Mem.sel (ps := [_, _, _, _, _, _, _, _, _]) (F := F) [1, 2, 3, 4, 5, 6, 7, 8] 9 hM rfl rfl)
    clear hM
    have cM := blk_cell (M6.out.blk_at 2 rfl)
    go_wp2
    first | go_end0 | (refine bodyPost_ret (results_none rfl _ _ _) rfl ?_)
    have hs := HSS.out
    have hcx := HCX.out
    subst hs
    subst hcx
    exact ⟨rfl, _, _, _, _, _, _, Mem.sel (ps := [_, _, _, _, _, _, _, _]) (F := F) [0, 1, 3, 4, 5, 6, 7] 8 M6.out rfl rfl⟩
theorem prep_acc (w0 w : World) (F : List Res) (g : Nat) (r : Rep) (m : Msg) (v5 v7 v8 v9 v10 : Value) (A : Option Addr) (c : Nat) (hM : Mem w0 w (blk g 95 (Wa.wc r.f0 r.f1 r.f2 r.f3 r.f4 v5 r.f6 v7 v8 v9 v10 r.f11 r.f12 (.slice none 0 0)) :: row kM 27 (.slice none 0 0) [] :: Kx.sL r v5 v7 v8 v9 v10 F)) (hl : Kd.C kE w0 A m.f7.length m.f7) (hf : m.f7.length = 1) (hn : r.f5.length ≤ 1200) (hv : 0 ≤ m.f3) (hv2 : m.f3 ≤ 4611686018427387904) (hn0 : 0 < r.f1) (hn5 : r.f1 ≤ 5) (hk : m.f0 = 1) (h1 : ¬ m.f3 < r.f2) (h2 : m.f3 % r.f1 = m.f1) (h3 : ¬ r.f2 < m.f3) (h4 : r.f4 = 0) (h5 : m.f4 = (r.f5.length : Int) + 1) (hb : log (r.f5 ++ m.f7) = true) (s : Rep) (hs : raise { r with f5 := r.f5 ++ m.f7 } m.f5 = s) :
    Calls Tryz.prog 103 #[.pointer (some ⟨g, 0, none⟩), .agg (Kx.mA m A c)] w fun e w' => e = .returned (.tuple #[]) ∧ ∃ v5' v7' v8' v9' v10' vout' : Value, Mem w0 w' (blk g 95 (Wa.wc s.f0 s.f1 s.f2 s.f3 s.f4 v5' s.f6 v7' v8' v9' v10' s.f11 s.f12 vout') :: row kM 27 vout' [toOne s m.f1 ⟨2, 0, 0, 0, (s.f5.length : Int), 0, 0, []⟩] :: Kx.sL s v5' v7' v8' v9' v10' F) := by
  obtain ⟨B5, d5, rfl, _, _⟩ := hM.row_at 2 rfl
  have HB := Aside0.mk hb
  clear hb
  obtain ⟨l3, hl3⟩ : ∃ l3, r.f5 ++ m.f7 = l3 := ⟨_, rfl⟩
  have hn3 : l3.length = r.f5.length + 1 := by rw [← hl3, List.length_append, hf]
  obtain ⟨cx, hcx⟩ : ∃ cx : Int, max r.f6 (min m.f5 (l3.length : Int)) = cx := ⟨_, rfl⟩
  have HCX := Aside0.mk hcx
  have HSS := Aside0.mk hs
  have HL3 := Aside0.mk hl3
  clear hs hcx
  obtain ⟨ew, ew'⟩ := wr_ hn
  obtain ⟨e5, e6, e7⟩ := up_ h5 hn3
  have HN3 := Aside0.mk hn3
  clear h5 hl3 hn3
  have e0 : (m.f0 == 1) = true := by simpa using hk
  clear hk
  have e1 : decide (m.f3 < r.f2) = false := by simpa using h1
  clear h1
  have e2 : (m.f3 % r.f1 == m.f1) = true := by simpa using h2
  have e2' : (m.f3 % r.f1 != m.f1) = false := by simpa using h2
  clear h2
  have e3 : decide (r.f2 < m.f3) = false := by simpa using h3
  clear h3
  have e4 : (r.f4 == 0) = true := by simpa using h4
  have e4' : (r.f4 != 0) = false := by simpa using h4
  clear h4
  have HL := Aside0.mk hl
  have HF := Aside0.mk hf
  have HN := Aside0.mk hn
  have HV := Aside0.mk (show 0 ≤ m.f3 ∧ m.f3 ≤ 4611686018427387904 from ⟨hv, hv2⟩)
  have HI := Aside0.mk (show 0 < r.f1 ∧ r.f1 ≤ 5 from ⟨hn0, hn5⟩)
  have M1 := Aside0.mk (hM.alloc (Kx.mA m A c) 27)
  clear hM hl hf hn hv hv2 hn0 hn5
  have cM := blk_cell (M1.out.blk_at 0 rfl)
  have cG := blk_cell (M1.out.blk_at 1 rfl)
  unfold Wa.wc at cG
  go_enter Tryz.func103, Tryz.ntmps103
  go_wp2_with fail
  have hW := M1.out.blk_at 1 rfl
  go_quiet ((go_at_call 97; exact primary_quiet _ _ g r.f0 r.f1 r.f2 r.f3 r.f4 _ r.f6 _ _ _ _ r.f11 r.f12 _ m.f3 hW HV.out.1 HV.out.2 HI.out.1 HI.out.2))
  clear hW
  go_upto_region 2 with (fail)
  go_cut [38] (fun s38 wx => s38 = .bool false ∧ Aside0 (Mem w0 wx (blk w.heap.size 27 (Kx.mA m A c) :: blk g 95 (Wa.wc r.f0 r.f1 r.f2 r.f3 r.f4 (.slice B5 r.f5.length d5) r.f6 v7 v8 v9 v10 r.f11 r.f12 (.slice none 0 0)) :: row kM 27 (.slice none 0 0) [] :: row kE 68 (.slice B5 r.f5.length d5) r.f5 :: row (Kd.int .i64) 3 v7 r.f7 :: row (Kd.int .i64) 3 v8 r.f8 :: row (Kd.int .i64) 3 v9 r.f9 :: row kE 68 v10 r.f10 :: F)))
  case first =>
    go_quiet (fail)
    go_wp2_with fail
    go_meet
    case rel => exact ⟨rfl, ⟨(M1.out.drewN _).drewN _⟩⟩
  case rest =>
    obtain ⟨rfl, M2⟩ := hcut
    clear M1 cM cG
    have HM0 := Aside0.mk (blk_cell (M2.out.blk_at 0 rfl))
    have HG0 := Aside0.mk (blk_cell (M2.out.blk_at 1 rfl))
    have cM := HM0.out
    have cG := HG0.out
    unfold Wa.wc at cG
    have RISE : Aside0 (∀ wd : World, Mem w0 wd (blk w.heap.size 27 (Kx.mA m A c) :: blk g 95 (Wa.wc r.f0 r.f1 r.f2 r.f3 r.f4 (.slice B5 r.f5.length d5) r.f6 v7 v8 v9 v10 r.f11 r.f12 (.slice none 0 0)) :: row kM 27 (.slice none 0 0) [] :: row kE 68 (.slice B5 r.f5.length d5) r.f5 :: row (Kd.int .i64) 3 v7 r.f7 :: row (Kd.int .i64) 3 v8 r.f8 :: row (Kd.int .i64) 3 v9 r.f9 :: row kE 68 v10 r.f10 :: F) → Calls Tryz.prog 127 #[.slice B5 r.f5.length d5, .slice A m.f7.length c] wd fun e w' => e = .returned (.bool true) ∧ Mem w0 w' (blk w.heap.size 27 (Kx.mA m A c) :: blk g 95 (Wa.wc r.f0 r.f1 r.f2 r.f3 r.f4 (.slice B5 r.f5.length d5) r.f6 v7 v8 v9 v10 r.f11 r.f12 (.slice none 0 0)) :: row kM 27 (.slice none 0 0) [] :: row kE 68 (.slice B5 r.f5.length d5) r.f5 :: row (Kd.int .i64) 3 v7 r.f7 :: row (Kd.int .i64) 3 v8 r.f8 :: row (Kd.int .i64) 3 v9 r.f9 :: row kE 68 v10 r.f10 :: F)) := ⟨fun wd hMd =>
      (rises_calls B5 A d5 c r.f5 m.f7 wd (hMd.row_C 3 rfl) (Kd.C_below HL.out hMd.below) (by have := HN.out; omega) (by have := HF.out; omega) true HB.out).mono fun e w' q => ⟨q.1, hMd.trans q.2⟩⟩
    go_upto_region 7 with (fail)
    have M2D := Aside0.mk M2.out.drew
    have HS0 := Aside0.mk (show (∀ j : Nat, wc.drew.cell? ⟨w.heap.size, j, none⟩ = wc.cell? ⟨w.heap.size, j, none⟩) ∧ (∀ j : Nat, wc.drew.cell? ⟨g, j, none⟩ = wc.cell? ⟨g, j, none⟩) from ⟨fun _ => rfl, fun _ => rfl⟩)
    have H9 := HS0
    go_region_held3 (fun w' => (∀ j : Nat, w'.cell? ⟨w.heap.size, j, none⟩ = wc.cell? ⟨w.heap.size, j, none⟩) ∧ (∀ j : Nat, w'.cell? ⟨g, j, none⟩ = wc.cell? ⟨g, j, none⟩)) (first | with_reducible exact HS0.out | with_reducible exact H9.out | fail) ((go_at_call 127; refine (RISE.out _ M2D.out).mono ?_; rintro e w1 ⟨rfl, hM⟩; have M3 := Aside0.mk hM; clear hM; have H9 := Aside0.mk (show (∀ j : Nat, w1.cell? ⟨w.heap.size, j, none⟩ = wc.cell? ⟨w.heap.size, j, none⟩) ∧ (∀ j : Nat, w1.cell? ⟨g, j, none⟩ = wc.cell? ⟨g, j, none⟩) from ⟨fun j => (blk_cell (M3.out.blk_at 0 rfl) j).trans (HM0.out j).symm, fun j => (blk_cell (M3.out.blk_at 1 rfl) j).trans (HG0.out j).symm⟩)))
    clear H9 HS0 HM0 HG0 M2D RISE M2
    clear ew ew' e5
    go_upto_region 8 with (fail)
    go_cut [] (fun wx => ∃ (A3 : Option Addr) (c3 : Nat), Aside0 (Mem w0 wx (blk w.heap.size 27 (Kx.mA m A c) :: blk g 95 (Wa.wc r.f0 r.f1 r.f2 r.f3 r.f4 (.slice A3 l3.length c3) r.f6 v7 v8 v9 v10 r.f11 r.f12 (.slice none 0 0)) :: row kM 27 (.slice none 0 0) [] :: row kE 68 (.slice A3 l3.length c3) l3 :: row (Kd.int .i64) 3 v7 r.f7 :: row (Kd.int .i64) 3 v8 r.f8 :: row (Kd.int .i64) 3 v9 r.f9 :: row kE 68 v10 r.f10 :: F)))
    case first =>
      go_region_law (refine Mem.app_step kE M3.out.drew 3 _ r.f5 m.f7 (by rfl) (.tmp 92) (.tmp 94) 22 68 _ _ rfl Tryz.underlying22 infoEntry rfl (by decide) (by omega) A m.f7.length c (by simp [Act.eval, Act.put]) (by simp [Act.eval, Act.put]) rfl (Kd.C_below HL.out M3.out.drew.below) (fun x cs h => h) (by have := HN.out; have := HF.out; omega) ?_; intro v1 w3 hM; rw [HL3.out] at hM; have M7 := Aside0.mk hM; clear hM; obtain ⟨A3, c3, he, hc3, _⟩ := M7.out.row_at 3 rfl; subst he; have cG3 := blk_cell (M7.out.blk_at 1 rfl); have fG3 := blk_frozen (M7.out.blk_at 1 rfl); have gG3 := blk_lt (M7.out.blk_at 1 rfl); unfold Wa.wc at cG3; clear hc3)
      all_goals
        go_wp2_with fail
        all_goals
          go_meet
          case rel => exact ⟨_, _, ⟨M7.out.set 1 rfl 5 _⟩⟩
    case rest =>
      obtain ⟨A3, c3, M4⟩ := hcut
      clear M3 cM cG
      have cM := blk_cell (M4.out.blk_at 0 rfl)
      have cG := blk_cell (M4.out.blk_at 1 rfl)
      unfold Wa.wc at cG
      go_wp2_with fail
      refine (commit_calls w0 _ _ g r.f0 r.f1 r.f2 r.f3 r.f4 A3 l3.length c3 r.f6 _ _ _ _ r.f11 r.f12 _ m.f5 (Mem.sel (ps := [_, _, _, _, _, _, _, _]) (F := F) [1, 0, 2, 3, 4, 5, 6, 7] 8 M4.out rfl rfl) cx HCX.out).mono ?_
      rintro e w5 ⟨rfl, hM⟩
      have M5 := Aside0.mk (Mem.sel (ps := [_, _, _, _, _, _, _, _]) (F := F) [0, 2, 1, 3, 4, 5, 6, 7] 8 hM rfl rfl)
      clear hM M4 cM cG
      have cM := blk_cell (M5.out.blk_at 2 rfl)
      have cG := blk_cell (M5.out.blk_at 0 rfl)
      unfold Wa.wc at cG
      go_wp2_with fail
      refine (send_calls w0 _ emp _ g r.f0 r.f1 r.f2 r.f3 r.f4 _ cx v7 v8 v9 v10 r.f11 r.f12 (.slice none 0 0) [] m.f1 2 0 0 0 (l3.length : Int) 0 0 none 0 [] (Mem.sel (ps := [_, _, _, _, _, _, _, _, _]) (F := F) [0, 1, 2, 3, 4, 5, 6, 7, 8] 9 (Mem.cons_emp M5.out) rfl rfl) (Rd.old (C_zero _)) (by decide) (by decide) (by decide)).mono ?_
      rintro e w6 ⟨vo, rfl, hM⟩
      have M6 := Aside0.mk (Mem.sel (ps := [_, _, _, _, _, _, _, _, _]) (F := F) [1, 2, 3, 4, 5, 6, 7, 8] 9 hM rfl rfl)
      clear hM
      have cM := blk_cell (M6.out.blk_at 2 rfl)
      go_wp2
      first | go_end0 | (refine bodyPost_ret (results_none rfl _ _ _) rfl ?_)
      have hs := HSS.out
      have hcx := HCX.out
      have hl3 := HL3.out
      subst hl3
      subst hs
      subst hcx
      exact ⟨rfl, _, _, _, _, _, _, Mem.sel (ps := [_, _, _, _, _, _, _, _]) (F := F) [0, 1, 3, 4, 5, 6, 7] 8 M6.out rfl rfl⟩
end Go.Proofs.YtggbjokhniigkaaGreat.Tp
