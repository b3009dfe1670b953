/- Texts laid together: Cu. No condition. -/
import Derived.Test.YtggbjokhniigkaaGreatYTz29
set_option linter.unusedVariables false
set_option linter.unusedSimpArgs false
set_option maxRecDepth 100000
set_option maxHeartbeats 8000000
namespace Go.Proofs.YtggbjokhniigkaaGreat.Cu
open Lx Ty Go.RowKit YtggbjokhniigkaaGreatW.PrintWords YtggbjokhniigkaaGreatW.PrintLast YtggbjokhniigkaaGreatW.PrintMore Mx Kx Wa Tk Sa To Rb Rp Wj Wd Cx Jn Mo Cr Am Ct
def Change11Does (w0 w : World) (F : List Res) (g : Nat) (m : Msg) (A : Option Addr) (c : Nat) (s : Rep) (out : List Msg) : Prop :=
  Calls Tryz.prog 67 #[.pointer (some ⟨g, 0, none⟩), .agg (Kx.mA m A c)] w fun e w' => ∃ vout v5' v7' v8' v9' v10' : Value, e = .returned vout ∧ Mem w0 w' (qS g s v5' s.f5 s.f6 v7' v8' v9' v10' (row kM 27 vout out :: F))
structure Change11In (r : Rep) (m : Msg) : Prop where
  fr : Fine r
  f8 : r.f8.Pairwise (fun a b => a < b) ∧ r.f8.length ≤ 20
  hv : 0 ≤ m.f3
  hv1 : m.f3 ≤ 4611686018427387904
theorem change11_low (w0 w : World) (F : List Res) (g : Nat) (r s : Rep) (m : Msg) (v5 v7 v8 v9 v10 : Value) (ms : List Msg) (A : Option Addr) (c : Nat) (hM : Mem w0 w (qS g r v5 r.f5 r.f6 v7 v8 v9 v10 F)) (H0 : Change11In r m) (h1 : m.f3 < r.f2) : Change11Does w0 w F g m A c r [] := by
  have e1 : decide (m.f3 < r.f2) = true := decide_eq_true h1
  clear h1
  unfold Change11Does
  obtain ⟨fr, f8, hv, hv1⟩ := H0
  have FR := Aside0.mk fr
  have F8 := Aside0.mk f8
  have HV := Aside0.mk (show 0 ≤ m.f3 ∧ m.f3 ≤ 4611686018427387904 from ⟨hv, hv1⟩)
  obtain ⟨B5, d5, rfl, hd5, _⟩ := hM.row_at 1 rfl
  have HD5r := Aside0.mk hd5
  clear hd5
  have M1 := Aside0.mk (hM.alloc (Kx.mA m A c) 27)
  clear hM fr f8 hv hv1
  have cM := blk_cell (M1.out.blk_at 0 rfl)
  have cG := blk_cell (M1.out.blk_at 1 rfl)
  unfold qc at cG
  go_enter Tryz.func67, Tryz.ntmps67
  go_wp2_with fail
  go_quiet (fail)
  go_wp2
  go_ret
  exact ⟨_, _, _, _, _, _, rfl, Mem.sel (ps := [_, _, _, _, _, _, _, _]) (F := F) [2, 3, 4, 5, 6, 7, 0] 8 (Mem.row_nil (M1.out.drewN _) kM 27) rfl rfl⟩
theorem change11_on (w0 w : World) (F : List Res) (g : Nat) (r s : Rep) (m : Msg) (v5 v7 v8 v9 v10 : Value) (ms : List Msg) (A : Option Addr) (c : Nat) (hM : Mem w0 w (qS g r v5 r.f5 r.f6 v7 v8 v9 v10 F)) (H0 : Change11In r m) (h1 : ¬ m.f3 < r.f2) (hs : tChange r m = (s, ms)) : Change11Does w0 w F g m A c s ms := by
  have HSS := Aside0.mk hs
  have H12 := Aside0.mk (Int.not_lt.1 h1)
  have e1 : decide (m.f3 < r.f2) = false := decide_eq_false h1
  clear hs h1
  unfold Change11Does
  obtain ⟨fr, f8, hv, hv1⟩ := H0
  have FR := Aside0.mk fr
  have F8 := Aside0.mk f8
  have HV := Aside0.mk (show 0 ≤ m.f3 ∧ m.f3 ≤ 4611686018427387904 from ⟨hv, hv1⟩)
  obtain ⟨B5, d5, rfl, hd5, _⟩ := hM.row_at 1 rfl
  have HD5r := Aside0.mk hd5
  clear hd5
  have M1 := Aside0.mk (hM.alloc (Kx.mA m A c) 27)
  clear hM fr f8 hv hv1
  have cM := blk_cell (M1.out.blk_at 0 rfl)
  have cG := blk_cell (M1.out.blk_at 1 rfl)
  unfold qc at cG
  go_enter Tryz.func67, Tryz.ntmps67
  go_wp2_with fail
  go_quiet (fail)
  go_wp2_with fail
  go_quiet (fail)
  clear e1
  go_upto_if 21 with (fail)
  go_cut [5] (fun s5 wx => ∃ (s1 : Rep) (o1 : List Msg) (v8b v9b v10b : Value), Aside0 (upTo r m.f3 = (s1, o1)) ∧ Aside0 (Mem w0 wx (row kM 27 s5 o1 :: blk w.heap.size 27 (Kx.mA m A c) :: blk g 25 (qc s1.f0 s1.f1 s1.f2 s1.f3 s1.f4 (.slice B5 s1.f5.length d5) s1.f6 v7 v8b v9b v10b s1.f11 s1.f12) :: row kE 68 (.slice B5 s1.f5.length d5) s1.f5 :: row (Kd.int .i64) 3 v7 s1.f7 :: row (Kd.int .i64) 3 v8b s1.f8 :: row (Kd.int .i64) 3 v9b s1.f9 :: row kE 68 v10b s1.f10 :: F)))
  case first =>
    go_wp2_with fail
    · have HU0 := Aside0.mk (upTo_yes (show r.f2 < m.f3 by assumption))
      refine (change11_calls w0 _ _ g r.f0 r.f1 r.f2 r.f3 r.f4 _ r.f6 _ _ _ _ r.f11 r.f12 m.f3 (Mem.sel (ps := [_, _, _, _, _, _, _]) (F := F) [1, 0, 2, 3] 7 (M1.out.drewN _) rfl rfl) (by have := FR.out.i0; have := FR.out.i1; omega) FR.out.n5).mono ?_
      rintro e w1 ⟨vv', vout', rfl, hM⟩
      go_wp2_with fail
      go_meet
      case rel => exact ⟨Ty.change r m.f3, _, _, _, _, HU0, ⟨Mem.sel (ps := [_, _, _, _, _, _, _, _]) (F := F) [3, 5, 2, 6, 7, 4, 1, 0] 8 (Mem.row_nil (Mem.row_nil hM (Kd.int .i64) 3) kE 68) rfl rfl⟩⟩
    · have HU0 := Aside0.mk (upTo_no (Int.not_lt.2 (show m.f3 ≤ r.f2 by assumption)))
      go_meet
      case rel => exact ⟨r, [], _, _, _, HU0, ⟨Mem.row_nil ((M1.out.drewN _).drewN _) kM 27⟩⟩
  case rest =>
  obtain ⟨s1, o1, v8b, v9b, v10b, HU, M2⟩ := hcut
  clear M1 cM cG
  obtain ⟨Bo, do_, rfl, _, _⟩ := M2.out.row_at 0 rfl
  have HF := Aside0.mk (upTo_fine FR.out HV.out.1 HV.out.2 HU.out)
  have HD5 : Aside0 (s1.f5.length ≤ d5) := ⟨by rw [HF.out.2.1]; exact HD5r.out⟩
  have H8 := Aside0.mk (upTo_votes F8.out HU.out)
  obtain ⟨B8, d8, rfl, _, _⟩ := M2.out.row_at 5 rfl
  have HM0 := Aside0.mk (blk_cell (M2.out.blk_at 1 rfl))
  have HG0 := Aside0.mk (blk_cell (M2.out.blk_at 2 rfl))
  have cM := HM0.out
  have cG := HG0.out
  unfold qc at cG
  by_cases h4 : s1.f4 = 1
  case neg =>
    obtain ⟨e4, e4'⟩ := ne_b h4
    have H4 := Aside0.mk h4
    clear h4
    go_wp2
    go_ret
    obtain ⟨hs1, hs2⟩ := pair_inj ((tChange_idle (Int.not_lt.2 H12.out) HU.out H4.out).symm.trans HSS.out)
    subst hs1
    subst hs2
    exact ⟨_, _, _, _, _, _, rfl, Mem.sel (ps := [_, _, _, _, _, _, _, _]) (F := F) [2, 3, 4, 5, 6, 7, 0] 8 M2.out rfl rfl⟩
  have H4 := Aside0.mk h4
  obtain ⟨e4, e4'⟩ := eq_b h4
  clear h4
  go_wp2_with fail
  by_cases h5 : m.f1 ∈ s1.f8
  · have H5 := Aside0.mk h5
    have JN : Aside0 (∀ wd : World, Mem w0 wd (row kM 27 (.slice Bo o1.length do_) o1 :: blk w.heap.size 27 (Kx.mA m A c) :: blk g 25 (qc s1.f0 s1.f1 s1.f2 s1.f3 s1.f4 (.slice B5 s1.f5.length d5) s1.f6 v7 (.slice B8 s1.f8.length d8) v9b v10b s1.f11 s1.f12) :: row kE 68 (.slice B5 s1.f5.length d5) s1.f5 :: row (Kd.int .i64) 3 v7 s1.f7 :: row (Kd.int .i64) 3 (.slice B8 s1.f8.length d8) s1.f8 :: row (Kd.int .i64) 3 v9b s1.f9 :: row kE 68 v10b s1.f10 :: F) → Calls Tryz.prog 112 #[.slice B8 s1.f8.length d8, .int .i64 m.f1] wd fun e w' => e = .returned (.tuple #[.slice B8 s1.f8.length d8, .bool false]) ∧ Mem w0 w' (row kM 27 (.slice Bo o1.length do_) o1 :: blk w.heap.size 27 (Kx.mA m A c) :: blk g 25 (qc s1.f0 s1.f1 s1.f2 s1.f3 s1.f4 (.slice B5 s1.f5.length d5) s1.f6 v7 (.slice B8 s1.f8.length d8) v9b v10b s1.f11 s1.f12) :: row kE 68 (.slice B5 s1.f5.length d5) s1.f5 :: row (Kd.int .i64) 3 v7 s1.f7 :: row (Kd.int .i64) 3 (.slice B8 s1.f8.length d8) s1.f8 :: row (Kd.int .i64) 3 v9b s1.f9 :: row kE 68 v10b s1.f10 :: F)) := ⟨fun wd hMd => by
      refine (add_in w0 wd _ _ s1.f8 m.f1 (Mem.sel (ps := [_, _, _, _, _, _, _, _]) (F := F) [5, 0, 1, 2, 3, 4, 6, 7] 8 hMd rfl rfl) (Nat.le_trans H8.out.2 (by decide)) H8.out.1 H5.out).mono ?_
      rintro e w' ⟨rfl, hM⟩
      exact ⟨rfl, Mem.sel (ps := [_, _, _, _, _, _, _, _]) (F := F) [1, 2, 3, 4, 5, 0, 6, 7] 8 hM rfl rfl⟩⟩
    clear h5
    go_upto_region 8 with (fail)
    have M2D := Aside0.mk M2.out.drew
    have HS0 := Aside0.mk (show (∀ j : Nat, wc.drew.cell? ⟨w.heap.size, j, none⟩ = wc.cell? ⟨w.heap.size, j, none⟩) ∧ (∀ j : Nat, wc.drew.cell? ⟨g, j, none⟩ = wc.cell? ⟨g, j, none⟩) from ⟨fun _ => rfl, fun _ => rfl⟩)
    have H9 := HS0
    go_region_held3 (fun w' => (∀ j : Nat, w'.cell? ⟨w.heap.size, j, none⟩ = wc.cell? ⟨w.heap.size, j, none⟩) ∧ (∀ j : Nat, w'.cell? ⟨g, j, none⟩ = wc.cell? ⟨g, j, none⟩)) (first | with_reducible exact HS0.out | with_reducible exact H9.out | fail) ((go_at_call 112; refine (JN.out _ M2D.out).mono ?_; rintro e w1 ⟨rfl, hM⟩; have M3 := Aside0.mk hM; clear hM; have H9 := Aside0.mk (show (∀ j : Nat, w1.cell? ⟨w.heap.size, j, none⟩ = wc.cell? ⟨w.heap.size, j, none⟩) ∧ (∀ j : Nat, w1.cell? ⟨g, j, none⟩ = wc.cell? ⟨g, j, none⟩) from ⟨fun j => (blk_cell (M3.out.blk_at 1 rfl) j).trans (HM0.out j).symm, fun j => (blk_cell (M3.out.blk_at 2 rfl) j).trans (HG0.out j).symm⟩)))
    clear H9 HS0 M2D JN M2 HM0 HG0
    have fG3 := blk_frozen (M3.out.blk_at 2 rfl)
    have gG3 := blk_lt (M3.out.blk_at 2 rfl)
    have M4 := Aside0.mk (M3.out.set 2 rfl 8 (.slice B8 s1.f8.length d8))
    go_wp2
    go_ret
    obtain ⟨hs1, hs2⟩ := pair_inj ((tChange_in (Int.not_lt.2 H12.out) HU.out H4.out H5.out).symm.trans HSS.out)
    subst hs1
    subst hs2
    exact ⟨_, _, _, _, _, _, rfl, Mem.sel (ps := [_, _, _, _, _, _, _, _]) (F := F) [2, 3, 4, 5, 6, 7, 0] 8 M4.out rfl rfl⟩
  have H5 := Aside0.mk h5
  clear h5
  obtain ⟨zs, hz⟩ : ∃ zs, insertId s1.f8 m.f1 = zs := ⟨_, rfl⟩
  have HZ := Aside0.mk hz
  clear hz
  have JN : Aside0 (∀ wd : World, Mem w0 wd (row kM 27 (.slice Bo o1.length do_) o1 :: blk w.heap.size 27 (Kx.mA m A c) :: blk g 25 (qc s1.f0 s1.f1 s1.f2 s1.f3 s1.f4 (.slice B5 s1.f5.length d5) s1.f6 v7 (.slice B8 s1.f8.length d8) v9b v10b s1.f11 s1.f12) :: row kE 68 (.slice B5 s1.f5.length d5) s1.f5 :: row (Kd.int .i64) 3 v7 s1.f7 :: row (Kd.int .i64) 3 (.slice B8 s1.f8.length d8) s1.f8 :: row (Kd.int .i64) 3 v9b s1.f9 :: row kE 68 v10b s1.f10 :: F) → Calls Tryz.prog 112 #[.slice B8 s1.f8.length d8, .int .i64 m.f1] wd fun e w' => ∃ (B8n : Option Addr) (d8n : Nat), e = .returned (.tuple #[(.slice B8n zs.length d8n), .bool true]) ∧ Mem w0 w' (row (Kd.int .i64) 3 (.slice B8n zs.length d8n) zs :: row kM 27 (.slice Bo o1.length do_) o1 :: blk w.heap.size 27 (Kx.mA m A c) :: blk g 25 (qc s1.f0 s1.f1 s1.f2 s1.f3 s1.f4 (.slice B5 s1.f5.length d5) s1.f6 v7 (.slice B8 s1.f8.length d8) v9b v10b s1.f11 s1.f12) :: row kE 68 (.slice B5 s1.f5.length d5) s1.f5 :: row (Kd.int .i64) 3 v7 s1.f7 :: row (Kd.int .i64) 3 (.slice B8 s1.f8.length d8) s1.f8 :: row (Kd.int .i64) 3 v9b s1.f9 :: row kE 68 v10b s1.f10 :: F)) := ⟨fun wd hMd => by
    refine (add_not w0 wd _ _ s1.f8 m.f1 (Mem.sel (ps := [_, _, _, _, _, _, _, _]) (F := F) [5, 0, 1, 2, 3, 4, 6, 7] 8 hMd rfl rfl) (Nat.le_trans H8.out.2 (by decide)) H8.out.1 H5.out zs HZ.out).mono ?_
    rintro e w' ⟨v', rfl, hM⟩
    obtain ⟨B8n, d8n, rfl, _, _⟩ := hM.row_at 0 rfl
    exact ⟨_, _, rfl, Mem.sel (ps := [_, _, _, _, _, _, _, _, _]) (F := F) [0, 2, 3, 4, 5, 6, 1, 7, 8] 9 hM rfl rfl⟩⟩
  go_upto_region 8 with (fail)
  have M2D := Aside0.mk M2.out.drew
  have HS0 := Aside0.mk (show (∀ j : Nat, wc.drew.cell? ⟨w.heap.size, j, none⟩ = wc.cell? ⟨w.heap.size, j, none⟩) ∧ (∀ j : Nat, wc.drew.cell? ⟨g, j, none⟩ = wc.cell? ⟨g, j, none⟩) from ⟨fun _ => rfl, fun _ => rfl⟩)
  have H9 := HS0
  go_region_held3 (fun w' => (∀ j : Nat, w'.cell? ⟨w.heap.size, j, none⟩ = wc.cell? ⟨w.heap.size, j, none⟩) ∧ (∀ j : Nat, w'.cell? ⟨g, j, none⟩ = wc.cell? ⟨g, j, none⟩)) (first | with_reducible exact HS0.out | with_reducible exact H9.out | fail) ((go_at_call 112; refine (JN.out _ M2D.out).mono ?_; rintro e w1 ⟨B8n, d8n, rfl, hM⟩; have M3 := Aside0.mk hM; clear hM; have H9 := Aside0.mk (show (∀ j : Nat, w1.cell? ⟨w.heap.size, j, none⟩ = wc.cell? ⟨w.heap.size, j, none⟩) ∧ (∀ j : Nat, w1.cell? ⟨g, j, none⟩ = wc.cell? ⟨g, j, none⟩) from ⟨fun j => (blk_cell (M3.out.blk_at 2 rfl) j).trans (HM0.out j).symm, fun j => (blk_cell (M3.out.blk_at 3 rfl) j).trans (HG0.out j).symm⟩)))
  clear H9 HS0 M2D JN M2 HM0 HG0
  have fG3 := blk_frozen (M3.out.blk_at 3 rfl)
  have gG3 := blk_lt (M3.out.blk_at 3 rfl)
  have M4 := Aside0.mk (Mem.sel (ps := [_, _, _, _, _, _, _, _, _]) (F := F) [1, 2, 3, 4, 5, 0, 7, 8] 9 (M3.out.set 3 rfl 8 (.slice B8n zs.length d8n)) rfl rfl)
  go_wp2_with fail
  refine (most11_calls _ s1.f1 (by have := HF.out.1.i0; have := HF.out.1.i1; omega) HF.out.1.n5).mono ?_
  rintro e w2 ⟨rfl, hD⟩
  have M7 : Aside0 (Mem w0 w2 (row kM 27 (.slice Bo o1.length do_) o1 :: blk w.heap.size 27 (Kx.mA m A c) :: blk g 25 (qc s1.f0 s1.f1 s1.f2 s1.f3 s1.f4 (.slice B5 s1.f5.length d5) s1.f6 v7 (.slice B8n zs.length d8n) v9b v10b s1.f11 s1.f12) :: row kE 68 (.slice B5 s1.f5.length d5) s1.f5 :: row (Kd.int .i64) 3 v7 s1.f7 :: row (Kd.int .i64) 3 (.slice B8n zs.length d8n) zs :: row (Kd.int .i64) 3 v9b s1.f9 :: row kE 68 v10b s1.f10 :: F)) := ⟨M4.out.drawn hD⟩
  clear cM cG M4 M3 hD fG3 gG3
  try clear hHeld
  have cG := blk_cell (M7.out.blk_at 2 rfl)
  unfold qc at cG
  by_cases h6 : (zs.length : Int) = most s1.f1
  case neg =>
    obtain ⟨e6, e6'⟩ := ne_b h6
    have H6 := Aside0.mk h6
    clear h6
    go_wp2
    go_ret
    obtain ⟨hs1, hs2⟩ := pair_inj ((tChange_few (Int.not_lt.2 H12.out) HU.out H4.out H5.out HZ.out H6.out).symm.trans HSS.out)
    subst hs1
    subst hs2
    exact ⟨_, _, _, _, _, _, rfl, Mem.sel (ps := [_, _, _, _, _, _, _, _]) (F := F) [2, 3, 4, 5, 6, 7, 0] 8 M7.out rfl rfl⟩
  obtain ⟨e6, e6'⟩ := eq_b h6
  have H6 := Aside0.mk h6
  clear h6
  go_wp2_with fail
  refine (primary11_calls _ g s1.f0 s1.f1 s1.f2 s1.f3 s1.f4 _ s1.f6 _ _ _ _ s1.f11 s1.f12 (M7.out.blk_at 2 rfl) HF.out.1.w0 HF.out.1.w1 (by have := HF.out.1.i0; have := HF.out.1.i1; omega) HF.out.1.n5).mono ?_
  rintro e w4 ⟨he, hD⟩
  have M10 := Aside0.mk (M7.out.drawn hD)
  clear cG M7 hD
  have HG0 := Aside0.mk (blk_cell (M10.out.blk_at 2 rfl))
  have cG := HG0.out
  unfold qc at cG
  have M10D := Aside0.mk M10.out.drew
  by_cases h7 : s1.f2 % s1.f1 = s1.f0
  case neg =>
    obtain ⟨e7, e7'⟩ := ne_b h7
    have H7 := Aside0.mk h7
    rw [e7] at he
    subst he
    clear h7
    have HOL := Aside0.mk HF.out.2.2.1
    have z1 : (s1.f1 == 0) = false := by have := HF.out.1.i0; have := HF.out.1.i1; simp; omega
    have z2 : ¬ s1.f1 = 0 := by have := HF.out.1.i0; have := HF.out.1.i1; omega
    have z3 : s1.f2.tmod s1.f1 = s1.f2 % s1.f1 := Int.tmod_eq_emod_of_nonneg HF.out.1.w0
    go_wp2_with fail
    go_upto_region 14 with (fail)
    refine start_ (n := 27) (S := fun w' => (∀ j : Nat, w'.cell? ⟨g, j, none⟩ = w4.cell? ⟨g, j, none⟩)) (ds := [24, 25]) #[false, false, false, false, false, false, false, false, false, false, false, false, false, false, false, false, false, false, false, false, false, false, false, false, false, false, false] (by kernel_rfl) rfl rfl ((fun j => rfl)) (fun hHeld => ?_)
    refine pure_ (i := 0) (N := some 81) (v := ?_) (a' := ?_) #[true, false, false, false, false, false, false, false, false, false, false, false, false, false, false, false, false, false, false, false, false, false, false, false, false, false, false] rfl rfl (by kernel_rfl) (fun _ _ _ h => h) (Or.inl ⟨by rfl, ?_⟩) ?_ ?_
    rotate_left
    · intro w'
      go_simp
      with_reducible rfl
    rotate_left
    · simp only [Act.put, List.setIfInBounds_toArray, List.set_cons_zero, List.set_cons_succ, i64_w, i32_w]
      rfl
    refine pure_ (i := 1) (N := some 82) (v := ?_) (a' := ?_) #[true, true, false, false, false, false, false, false, false, false, false, false, false, false, false, false, false, false, false, false, false, false, false, false, false, false, false] rfl rfl (by kernel_rfl) (fun _ _ _ h => h) (Or.inl ⟨by rfl, ?_⟩) ?_ ?_
    rotate_left
    · intro w'
      go_simp
      with_reducible rfl
    rotate_left
    · simp only [Act.put, List.setIfInBounds_toArray, List.set_cons_zero, List.set_cons_succ, i64_w, i32_w]
      rfl
    refine pure_ (i := 2) (N := some 83) (v := ?_) (a' := ?_) #[true, true, true, false, false, false, false, false, false, false, false, false, false, false, false, false, false, false, false, false, false, false, false, false, false, false, false] rfl rfl (by kernel_rfl) (fun _ _ _ h => h) (Or.inl ⟨by rfl, ?_⟩) ?_ ?_
    rotate_left
    · intro w'
      go_simp
      with_reducible rfl
    rotate_left
    · simp only [Act.put, List.setIfInBounds_toArray, List.set_cons_zero, List.set_cons_succ, i64_w, i32_w]
      rfl
    refine pure_ (i := 3) (N := some 84) (v := ?_) (a' := ?_) #[true, true, true, true, false, false, false, false, false, false, false, false, false, false, false, false, false, false, false, false, false, false, false, false, false, false, false] rfl rfl (by kernel_rfl) (fun _ _ _ h => h) (Or.inl ⟨by rfl, ?_⟩) ?_ ?_
    rotate_left
    · intro w'
      go_simp
      with_reducible rfl
    rotate_left
    · simp only [Act.put, List.setIfInBounds_toArray, List.set_cons_zero, List.set_cons_succ, i64_w, i32_w]
      rfl
    refine pure_ (i := 4) (N := some 85) (v := ?_) (a' := ?_) #[true, true, true, true, true, false, false, false, false, false, false, false, false, false, false, false, false, false, false, false, false, false, false, false, false, false, false] rfl rfl (by kernel_rfl) (fun _ _ _ h => h) (Or.inl ⟨by rfl, ?_⟩) ?_ ?_
    rotate_left
    · intro w'
      go_simp
      with_reducible rfl
    rotate_left
    · simp only [Act.put, List.setIfInBounds_toArray, List.set_cons_zero, List.set_cons_succ, i64_w, i32_w]
      rfl
    refine pure_ (i := 6) (N := some 87) (v := ?_) (a' := ?_) #[true, true, true, true, true, false, true, false, false, false, false, false, false, false, false, false, false, false, false, false, false, false, false, false, false, false, false] rfl rfl (by kernel_rfl) (fun _ _ _ h => h) (Or.inl ⟨by rfl, ?_⟩) ?_ ?_
    rotate_left
    · intro w'
      go_simp
      with_reducible rfl
    rotate_left
    · simp only [Act.put, List.setIfInBounds_toArray, List.set_cons_zero, List.set_cons_succ, i64_w, i32_w]
      rfl
    refine pure_ (i := 7) (N := some 88) (v := ?_) (a' := ?_) #[true, true, true, true, true, false, true, true, false, false, false, false, false, false, false, false, false, false, false, false, false, false, false, false, false, false, false] rfl rfl (by kernel_rfl) (fun _ _ _ h => h) (Or.inl ⟨by rfl, ?_⟩) ?_ ?_
    rotate_left
    · intro w'
      go_simp
      with_reducible rfl
    rotate_left
    · simp only [Act.put, List.setIfInBounds_toArray, List.set_cons_zero, List.set_cons_succ, i64_w, i32_w]
      rfl
    refine pure_ (i := 8) (N := some 89) (v := ?_) (a' := ?_) #[true, true, true, true, true, false, true, true, true, false, false, false, false, false, false, false, false, false, false, false, false, false, false, false, false, false, false] rfl rfl (by kernel_rfl) (fun _ _ _ h => h) (Or.inl ⟨by rfl, ?_⟩) ?_ ?_
    rotate_left
    · intro w'
      go_simp
      with_reducible rfl
    rotate_left
    · simp only [Act.put, List.setIfInBounds_toArray, List.set_cons_zero, List.set_cons_succ, i64_w, i32_w]
      rfl
    refine pure_ (i := 11) (N := some 92) (v := ?_) (a' := ?_) #[true, true, true, true, true, false, true, true, true, false, false, true, false, false, false, false, false, false, false, false, false, false, false, false, false, false, false] rfl rfl (by kernel_rfl) (fun _ _ _ h => h) (Or.inl ⟨by rfl, ?_⟩) ?_ ?_
    rotate_left
    · intro w'
      go_simp
      with_reducible rfl
    rotate_left
    · simp only [Act.put, List.setIfInBounds_toArray, List.set_cons_zero, List.set_cons_succ, i64_w, i32_w]
      rfl
    refine pure_ (i := 12) (N := some 93) (v := ?_) (a' := ?_) #[true, true, true, true, true, false, true, true, true, false, false, true, true, false, false, false, false, false, false, false, false, false, false, false, false, false, false] rfl rfl (by kernel_rfl) (fun _ _ _ h => h) (Or.inl ⟨by rfl, ?_⟩) ?_ ?_
    rotate_left
    · intro w'
      go_simp
      with_reducible rfl
    rotate_left
    · simp only [Act.put, List.setIfInBounds_toArray, List.set_cons_zero, List.set_cons_succ, i64_w, i32_w]
      rfl
    refine pure_ (i := 13) (N := some 94) (v := ?_) (a' := ?_) #[true, true, true, true, true, false, true, true, true, false, false, true, true, true, false, false, false, false, false, false, false, false, false, false, false, false, false] rfl rfl (by kernel_rfl) (fun _ _ _ h => h) (Or.inl ⟨by rfl, ?_⟩) ?_ ?_
    rotate_left
    · intro w'
      go_simp
      with_reducible rfl
    rotate_left
    · simp only [Act.put, List.setIfInBounds_toArray, List.set_cons_zero, List.set_cons_succ, i64_w, i32_w]
      rfl
    refine pure_ (i := 15) (N := some 96) (v := ?_) (a' := ?_) #[true, true, true, true, true, false, true, true, true, false, false, true, true, true, false, true, false, false, false, false, false, false, false, false, false, false, false] rfl rfl (by kernel_rfl) (fun _ _ _ h => h) (Or.inl ⟨by rfl, ?_⟩) ?_ ?_
    rotate_left
    · intro w'
      go_simp
      with_reducible rfl
    rotate_left
    · simp only [Act.put, List.setIfInBounds_toArray, List.set_cons_zero, List.set_cons_succ, i64_w, i32_w]
      rfl
    refine pure_ (i := 16) (N := some 97) (v := ?_) (a' := ?_) #[true, true, true, true, true, false, true, true, true, false, false, true, true, true, false, true, true, false, false, false, false, false, false, false, false, false, false] rfl rfl (by kernel_rfl) (fun _ _ _ h => h) (Or.inl ⟨by rfl, ?_⟩) ?_ ?_
    rotate_left
    · intro w'
      go_simp
      with_reducible rfl
    rotate_left
    · simp only [Act.put, List.setIfInBounds_toArray, List.set_cons_zero, List.set_cons_succ, i64_w, i32_w]
      rfl
    refine pure_ (i := 17) (N := some 98) (v := ?_) (a' := ?_) #[true, true, true, true, true, false, true, true, true, false, false, true, true, true, false, true, true, true, false, false, false, false, false, false, false, false, false] rfl rfl (by kernel_rfl) (fun _ _ _ h => h) (Or.inl ⟨by rfl, ?_⟩) ?_ ?_
    rotate_left
    · intro w'
      go_simp
      with_reducible rfl
    rotate_left
    · simp only [Act.put, List.setIfInBounds_toArray, List.set_cons_zero, List.set_cons_succ, i64_w, i32_w]
      rfl
    refine pure_ (i := 19) (N := some 100) (v := ?_) (a' := ?_) #[true, true, true, true, true, false, true, true, true, false, false, true, true, true, false, true, true, true, false, true, false, false, false, false, false, false, false] rfl rfl (by kernel_rfl) (fun _ _ _ h => h) (Or.inl ⟨by rfl, ?_⟩) ?_ ?_
    rotate_left
    · intro w'
      go_simp
      with_reducible rfl
    rotate_left
    · simp only [Act.put, List.setIfInBounds_toArray, List.set_cons_zero, List.set_cons_succ, i64_w, i32_w]
      rfl
    refine pure_ (i := 20) (N := some 101) (v := ?_) (a' := ?_) #[true, true, true, true, true, false, true, true, true, false, false, true, true, true, false, true, true, true, false, true, true, false, false, false, false, false, false] rfl rfl (by kernel_rfl) (fun _ _ _ h => h) (Or.inl ⟨by rfl, ?_⟩) ?_ ?_
    rotate_left
    · intro w'
      go_simp
      with_reducible rfl
    rotate_left
    · simp only [Act.put, List.setIfInBounds_toArray, List.set_cons_zero, List.set_cons_succ, i64_w, i32_w]
      rfl
    refine pure_ (i := 21) (N := some 102) (v := ?_) (a' := ?_) #[true, true, true, true, true, false, true, true, true, false, false, true, true, true, false, true, true, true, false, true, true, true, false, false, false, false, false] rfl rfl (by kernel_rfl) (fun _ _ _ h => h) (Or.inl ⟨by rfl, ?_⟩) ?_ ?_
    rotate_left
    · intro w'
      go_simp
      with_reducible rfl
    rotate_left
    · simp only [Act.put, List.setIfInBounds_toArray, List.set_cons_zero, List.set_cons_succ, i64_w, i32_w]
      rfl
    refine take_ (i := 5) (N := some 86) (v := ?_) (a' := ?_) #[true, true, true, true, true, true, true, true, true, false, false, true, true, true, false, true, true, true, false, true, true, true, false, false, false, false, false] rfl rfl (by kernel_rfl) (fun _ _ _ h => h) (Or.inl ⟨by rfl, ?_⟩) hHeld ?_ ?_
    rotate_left
    · intro w' s0
      go_simp
      with_reducible rfl
    rotate_left
    · simp only [Act.put, List.setIfInBounds_toArray, List.set_cons_zero, List.set_cons_succ, i64_w, i32_w]
      rfl
    refine take_ (i := 9) (N := some 90) (v := ?_) (a' := ?_) #[true, true, true, true, true, true, true, true, true, true, false, true, true, true, false, true, true, true, false, true, true, true, false, false, false, false, false] rfl rfl (by kernel_rfl) (fun _ _ _ h => h) (Or.inl ⟨by rfl, ?_⟩) hHeld ?_ ?_
    rotate_left
    · intro w' s0
      go_simp
      with_reducible rfl
    rotate_left
    · simp only [Act.put, List.setIfInBounds_toArray, List.set_cons_zero, List.set_cons_succ, i64_w, i32_w]
      rfl
    refine pure_ (i := 10) (N := some 91) (v := ?_) (a' := ?_) #[true, true, true, true, true, true, true, true, true, true, true, true, true, true, false, true, true, true, false, true, true, true, false, false, false, false, false] rfl rfl (by kernel_rfl) (fun _ _ _ h => h) (Or.inl ⟨by rfl, ?_⟩) ?_ ?_
    rotate_left
    · intro w'
      go_simp
      with_reducible rfl
    rotate_left
    · simp only [Act.put, List.setIfInBounds_toArray, List.set_cons_zero, List.set_cons_succ, i64_w, i32_w]
      rfl
    refine take_ (i := 14) (N := some 95) (v := ?_) (a' := ?_) #[true, true, true, true, true, true, true, true, true, true, true, true, true, true, true, true, true, true, false, true, true, true, false, false, false, false, false] rfl rfl (by kernel_rfl) (fun _ _ _ h => h) (Or.inl ⟨by rfl, ?_⟩) hHeld ?_ ?_
    rotate_left
    · intro w' s0
      go_simp
      with_reducible rfl
    rotate_left
    · simp only [Act.put, List.setIfInBounds_toArray, List.set_cons_zero, List.set_cons_succ, i64_w, i32_w]
      rfl
    refine take_ (i := 18) (N := some 99) (v := ?_) (a' := ?_) #[true, true, true, true, true, true, true, true, true, true, true, true, true, true, true, true, true, true, true, true, true, true, false, false, false, false, false] rfl rfl (by kernel_rfl) (fun _ _ _ h => h) (Or.inl ⟨by rfl, ?_⟩) hHeld ?_ ?_
    rotate_left
    · intro w' s0
      go_simp
      with_reducible rfl
    rotate_left
    · simp only [Act.put, List.setIfInBounds_toArray, List.set_cons_zero, List.set_cons_succ, i64_w, i32_w]
      rfl
    refine take_ (i := 22) (N := some 103) (v := ?_) (a' := ?_) #[true, true, true, true, true, true, true, true, true, true, true, true, true, true, true, true, true, true, true, true, true, true, true, false, false, false, false] rfl rfl (by kernel_rfl) (fun _ _ _ h => h) (Or.inl ⟨by rfl, ?_⟩) hHeld ?_ ?_
    rotate_left
    · intro w' s0
      go_simp
      with_reducible rfl
    rotate_left
    · simp only [Act.put, List.setIfInBounds_toArray, List.set_cons_zero, List.set_cons_succ, i64_w, i32_w]
      rfl
    refine pure_ (i := 23) (N := some 104) (v := ?_) (a' := ?_) #[true, true, true, true, true, true, true, true, true, true, true, true, true, true, true, true, true, true, true, true, true, true, true, true, false, false, false] rfl rfl (by kernel_rfl) (fun _ _ _ h => h) (Or.inl ⟨by rfl, ?_⟩) ?_ ?_
    rotate_left
    · intro w'
      go_simp
      with_reducible rfl
    rotate_left
    · simp only [Act.put, List.setIfInBounds_toArray, List.set_cons_zero, List.set_cons_succ, i64_w, i32_w]
      rfl
    refine last_ (i := 24) (N := some 105) #[true, true, true, true, true, true, true, true, true, true, true, true, true, true, true, true, true, true, true, true, true, true, true, true, true, false, false] rfl rfl (by kernel_rfl) (by decide) (fun K hK => ?_)
    refine goes_ Tryz.func72 (by kernel_rfl) rfl #[.pointer (some ⟨g, 0, none⟩), .int .i64 (s1.f2 % s1.f1), .agg #[.int .i64 5, .int .i64 0, .int .i64 0, .int .i64 0, .int .i64 0, .int .i64 s1.f6, .int .i64 s1.f3, .slice B5 s1.f5.length d5]] (by rfl) rfl rfl (by simp only [List.map_toArray, List.map_cons, List.map_nil]; rfl) ?_
    with_reducible refine (one11_calls w0 _ (row kE 68 (.slice B5 s1.f5.length d5) s1.f5) _ g s1.f0 s1.f1 s1.f2 s1.f3 s1.f4 _ s1.f6 _ _ _ _ s1.f11 s1.f12 (s1.f2 % s1.f1) 5 0 0 0 0 s1.f6 s1.f3 B5 d5 s1.f5 (Mem.sel (ps := [_, _, _, _, _, _, _, _]) (F := F) [3, 2, 4, 5, 6, 7, 0, 1] 8 M10D.out rfl rfl) Rd.row (Nat.le_trans HF.out.1.l5 (by decide)) HD5.out).mono ?_
    rintro e w5 ⟨vq, rfl, hM⟩
    refine ⟨_, rfl, ?_⟩
    obtain ⟨Bq, dq, rfl, _, _⟩ := hM.row_at 0 rfl
    have M11 := Aside0.mk hM
    clear hM
    refine hK.out _ _ ?_
    clear hK K
    refine norm_ (a' := ?_) ?_ ?_
    rotate_left
    · show Act.put _ (some 105) _ = _
      simp only [Act.put, List.setIfInBounds_toArray, List.set_cons_zero, List.set_cons_succ, i64_w, i32_w]
      rfl
    refine last_ (i := 25) (N := some 106) #[true, true, true, true, true, true, true, true, true, true, true, true, true, true, true, true, true, true, true, true, true, true, true, true, true, true, false] rfl rfl (by kernel_rfl) (by decide) (fun K hK => ?_)
    refine Am.Mem.appM_step kM M11.out 7 0 _ o1 [⟨5, s1.f0, s1.f2 % s1.f1, s1.f2, 0, s1.f6, s1.f3, s1.f5⟩] (by decide) (by rfl) (.tmp 81) (.tmp 105) 60 27 27 _ _ rfl Tryz.underlying60 infoMsg rfl (by decide) (by omega) Bq [⟨5, s1.f0, s1.f2 % s1.f1, s1.f2, 0, s1.f6, s1.f3, s1.f5⟩].length dq (by first | rfl | simp [Act.eval, Act.put]) (by first | rfl | simp [Act.eval, Act.put]) rfl rfl (by have := HOL.out; simp only [List.length_singleton]; omega) ?_
    intro v1 w6 hM
    have M12 := Aside0.mk hM
    clear hM
    refine hK.out _ _ ?_
    clear hK K
    refine norm_ (a' := ?_) ?_ ?_
    rotate_left
    · show Act.put _ (some 106) _ = _
      simp only [Act.put, List.setIfInBounds_toArray, List.set_cons_zero, List.set_cons_succ, i64_w, i32_w]
      rfl
    refine pure_ (i := 26) (N := some 4) (v := ?_) (a' := ?_) #[true, true, true, true, true, true, true, true, true, true, true, true, true, true, true, true, true, true, true, true, true, true, true, true, true, true, true] rfl rfl (by kernel_rfl) (fun _ _ _ h => h) (Or.inl ⟨by rfl, ?_⟩) ?_ ?_
    rotate_left
    · intro w'
      go_simp
      with_reducible rfl
    rotate_left
    · simp only [Act.put, List.setIfInBounds_toArray, List.set_cons_zero, List.set_cons_succ, i64_w, i32_w]
      rfl
    refine done_ (by kernel_rfl) ?_
    go_wp2
    go_ret
    obtain ⟨hs1, hs2⟩ := pair_inj ((tChange_other (Int.not_lt.2 H12.out) HU.out H4.out H5.out HZ.out H6.out H7.out).symm.trans HSS.out)
    subst hs1
    subst hs2
    exact ⟨_, _, _, _, _, _, rfl, Mem.sel (ps := [_, _, _, _, _, _, _, _, _]) (F := F) [2, 1, 3, 4, 5, 6, 7] 9 M12.out rfl rfl⟩
  obtain ⟨e7, e7'⟩ := eq_b h7
  have H7 := Aside0.mk h7
  rw [e7] at he
  subst he
  clear h7
  obtain ⟨⟨t, ms2⟩, e2⟩ : ∃ b, states { s1 with f8 := zs } s1.f0 s1.f3 s1.f6 s1.f5 = b := ⟨_, rfl⟩
  have HE := Aside0.mk e2
  clear e2
  have fr2 : Fine { s1 with f8 := zs } := ⟨HF.out.1.i0, HF.out.1.i1, HF.out.1.n5, HF.out.1.w0, HF.out.1.w1, HF.out.1.l5, HF.out.1.p9, HF.out.1.l9, HF.out.1.l10⟩
  have HOL := Aside0.mk (show o1.length ≤ 5 ∧ ms2.length ≤ 5 from ⟨HF.out.2.2.1, states_len fr2 HE.out⟩)
  have q := Aside0.mk (states11_calls w0 w4.drew (row kM 27 (.slice Bo o1.length do_) o1 :: blk w.heap.size 27 (Kx.mA m A c) :: F) g { s1 with f8 := zs } t ms2 s1.f0 s1.f3 s1.f6 s1.f5 _ v7 _ v9b v10b B5 d5 (Mem.sel (ps := [_, _, _, _, _, _, _, _]) (F := F) [2, 3, 4, 5, 6, 7, 0, 1] 8 M10D.out rfl rfl) fr2 (fun w' h => h.row_C 0 rfl) HF.out.1.l5 HE.out)
  clear fr2
  unfold StatesDoes at q
  go_wp2_with fail
  go_upto_region 13 with (fail)
  refine start_ (n := 21) (S := fun w' => (∀ j : Nat, w'.cell? ⟨g, j, none⟩ = w4.cell? ⟨g, j, none⟩)) (ds := [18, 19]) #[false, false, false, false, false, false, false, false, false, false, false, false, false, false, false, false, false, false, false, false, false] (by kernel_rfl) rfl rfl ((fun j => rfl)) (fun hHeld => ?_)
  refine pure_ (i := 0) (N := some 61) (v := ?_) (a' := ?_) #[true, false, false, false, false, false, false, false, false, false, false, false, false, false, false, false, false, false, false, false, false] rfl rfl (by kernel_rfl) (fun _ _ _ h => h) (Or.inl ⟨by rfl, ?_⟩) ?_ ?_
  rotate_left
  · intro w'
    go_simp
    with_reducible rfl
  rotate_left
  · simp only [Act.put, List.setIfInBounds_toArray, List.set_cons_zero, List.set_cons_succ, i64_w, i32_w]
    rfl
  refine pure_ (i := 1) (N := some 62) (v := ?_) (a' := ?_) #[true, true, false, false, false, false, false, false, false, false, false, false, false, false, false, false, false, false, false, false, false] rfl rfl (by kernel_rfl) (fun _ _ _ h => h) (Or.inl ⟨by rfl, ?_⟩) ?_ ?_
  rotate_left
  · intro w'
    go_simp
    with_reducible rfl
  rotate_left
  · simp only [Act.put, List.setIfInBounds_toArray, List.set_cons_zero, List.set_cons_succ, i64_w, i32_w]
    rfl
  refine pure_ (i := 2) (N := some 63) (v := ?_) (a' := ?_) #[true, true, true, false, false, false, false, false, false, false, false, false, false, false, false, false, false, false, false, false, false] rfl rfl (by kernel_rfl) (fun _ _ _ h => h) (Or.inl ⟨by rfl, ?_⟩) ?_ ?_
  rotate_left
  · intro w'
    go_simp
    with_reducible rfl
  rotate_left
  · simp only [Act.put, List.setIfInBounds_toArray, List.set_cons_zero, List.set_cons_succ, i64_w, i32_w]
    rfl
  refine pure_ (i := 3) (N := some 64) (v := ?_) (a' := ?_) #[true, true, true, true, false, false, false, false, false, false, false, false, false, false, false, false, false, false, false, false, false] rfl rfl (by kernel_rfl) (fun _ _ _ h => h) (Or.inl ⟨by rfl, ?_⟩) ?_ ?_
  rotate_left
  · intro w'
    go_simp
    with_reducible rfl
  rotate_left
  · simp only [Act.put, List.setIfInBounds_toArray, List.set_cons_zero, List.set_cons_succ, i64_w, i32_w]
    rfl
  refine pure_ (i := 4) (N := some 65) (v := ?_) (a' := ?_) #[true, true, true, true, true, false, false, false, false, false, false, false, false, false, false, false, false, false, false, false, false] rfl rfl (by kernel_rfl) (fun _ _ _ h => h) (Or.inl ⟨by rfl, ?_⟩) ?_ ?_
  rotate_left
  · intro w'
    go_simp
    with_reducible rfl
  rotate_left
  · simp only [Act.put, List.setIfInBounds_toArray, List.set_cons_zero, List.set_cons_succ, i64_w, i32_w]
    rfl
  refine pure_ (i := 6) (N := some 67) (v := ?_) (a' := ?_) #[true, true, true, true, true, false, true, false, false, false, false, false, false, false, false, false, false, false, false, false, false] rfl rfl (by kernel_rfl) (fun _ _ _ h => h) (Or.inl ⟨by rfl, ?_⟩) ?_ ?_
  rotate_left
  · intro w'
    go_simp
    with_reducible rfl
  rotate_left
  · simp only [Act.put, List.setIfInBounds_toArray, List.set_cons_zero, List.set_cons_succ, i64_w, i32_w]
    rfl
  refine pure_ (i := 7) (N := some 68) (v := ?_) (a' := ?_) #[true, true, true, true, true, false, true, true, false, false, false, false, false, false, false, false, false, false, false, false, false] rfl rfl (by kernel_rfl) (fun _ _ _ h => h) (Or.inl ⟨by rfl, ?_⟩) ?_ ?_
  rotate_left
  · intro w'
    go_simp
    with_reducible rfl
  rotate_left
  · simp only [Act.put, List.setIfInBounds_toArray, List.set_cons_zero, List.set_cons_succ, i64_w, i32_w]
    rfl
  refine pure_ (i := 8) (N := some 69) (v := ?_) (a' := ?_) #[true, true, true, true, true, false, true, true, true, false, false, false, false, false, false, false, false, false, false, false, false] rfl rfl (by kernel_rfl) (fun _ _ _ h => h) (Or.inl ⟨by rfl, ?_⟩) ?_ ?_
  rotate_left
  · intro w'
    go_simp
    with_reducible rfl
  rotate_left
  · simp only [Act.put, List.setIfInBounds_toArray, List.set_cons_zero, List.set_cons_succ, i64_w, i32_w]
    rfl
  refine pure_ (i := 10) (N := some 71) (v := ?_) (a' := ?_) #[true, true, true, true, true, false, true, true, true, false, true, false, false, false, false, false, false, false, false, false, false] rfl rfl (by kernel_rfl) (fun _ _ _ h => h) (Or.inl ⟨by rfl, ?_⟩) ?_ ?_
  rotate_left
  · intro w'
    go_simp
    with_reducible rfl
  rotate_left
  · simp only [Act.put, List.setIfInBounds_toArray, List.set_cons_zero, List.set_cons_succ, i64_w, i32_w]
    rfl
  refine pure_ (i := 11) (N := some 72) (v := ?_) (a' := ?_) #[true, true, true, true, true, false, true, true, true, false, true, true, false, false, false, false, false, false, false, false, false] rfl rfl (by kernel_rfl) (fun _ _ _ h => h) (Or.inl ⟨by rfl, ?_⟩) ?_ ?_
  rotate_left
  · intro w'
    go_simp
    with_reducible rfl
  rotate_left
  · simp only [Act.put, List.setIfInBounds_toArray, List.set_cons_zero, List.set_cons_succ, i64_w, i32_w]
    rfl
  refine pure_ (i := 12) (N := some 73) (v := ?_) (a' := ?_) #[true, true, true, true, true, false, true, true, true, false, true, true, true, false, false, false, false, false, false, false, false] rfl rfl (by kernel_rfl) (fun _ _ _ h => h) (Or.inl ⟨by rfl, ?_⟩) ?_ ?_
  rotate_left
  · intro w'
    go_simp
    with_reducible rfl
  rotate_left
  · simp only [Act.put, List.setIfInBounds_toArray, List.set_cons_zero, List.set_cons_succ, i64_w, i32_w]
    rfl
  refine pure_ (i := 14) (N := some 75) (v := ?_) (a' := ?_) #[true, true, true, true, true, false, true, true, true, false, true, true, true, false, true, false, false, false, false, false, false] rfl rfl (by kernel_rfl) (fun _ _ _ h => h) (Or.inl ⟨by rfl, ?_⟩) ?_ ?_
  rotate_left
  · intro w'
    go_simp
    with_reducible rfl
  rotate_left
  · simp only [Act.put, List.setIfInBounds_toArray, List.set_cons_zero, List.set_cons_succ, i64_w, i32_w]
    rfl
  refine pure_ (i := 15) (N := some 76) (v := ?_) (a' := ?_) #[true, true, true, true, true, false, true, true, true, false, true, true, true, false, true, true, false, false, false, false, false] rfl rfl (by kernel_rfl) (fun _ _ _ h => h) (Or.inl ⟨by rfl, ?_⟩) ?_ ?_
  rotate_left
  · intro w'
    go_simp
    with_reducible rfl
  rotate_left
  · simp only [Act.put, List.setIfInBounds_toArray, List.set_cons_zero, List.set_cons_succ, i64_w, i32_w]
    rfl
  refine pure_ (i := 16) (N := some 77) (v := ?_) (a' := ?_) #[true, true, true, true, true, false, true, true, true, false, true, true, true, false, true, true, true, false, false, false, false] rfl rfl (by kernel_rfl) (fun _ _ _ h => h) (Or.inl ⟨by rfl, ?_⟩) ?_ ?_
  rotate_left
  · intro w'
    go_simp
    with_reducible rfl
  rotate_left
  · simp only [Act.put, List.setIfInBounds_toArray, List.set_cons_zero, List.set_cons_succ, i64_w, i32_w]
    rfl
  refine take_ (i := 5) (N := some 66) (v := ?_) (a' := ?_) #[true, true, true, true, true, true, true, true, true, false, true, true, true, false, true, true, true, false, false, false, false] rfl rfl (by kernel_rfl) (fun _ _ _ h => h) (Or.inl ⟨by rfl, ?_⟩) hHeld ?_ ?_
  rotate_left
  · intro w' s0
    go_simp
    with_reducible rfl
  rotate_left
  · simp only [Act.put, List.setIfInBounds_toArray, List.set_cons_zero, List.set_cons_succ, i64_w, i32_w]
    rfl
  refine take_ (i := 9) (N := some 70) (v := ?_) (a' := ?_) #[true, true, true, true, true, true, true, true, true, true, true, true, true, false, true, true, true, false, false, false, false] rfl rfl (by kernel_rfl) (fun _ _ _ h => h) (Or.inl ⟨by rfl, ?_⟩) hHeld ?_ ?_
  rotate_left
  · intro w' s0
    go_simp
    with_reducible rfl
  rotate_left
  · simp only [Act.put, List.setIfInBounds_toArray, List.set_cons_zero, List.set_cons_succ, i64_w, i32_w]
    rfl
  refine take_ (i := 13) (N := some 74) (v := ?_) (a' := ?_) #[true, true, true, true, true, true, true, true, true, true, true, true, true, true, true, true, true, false, false, false, false] rfl rfl (by kernel_rfl) (fun _ _ _ h => h) (Or.inl ⟨by rfl, ?_⟩) hHeld ?_ ?_
  rotate_left
  · intro w' s0
    go_simp
    with_reducible rfl
  rotate_left
  · simp only [Act.put, List.setIfInBounds_toArray, List.set_cons_zero, List.set_cons_succ, i64_w, i32_w]
    rfl
  refine take_ (i := 17) (N := some 78) (v := ?_) (a' := ?_) #[true, true, true, true, true, true, true, true, true, true, true, true, true, true, true, true, true, true, false, false, false] rfl rfl (by kernel_rfl) (fun _ _ _ h => h) (Or.inl ⟨by rfl, ?_⟩) hHeld ?_ ?_
  rotate_left
  · intro w' s0
    go_simp
    with_reducible rfl
  rotate_left
  · simp only [Act.put, List.setIfInBounds_toArray, List.set_cons_zero, List.set_cons_succ, i64_w, i32_w]
    rfl
  refine last_ (i := 18) (N := some 79) #[true, true, true, true, true, true, true, true, true, true, true, true, true, true, true, true, true, true, true, false, false] rfl rfl (by kernel_rfl) (by decide) (fun K hK => ?_)
  refine goes_ Tryz.func115 (by kernel_rfl) rfl #[.pointer (some ⟨g, 0, none⟩), .int .i64 s1.f0, .int .i64 s1.f3, .int .i64 s1.f6, .slice B5 s1.f5.length d5] (by rfl) rfl rfl (by simp only [List.map_toArray, List.map_cons, List.map_nil]; rfl) ?_
  with_reducible refine (q.out).mono ?_
  rintro e w5 ⟨vq, v5', v7', v8', v9', v10', rfl, hM⟩
  refine ⟨_, rfl, ?_⟩
  obtain ⟨Bq, dq, rfl, _, _⟩ := hM.row_at 6 rfl
  have M11 := Aside0.mk hM
  clear hM
  refine hK.out _ _ ?_
  clear hK K
  refine norm_ (a' := ?_) ?_ ?_
  rotate_left
  · show Act.put _ (some 79) _ = _
    simp only [Act.put, List.setIfInBounds_toArray, List.set_cons_zero, List.set_cons_succ, i64_w, i32_w]
    rfl
  refine last_ (i := 19) (N := some 80) #[true, true, true, true, true, true, true, true, true, true, true, true, true, true, true, true, true, true, true, true, false] rfl rfl (by kernel_rfl) (by decide) (fun K hK => ?_)
  refine Am.Mem.appM_step kM M11.out 7 6 _ o1 ms2 (by decide) (by rfl) (.tmp 61) (.tmp 79) 60 27 27 _ _ rfl Tryz.underlying60 infoMsg rfl (by decide) (by omega) Bq ms2.length dq (by first | rfl | simp [Act.eval, Act.put]) (by first | rfl | simp [Act.eval, Act.put]) rfl rfl (by have := HOL.out; omega) ?_
  intro v1 w6 hM
  have M12 := Aside0.mk hM
  clear hM
  refine hK.out _ _ ?_
  clear hK K
  refine norm_ (a' := ?_) ?_ ?_
  rotate_left
  · show Act.put _ (some 80) _ = _
    simp only [Act.put, List.setIfInBounds_toArray, List.set_cons_zero, List.set_cons_succ, i64_w, i32_w]
    rfl
  refine pure_ (i := 20) (N := some 4) (v := ?_) (a' := ?_) #[true, true, true, true, true, true, true, true, true, true, true, true, true, true, true, true, true, true, true, true, true] rfl rfl (by kernel_rfl) (fun _ _ _ h => h) (Or.inl ⟨by rfl, ?_⟩) ?_ ?_
  rotate_left
  · intro w'
    go_simp
    with_reducible rfl
  rotate_left
  · simp only [Act.put, List.setIfInBounds_toArray, List.set_cons_zero, List.set_cons_succ, i64_w, i32_w]
    rfl
  refine done_ (by kernel_rfl) ?_
  go_wp2
  go_ret
  obtain ⟨hs1, hs2⟩ := pair_inj ((tChange_self (Int.not_lt.2 H12.out) HU.out H4.out H5.out HZ.out H6.out H7.out HE.out).symm.trans HSS.out)
  subst hs1
  subst hs2
  exact ⟨_, _, _, _, _, _, rfl, Mem.sel (ps := [_, _, _, _, _, _, _, _, _]) (F := F) [0, 1, 2, 3, 4, 5, 7] 9 M12.out rfl rfl⟩
theorem change11_does (w0 w : World) (F : List Res) (g : Nat) (r s : Rep) (m : Msg) (v5 v7 v8 v9 v10 : Value) (ms : List Msg) (A : Option Addr) (c : Nat) (hM : Mem w0 w (qS g r v5 r.f5 r.f6 v7 v8 v9 v10 F)) (H0 : Change11In r m) (hs : tChange r m = (s, ms)) : Change11Does w0 w F g m A c s ms := by
  by_cases h1 : m.f3 < r.f2
  · obtain ⟨e1, e2⟩ := pair_inj ((tChange_low h1).symm.trans hs)
    subst e1
    subst e2
    exact change11_low w0 w F g r r m v5 v7 v8 v9 v10 [] A c hM H0 h1
  · exact change11_on w0 w F g r s m v5 v7 v8 v9 v10 ms A c hM H0 h1 hs
end Go.Proofs.YtggbjokhniigkaaGreat.Cu
