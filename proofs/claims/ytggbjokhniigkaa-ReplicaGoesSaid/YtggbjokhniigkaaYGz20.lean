/- Texts laid together: Ce. No condition. -/
import Derived.Test.YtggbjokhniigkaaYGz19
set_option linter.unusedVariables false
set_option linter.unusedSimpArgs false
set_option maxRecDepth 100000
set_option maxHeartbeats 8000000
namespace Go.Proofs.Ytggbjokhniigkaa.Ce
open Lx Ty Go.RowKit YtggbjokhniigkaaW.PrintWords YtggbjokhniigkaaW.PrintLast YtggbjokhniigkaaW.PrintMore Mx Kx Wa Tk We Sa Tl Wj Wd Cx Jn Mo Cs
def ChangesDoes (w0 w : World) (F : List Res) (g : Nat) (m : Msg) (A : Option Addr) (c : Nat) (s : Rep) (out : List Msg) : Prop :=
  Calls Try.prog 98 #[.pointer (some ⟨g, 0, none⟩), .agg (Kx.mA m A c)] w fun e w' => e = .returned (.tuple #[]) ∧ ∃ v5' v7' v8' v9' v10' vout' : Value, Mem w0 w' (wS g s v5' s.f5 s.f6 v7' v8' v9' v10' vout' out F)
structure ChangesIn (r : Rep) (m : Msg) (out : List Msg) : Prop where
  fr : Fine r
  f8 : r.f8.Pairwise (fun a b => a < b) ∧ r.f8.length ≤ 20
  hv : 0 ≤ m.f3
  hv1 : m.f3 ≤ 4611686018427387904
  ho : out.length ≤ 900
theorem changes_low (w0 w : World) (F : List Res) (g : Nat) (r s : Rep) (m : Msg) (v5 v7 v8 v9 v10 vo : Value) (out ms : List Msg) (A : Option Addr) (c : Nat) (hM : Mem w0 w (wS g r v5 r.f5 r.f6 v7 v8 v9 v10 vo out F)) (H0 : ChangesIn r m out) (h1 : m.f3 < r.f2) : ChangesDoes w0 w F g m A c r (out ++ []) := by
  have e1 : decide (m.f3 < r.f2) = true := decide_eq_true h1
  clear h1
  unfold ChangesDoes
  obtain ⟨fr, f8, hv, hv1, ho⟩ := H0
  obtain ⟨B5, d5, rfl, hd5, _⟩ := hM.row_at 2 rfl
  have FR := Aside0.mk fr
  have F8 := Aside0.mk f8
  have HV := Aside0.mk (show 0 ≤ m.f3 ∧ m.f3 ≤ 4611686018427387904 from ⟨hv, hv1⟩)
  have HN := Aside0.mk (show out.length ≤ 900 ∧ r.f5.length ≤ d5 from ⟨ho, hd5⟩)
  have M1 := Aside0.mk (hM.alloc (Kx.mA m A c) 29)
  clear hM fr f8 hv hv1 ho hd5
  have cM := blk_cell (M1.out.blk_at 0 rfl)
  have cG := blk_cell (M1.out.blk_at 1 rfl)
  unfold Wa.wc at cG
  go_enter Try.func98, Try.ntmps98
  go_wp2_with fail
  go_quiet (fail)
  go_wp2
  first | go_end0 | (refine bodyPost_ret (results_none rfl _ _ _) rfl ?_)
  rw [List.append_nil]
  exact ⟨rfl, _, _, _, _, _, _, Mem.sel (ps := [_, _, _, _, _, _, _, _]) (F := F) [1, 2, 3, 4, 5, 6, 7] 8 (M1.out.drewN _) rfl rfl⟩
theorem changes_on (w0 w : World) (F : List Res) (g : Nat) (r s : Rep) (m : Msg) (v5 v7 v8 v9 v10 vo : Value) (out ms : List Msg) (A : Option Addr) (c : Nat) (hM : Mem w0 w (wS g r v5 r.f5 r.f6 v7 v8 v9 v10 vo out F)) (H0 : ChangesIn r m out) (h1 : ¬ m.f3 < r.f2) (hs : tChange r m = (s, ms)) : ChangesDoes w0 w F g m A c s (out ++ ms) := by
  have HSS := Aside0.mk hs
  have H12 := Aside0.mk (Int.not_lt.1 h1)
  have e1 : decide (m.f3 < r.f2) = false := decide_eq_false h1
  clear hs h1
  unfold ChangesDoes
  obtain ⟨fr, f8, hv, hv1, ho⟩ := H0
  obtain ⟨B5, d5, rfl, hd5, _⟩ := hM.row_at 2 rfl
  have FR := Aside0.mk fr
  have F8 := Aside0.mk f8
  have HV := Aside0.mk (show 0 ≤ m.f3 ∧ m.f3 ≤ 4611686018427387904 from ⟨hv, hv1⟩)
  have HN := Aside0.mk (show out.length ≤ 900 ∧ r.f5.length ≤ d5 from ⟨ho, hd5⟩)
  have M1 := Aside0.mk (hM.alloc (Kx.mA m A c) 29)
  clear hM fr f8 hv hv1 ho hd5
  have cM := blk_cell (M1.out.blk_at 0 rfl)
  have cG := blk_cell (M1.out.blk_at 1 rfl)
  unfold Wa.wc at cG
  go_enter Try.func98, Try.ntmps98
  go_wp2_with fail
  go_quiet (fail)
  go_wp2_with fail
  go_quiet (fail)
  clear e1
  go_upto_if 23 with (fail)
  go_cut [] (fun wx => ∃ (s1 : Rep) (o1 : List Msg) (v8b v9b v10b vob : Value), Aside0 (upTo r m.f3 = (s1, o1)) ∧ Aside0 (Mem w0 wx (blk w.heap.size 29 (Kx.mA m A c) :: blk g 99 (Wa.wc s1.f0 s1.f1 s1.f2 s1.f3 s1.f4 (.slice B5 s1.f5.length d5) s1.f6 v7 v8b v9b v10b s1.f11 s1.f12 vob) :: row kM 29 vob (out ++ o1) :: row kE 102 (.slice B5 s1.f5.length d5) s1.f5 :: row (Kd.int .i64) 3 v7 s1.f7 :: row (Kd.int .i64) 3 v8b s1.f8 :: row (Kd.int .i64) 3 v9b s1.f9 :: row kE 102 v10b s1.f10 :: F)))
  case first =>
    go_wp2_with fail
    · have HU0 := Aside0.mk (upTo_yes (show r.f2 < m.f3 by assumption))
      refine (change_calls w0 _ _ g r.f0 r.f1 r.f2 r.f3 r.f4 _ r.f6 _ _ _ _ r.f11 r.f12 _ out m.f3 (Mem.sel (ps := [_, _, _, _, _, _, _, _]) (F := F) [1, 2, 0, 3, 4] 8 (M1.out.drewN _) rfl rfl) (by have := FR.out.i0; have := FR.out.i1; omega) FR.out.n5 (Nat.le_trans HN.out.1 (by decide))).mono ?_
      rintro e w1 ⟨vv', vout', rfl, hM⟩
      go_wp2_with fail
      go_meet
      case rel => exact ⟨Ty.change r m.f3, _, _, _, _, _, HU0, ⟨Mem.sel (ps := [_, _, _, _, _, _, _, _]) (F := F) [5, 2, 3, 6, 7, 4, 1, 0] 8 (Mem.row_nil (Mem.row_nil hM (Kd.int .i64) 3) kE 102) rfl rfl⟩⟩
    · have HU0 := Aside0.mk (upTo_no (Int.not_lt.2 (show m.f3 ≤ r.f2 by assumption)))
      go_meet
      case rel => exact ⟨r, [], _, _, _, _, HU0, ⟨by rw [List.append_nil]; exact (M1.out.drewN _).drewN _⟩⟩
  case rest =>
  obtain ⟨s1, o1, v8b, v9b, v10b, vob, HU, M2⟩ := hcut
  clear M1 cM cG
  have HF := Aside0.mk (upTo_fine FR.out HV.out.1 HV.out.2 HU.out)
  have H8 := Aside0.mk (upTo_votes F8.out HU.out)
  have HO := Aside0.mk (show (out ++ o1).length ≤ 905 by rw [List.length_append]; have := HF.out.2.2.1; have := HN.out; omega)
  have HD5 : Aside0 (s1.f5.length ≤ d5) := ⟨by rw [HF.out.2.1]; exact HN.out.2⟩
  obtain ⟨B8, d8, rfl, _, _⟩ := M2.out.row_at 5 rfl
  have HM0 := Aside0.mk (blk_cell (M2.out.blk_at 0 rfl))
  have HG0 := Aside0.mk (blk_cell (M2.out.blk_at 1 rfl))
  have cM := HM0.out
  have cG := HG0.out
  unfold Wa.wc at cG
  by_cases h4 : s1.f4 = 1
  case neg =>
    obtain ⟨e4, e4'⟩ := ne_b h4
    go_wp2
    first | go_end0 | (refine bodyPost_ret (results_none rfl _ _ _) rfl ?_)
    obtain ⟨hs1, hs2⟩ := pair_inj ((tChange_idle (Int.not_lt.2 H12.out) HU.out h4).symm.trans HSS.out)
    subst hs1
    subst hs2
    exact ⟨rfl, _, _, _, _, _, _, Mem.sel (ps := [_, _, _, _, _, _, _, _]) (F := F) [1, 2, 3, 4, 5, 6, 7] 8 M2.out rfl rfl⟩
  have H4 := Aside0.mk h4
  obtain ⟨e4, e4'⟩ := eq_b h4
  clear h4
  go_wp2_with fail
  by_cases h5 : m.f1 ∈ s1.f8
  · have H5 := Aside0.mk h5
    have JN : Aside0 (∀ wd : World, Mem w0 wd (blk w.heap.size 29 (Kx.mA m A c) :: blk g 99 (Wa.wc s1.f0 s1.f1 s1.f2 s1.f3 s1.f4 (.slice B5 s1.f5.length d5) s1.f6 v7 (.slice B8 s1.f8.length d8) v9b v10b s1.f11 s1.f12 vob) :: row kM 29 vob (out ++ o1) :: row kE 102 (.slice B5 s1.f5.length d5) s1.f5 :: row (Kd.int .i64) 3 v7 s1.f7 :: row (Kd.int .i64) 3 (.slice B8 s1.f8.length d8) s1.f8 :: row (Kd.int .i64) 3 v9b s1.f9 :: row kE 102 v10b s1.f10 :: F) → Calls Try.prog 110 #[.slice B8 s1.f8.length d8, .int .i64 m.f1] wd fun e w' => e = .returned (.tuple #[.slice B8 s1.f8.length d8, .bool false]) ∧ Mem w0 w' (blk w.heap.size 29 (Kx.mA m A c) :: blk g 99 (Wa.wc s1.f0 s1.f1 s1.f2 s1.f3 s1.f4 (.slice B5 s1.f5.length d5) s1.f6 v7 (.slice B8 s1.f8.length d8) v9b v10b s1.f11 s1.f12 vob) :: row kM 29 vob (out ++ o1) :: row kE 102 (.slice B5 s1.f5.length d5) s1.f5 :: row (Kd.int .i64) 3 v7 s1.f7 :: row (Kd.int .i64) 3 (.slice B8 s1.f8.length d8) s1.f8 :: row (Kd.int .i64) 3 v9b s1.f9 :: row kE 102 v10b s1.f10 :: F)) := ⟨fun wd hMd => by
      refine (joined_in w0 wd _ _ s1.f8 m.f1 (Mem.sel (ps := [_, _, _, _, _, _, _, _]) (F := F) [5, 0, 1, 2, 3, 4, 6, 7] 8 hMd rfl rfl) (Nat.le_trans H8.out.2 (by decide)) H8.out.1 H5.out).mono ?_
      rintro e w' ⟨rfl, hM⟩
      exact ⟨rfl, Mem.sel (ps := [_, _, _, _, _, _, _, _]) (F := F) [1, 2, 3, 4, 5, 0, 6, 7] 8 hM rfl rfl⟩⟩
    clear h5
    go_upto_region 5 with (fail)
    have M2D := Aside0.mk M2.out.drew
    have HS0 := Aside0.mk (show (∀ j : Nat, wc.drew.cell? ⟨w.heap.size, j, none⟩ = wc.cell? ⟨w.heap.size, j, none⟩) ∧ (∀ j : Nat, wc.drew.cell? ⟨g, j, none⟩ = wc.cell? ⟨g, j, none⟩) from ⟨fun _ => rfl, fun _ => rfl⟩)
    have H9 := HS0
    go_region_held3 (fun w' => (∀ j : Nat, w'.cell? ⟨w.heap.size, j, none⟩ = wc.cell? ⟨w.heap.size, j, none⟩) ∧ (∀ j : Nat, w'.cell? ⟨g, j, none⟩ = wc.cell? ⟨g, j, none⟩)) (first | with_reducible exact HS0.out | with_reducible exact H9.out | fail) ((go_at_call 110; refine (JN.out _ M2D.out).mono ?_; rintro e w1 ⟨rfl, hM⟩; have M3 := Aside0.mk hM; clear hM; have H9 := Aside0.mk (show (∀ j : Nat, w1.cell? ⟨w.heap.size, j, none⟩ = wc.cell? ⟨w.heap.size, j, none⟩) ∧ (∀ j : Nat, w1.cell? ⟨g, j, none⟩ = wc.cell? ⟨g, j, none⟩) from ⟨fun j => (blk_cell (M3.out.blk_at 0 rfl) j).trans (HM0.out j).symm, fun j => (blk_cell (M3.out.blk_at 1 rfl) j).trans (HG0.out j).symm⟩)))
    clear H9 HS0 M2D JN M2 HM0 HG0
    have fG3 := blk_frozen (M3.out.blk_at 1 rfl)
    have gG3 := blk_lt (M3.out.blk_at 1 rfl)
    have M4 := Aside0.mk (M3.out.set 1 rfl 8 (.slice B8 s1.f8.length d8))
    go_wp2
    first | go_end0 | (refine bodyPost_ret (results_none rfl _ _ _) rfl ?_)
    obtain ⟨hs1, hs2⟩ := pair_inj ((tChange_in (Int.not_lt.2 H12.out) HU.out H4.out H5.out).symm.trans HSS.out)
    subst hs1
    subst hs2
    exact ⟨rfl, _, _, _, _, _, _, Mem.sel (ps := [_, _, _, _, _, _, _, _]) (F := F) [1, 2, 3, 4, 5, 6, 7] 8 M4.out rfl rfl⟩
  have H5 := Aside0.mk h5
  clear h5
  obtain ⟨zs, hz⟩ : ∃ zs, insertId s1.f8 m.f1 = zs := ⟨_, rfl⟩
  have HZ := Aside0.mk hz
  clear hz
  have JN : Aside0 (∀ wd : World, Mem w0 wd (blk w.heap.size 29 (Kx.mA m A c) :: blk g 99 (Wa.wc s1.f0 s1.f1 s1.f2 s1.f3 s1.f4 (.slice B5 s1.f5.length d5) s1.f6 v7 (.slice B8 s1.f8.length d8) v9b v10b s1.f11 s1.f12 vob) :: row kM 29 vob (out ++ o1) :: row kE 102 (.slice B5 s1.f5.length d5) s1.f5 :: row (Kd.int .i64) 3 v7 s1.f7 :: row (Kd.int .i64) 3 (.slice B8 s1.f8.length d8) s1.f8 :: row (Kd.int .i64) 3 v9b s1.f9 :: row kE 102 v10b s1.f10 :: F) → Calls Try.prog 110 #[.slice B8 s1.f8.length d8, .int .i64 m.f1] wd fun e w' => ∃ (B8n : Option Addr) (d8n : Nat), e = .returned (.tuple #[(.slice B8n zs.length d8n), .bool true]) ∧ Mem w0 w' (row (Kd.int .i64) 3 (.slice B8n zs.length d8n) zs :: blk w.heap.size 29 (Kx.mA m A c) :: blk g 99 (Wa.wc s1.f0 s1.f1 s1.f2 s1.f3 s1.f4 (.slice B5 s1.f5.length d5) s1.f6 v7 (.slice B8 s1.f8.length d8) v9b v10b s1.f11 s1.f12 vob) :: row kM 29 vob (out ++ o1) :: row kE 102 (.slice B5 s1.f5.length d5) s1.f5 :: row (Kd.int .i64) 3 v7 s1.f7 :: row (Kd.int .i64) 3 (.slice B8 s1.f8.length d8) s1.f8 :: row (Kd.int .i64) 3 v9b s1.f9 :: row kE 102 v10b s1.f10 :: F)) := ⟨fun wd hMd => by
    refine (joined_not w0 wd _ _ s1.f8 m.f1 (Mem.sel (ps := [_, _, _, _, _, _, _, _]) (F := F) [5, 0, 1, 2, 3, 4, 6, 7] 8 hMd rfl rfl) (Nat.le_trans H8.out.2 (by decide)) H8.out.1 H5.out zs HZ.out).mono ?_
    rintro e w' ⟨v', rfl, hM⟩
    obtain ⟨B8n, d8n, rfl, _, _⟩ := hM.row_at 0 rfl
    exact ⟨_, _, rfl, Mem.sel (ps := [_, _, _, _, _, _, _, _, _]) (F := F) [0, 2, 3, 4, 5, 6, 1, 7, 8] 9 hM rfl rfl⟩⟩
  go_upto_region 5 with (fail)
  have M2D := Aside0.mk M2.out.drew
  have HS0 := Aside0.mk (show (∀ j : Nat, wc.drew.cell? ⟨w.heap.size, j, none⟩ = wc.cell? ⟨w.heap.size, j, none⟩) ∧ (∀ j : Nat, wc.drew.cell? ⟨g, j, none⟩ = wc.cell? ⟨g, j, none⟩) from ⟨fun _ => rfl, fun _ => rfl⟩)
  have H9 := HS0
  go_region_held3 (fun w' => (∀ j : Nat, w'.cell? ⟨w.heap.size, j, none⟩ = wc.cell? ⟨w.heap.size, j, none⟩) ∧ (∀ j : Nat, w'.cell? ⟨g, j, none⟩ = wc.cell? ⟨g, j, none⟩)) (first | with_reducible exact HS0.out | with_reducible exact H9.out | fail) ((go_at_call 110; refine (JN.out _ M2D.out).mono ?_; rintro e w1 ⟨B8n, d8n, rfl, hM⟩; have M3 := Aside0.mk hM; clear hM; have H9 := Aside0.mk (show (∀ j : Nat, w1.cell? ⟨w.heap.size, j, none⟩ = wc.cell? ⟨w.heap.size, j, none⟩) ∧ (∀ j : Nat, w1.cell? ⟨g, j, none⟩ = wc.cell? ⟨g, j, none⟩) from ⟨fun j => (blk_cell (M3.out.blk_at 1 rfl) j).trans (HM0.out j).symm, fun j => (blk_cell (M3.out.blk_at 2 rfl) j).trans (HG0.out j).symm⟩)))
  clear H9 HS0 M2D JN M2 HM0 HG0
  have fG3 := blk_frozen (M3.out.blk_at 2 rfl)
  have gG3 := blk_lt (M3.out.blk_at 2 rfl)
  have nG1 := blk_apart M3.out 1 2 rfl rfl (by decide)
  have nG2 := blk_apart M3.out 2 1 rfl rfl (by decide)
  have M4 := Aside0.mk (Mem.sel (ps := [_, _, _, _, _, _, _, _, _]) (F := F) [1, 2, 3, 4, 5, 0, 7, 8] 9 (M3.out.set 2 rfl 8 (.slice B8n zs.length d8n)) rfl rfl)
  go_wp2_with fail
  refine (most_calls _ g s1.f0 s1.f1 s1.f2 s1.f3 s1.f4 _ s1.f6 _ _ _ _ s1.f11 s1.f12 _ (M4.out.blk_at 1 rfl) (by have := HF.out.1.i0; have := HF.out.1.i1; omega) HF.out.1.n5).mono ?_
  rintro e w2 ⟨rfl, hD⟩
  have M7 : Aside0 (Mem w0 w2 (blk w.heap.size 29 (Kx.mA m A c) :: blk g 99 (Wa.wc s1.f0 s1.f1 s1.f2 s1.f3 s1.f4 (.slice B5 s1.f5.length d5) s1.f6 v7 (.slice B8n zs.length d8n) v9b v10b s1.f11 s1.f12 vob) :: row kM 29 vob (out ++ o1) :: row kE 102 (.slice B5 s1.f5.length d5) s1.f5 :: row (Kd.int .i64) 3 v7 s1.f7 :: row (Kd.int .i64) 3 (.slice B8n zs.length d8n) zs :: row (Kd.int .i64) 3 v9b s1.f9 :: row kE 102 v10b s1.f10 :: F)) := ⟨M4.out.drawn hD⟩
  clear cM cG M4 M3 hD fG3 gG3 nG1 nG2
  try clear hHeld
  have HG0 := Aside0.mk (blk_cell (M7.out.blk_at 1 rfl))
  have cG := HG0.out
  unfold Wa.wc at cG
  by_cases h6 : (zs.length : Int) = most s1.f1
  case neg =>
    obtain ⟨e6, e6'⟩ := ne_b h6
    have H6 := Aside0.mk h6
    clear h6
    go_wp2
    first | go_end0 | (refine bodyPost_ret (results_none rfl _ _ _) rfl ?_)
    obtain ⟨hs1, hs2⟩ := pair_inj ((tChange_few (Int.not_lt.2 H12.out) HU.out H4.out H5.out HZ.out H6.out).symm.trans HSS.out)
    subst hs1
    subst hs2
    exact ⟨rfl, _, _, _, _, _, _, Mem.sel (ps := [_, _, _, _, _, _, _, _]) (F := F) [1, 2, 3, 4, 5, 6, 7] 8 M7.out rfl rfl⟩
  obtain ⟨e6, e6'⟩ := eq_b h6
  have H6 := Aside0.mk h6
  clear h6
  go_wp2_with fail
  have M7D := Aside0.mk M7.out.drew
  go_upto_region 8 with (fail)
  refine start_ (n := 18) (S := fun w' => (∀ j : Nat, w'.cell? ⟨g, j, none⟩ = w2.cell? ⟨g, j, none⟩)) (ds := [17]) #[false, false, false, false, false, false, false, false, false, false, false, false, false, false, false, false, false, false] (by kernel_rfl) rfl rfl ((fun j => rfl)) (fun hHeld => ?_)
  refine pure_ (i := 0) (N := some 59) (v := ?_) (a' := ?_) #[true, false, false, false, false, false, false, false, false, false, false, false, false, false, false, false, false, false] rfl rfl (by kernel_rfl) (fun _ _ _ h => h) (Or.inl ⟨by rfl, ?_⟩) ?_ ?_
  rotate_left
  · intro w'
    go_simp
    with_reducible rfl
  rotate_left
  · simp only [Act.put, List.setIfInBounds_toArray, List.set_cons_zero, List.set_cons_succ, i64_w, i32_w]
    rfl
  refine pure_ (i := 1) (N := some 60) (v := ?_) (a' := ?_) #[true, true, false, false, false, false, false, false, false, false, false, false, false, false, false, false, false, false] rfl rfl (by kernel_rfl) (fun _ _ _ h => h) (Or.inl ⟨by rfl, ?_⟩) ?_ ?_
  rotate_left
  · intro w'
    go_simp
    with_reducible rfl
  rotate_left
  · simp only [Act.put, List.setIfInBounds_toArray, List.set_cons_zero, List.set_cons_succ, i64_w, i32_w]
    rfl
  refine pure_ (i := 2) (N := some 61) (v := ?_) (a' := ?_) #[true, true, true, false, false, false, false, false, false, false, false, false, false, false, false, false, false, false] rfl rfl (by kernel_rfl) (fun _ _ _ h => h) (Or.inl ⟨by rfl, ?_⟩) ?_ ?_
  rotate_left
  · intro w'
    go_simp
    with_reducible rfl
  rotate_left
  · simp only [Act.put, List.setIfInBounds_toArray, List.set_cons_zero, List.set_cons_succ, i64_w, i32_w]
    rfl
  refine pure_ (i := 3) (N := some 62) (v := ?_) (a' := ?_) #[true, true, true, true, false, false, false, false, false, false, false, false, false, false, false, false, false, false] rfl rfl (by kernel_rfl) (fun _ _ _ h => h) (Or.inl ⟨by rfl, ?_⟩) ?_ ?_
  rotate_left
  · intro w'
    go_simp
    with_reducible rfl
  rotate_left
  · simp only [Act.put, List.setIfInBounds_toArray, List.set_cons_zero, List.set_cons_succ, i64_w, i32_w]
    rfl
  refine pure_ (i := 5) (N := some 64) (v := ?_) (a' := ?_) #[true, true, true, true, false, true, false, false, false, false, false, false, false, false, false, false, false, false] rfl rfl (by kernel_rfl) (fun _ _ _ h => h) (Or.inl ⟨by rfl, ?_⟩) ?_ ?_
  rotate_left
  · intro w'
    go_simp
    with_reducible rfl
  rotate_left
  · simp only [Act.put, List.setIfInBounds_toArray, List.set_cons_zero, List.set_cons_succ, i64_w, i32_w]
    rfl
  refine pure_ (i := 6) (N := some 65) (v := ?_) (a' := ?_) #[true, true, true, true, false, true, true, false, false, false, false, false, false, false, false, false, false, false] rfl rfl (by kernel_rfl) (fun _ _ _ h => h) (Or.inl ⟨by rfl, ?_⟩) ?_ ?_
  rotate_left
  · intro w'
    go_simp
    with_reducible rfl
  rotate_left
  · simp only [Act.put, List.setIfInBounds_toArray, List.set_cons_zero, List.set_cons_succ, i64_w, i32_w]
    rfl
  refine pure_ (i := 7) (N := some 66) (v := ?_) (a' := ?_) #[true, true, true, true, false, true, true, true, false, false, false, false, false, false, false, false, false, false] rfl rfl (by kernel_rfl) (fun _ _ _ h => h) (Or.inl ⟨by rfl, ?_⟩) ?_ ?_
  rotate_left
  · intro w'
    go_simp
    with_reducible rfl
  rotate_left
  · simp only [Act.put, List.setIfInBounds_toArray, List.set_cons_zero, List.set_cons_succ, i64_w, i32_w]
    rfl
  refine pure_ (i := 8) (N := some 67) (v := ?_) (a' := ?_) #[true, true, true, true, false, true, true, true, true, false, false, false, false, false, false, false, false, false] rfl rfl (by kernel_rfl) (fun _ _ _ h => h) (Or.inl ⟨by rfl, ?_⟩) ?_ ?_
  rotate_left
  · intro w'
    go_simp
    with_reducible rfl
  rotate_left
  · simp only [Act.put, List.setIfInBounds_toArray, List.set_cons_zero, List.set_cons_succ, i64_w, i32_w]
    rfl
  refine pure_ (i := 10) (N := some 69) (v := ?_) (a' := ?_) #[true, true, true, true, false, true, true, true, true, false, true, false, false, false, false, false, false, false] rfl rfl (by kernel_rfl) (fun _ _ _ h => h) (Or.inl ⟨by rfl, ?_⟩) ?_ ?_
  rotate_left
  · intro w'
    go_simp
    with_reducible rfl
  rotate_left
  · simp only [Act.put, List.setIfInBounds_toArray, List.set_cons_zero, List.set_cons_succ, i64_w, i32_w]
    rfl
  refine pure_ (i := 11) (N := some 70) (v := ?_) (a' := ?_) #[true, true, true, true, false, true, true, true, true, false, true, true, false, false, false, false, false, false] rfl rfl (by kernel_rfl) (fun _ _ _ h => h) (Or.inl ⟨by rfl, ?_⟩) ?_ ?_
  rotate_left
  · intro w'
    go_simp
    with_reducible rfl
  rotate_left
  · simp only [Act.put, List.setIfInBounds_toArray, List.set_cons_zero, List.set_cons_succ, i64_w, i32_w]
    rfl
  refine pure_ (i := 12) (N := some 71) (v := ?_) (a' := ?_) #[true, true, true, true, false, true, true, true, true, false, true, true, true, false, false, false, false, false] rfl rfl (by kernel_rfl) (fun _ _ _ h => h) (Or.inl ⟨by rfl, ?_⟩) ?_ ?_
  rotate_left
  · intro w'
    go_simp
    with_reducible rfl
  rotate_left
  · simp only [Act.put, List.setIfInBounds_toArray, List.set_cons_zero, List.set_cons_succ, i64_w, i32_w]
    rfl
  refine pure_ (i := 13) (N := some 72) (v := ?_) (a' := ?_) #[true, true, true, true, false, true, true, true, true, false, true, true, true, true, false, false, false, false] rfl rfl (by kernel_rfl) (fun _ _ _ h => h) (Or.inl ⟨by rfl, ?_⟩) ?_ ?_
  rotate_left
  · intro w'
    go_simp
    with_reducible rfl
  rotate_left
  · simp only [Act.put, List.setIfInBounds_toArray, List.set_cons_zero, List.set_cons_succ, i64_w, i32_w]
    rfl
  refine take_ (i := 4) (N := some 63) (v := ?_) (a' := ?_) #[true, true, true, true, true, true, true, true, true, false, true, true, true, true, false, false, false, false] rfl rfl (by kernel_rfl) (fun _ _ _ h => h) (Or.inl ⟨by rfl, ?_⟩) hHeld ?_ ?_
  rotate_left
  · intro w' s0
    go_simp
    with_reducible rfl
  rotate_left
  · simp only [Act.put, List.setIfInBounds_toArray, List.set_cons_zero, List.set_cons_succ, i64_w, i32_w]
    rfl
  refine take_ (i := 9) (N := some 68) (v := ?_) (a' := ?_) #[true, true, true, true, true, true, true, true, true, true, true, true, true, true, false, false, false, false] rfl rfl (by kernel_rfl) (fun _ _ _ h => h) (Or.inl ⟨by rfl, ?_⟩) hHeld ?_ ?_
  rotate_left
  · intro w' s0
    go_simp
    with_reducible rfl
  rotate_left
  · simp only [Act.put, List.setIfInBounds_toArray, List.set_cons_zero, List.set_cons_succ, i64_w, i32_w]
    rfl
  refine take_ (i := 14) (N := some 73) (v := ?_) (a' := ?_) #[true, true, true, true, true, true, true, true, true, true, true, true, true, true, true, false, false, false] rfl rfl (by kernel_rfl) (fun _ _ _ h => h) (Or.inl ⟨by rfl, ?_⟩) hHeld ?_ ?_
  rotate_left
  · intro w' s0
    go_simp
    with_reducible rfl
  rotate_left
  · simp only [Act.put, List.setIfInBounds_toArray, List.set_cons_zero, List.set_cons_succ, i64_w, i32_w]
    rfl
  refine pure_ (i := 15) (N := some 74) (v := ?_) (a' := ?_) #[true, true, true, true, true, true, true, true, true, true, true, true, true, true, true, true, false, false] rfl rfl (by kernel_rfl) (fun _ _ _ h => h) (Or.inl ⟨by rfl, ?_⟩) ?_ ?_
  rotate_left
  · intro w'
    go_simp
    with_reducible rfl
  rotate_left
  · simp only [Act.put, List.setIfInBounds_toArray, List.set_cons_zero, List.set_cons_succ, i64_w, i32_w]
    rfl
  refine one_ (i := 16) (N := some 6) #[true, true, true, true, true, true, true, true, true, true, true, true, true, true, true, true, true, false] rfl rfl (by kernel_rfl) (by decide) (fun K hK => ?_)
  refine value_ (w1 := ?_) (v := ?_) (by rfl) rfl ?_ ?_
  rotate_left 2
  · go_simp
    constructor
    · rfl
    · rfl
  have M8 := Aside0.mk (M7D.out.allocAt #[.int .i64 0, .int .i64 0, .int .i64 0, .int .i64 0, .int .i64 0, .int .i64 0, .int .i64 0, .slice none 0 0] 29 w2.heap.size rfl)
  refine hK.out _ _ ((fun j => (blk_cell (M8.out.blk_at 2 rfl) j).trans (HG0.out j).symm)) (fun hHeld => ?_)
  clear hK K
  refine norm_ (a' := ?_) ?_ ?_
  rotate_left
  · show Act.put _ (some 6) _ = _
    simp only [Act.put, List.setIfInBounds_toArray, List.set_cons_zero, List.set_cons_succ, i64_w, i32_w]
    rfl
  refine last_ (i := 17) (N := none) #[true, true, true, true, true, true, true, true, true, true, true, true, true, true, true, true, true, true] rfl rfl (by kernel_rfl) (by decide) (fun K hK => ?_)
  refine skip_ (w1 := ?_) (by rfl) rfl ?_ ?_
  rotate_left
  · go_simp
    rfl
  have M9 := Aside0.mk (M7D.out.allocAt #[.int .i64 5, .int .i64 0, .int .i64 0, .int .i64 0, .int .i64 0, .int .i64 s1.f6, .int .i64 s1.f3, .slice B5 s1.f5.length d5] 29 w2.heap.size rfl)
  refine hK.out _ _ ?_
  clear hK K
  refine done_ (by kernel_rfl) ?_
  clear M9 M8 M7D cG HG0
  try clear hHeld
  obtain ⟨w3, hw3⟩ : ∃ w3, (w2.alloc (.cells #[.int .i64 5, .int .i64 0, .int .i64 0, .int .i64 0, .int .i64 0, .int .i64 s1.f6, .int .i64 s1.f3, .slice B5 s1.f5.length d5] 29 (0, 0))).drew = w3 := ⟨_, rfl⟩
  have M9 : Aside0 (Mem w0 w3 (blk w2.heap.size 29 #[.int .i64 5, .int .i64 0, .int .i64 0, .int .i64 0, .int .i64 0, .int .i64 s1.f6, .int .i64 s1.f3, .slice B5 s1.f5.length d5] :: blk w.heap.size 29 (Kx.mA m A c) :: blk g 99 (Wa.wc s1.f0 s1.f1 s1.f2 s1.f3 s1.f4 (.slice B5 s1.f5.length d5) s1.f6 v7 (.slice B8n zs.length d8n) v9b v10b s1.f11 s1.f12 vob) :: row kM 29 vob (out ++ o1) :: row kE 102 (.slice B5 s1.f5.length d5) s1.f5 :: row (Kd.int .i64) 3 v7 s1.f7 :: row (Kd.int .i64) 3 (.slice B8n zs.length d8n) zs :: row (Kd.int .i64) 3 v9b s1.f9 :: row kE 102 v10b s1.f10 :: F)) := ⟨by rw [← hw3]; exact (M7.out.allocAt #[.int .i64 5, .int .i64 0, .int .i64 0, .int .i64 0, .int .i64 0, .int .i64 s1.f6, .int .i64 s1.f3, .slice B5 s1.f5.length d5] 29 w2.heap.size rfl).drew⟩
  rw [hw3]
  clear hw3 M7
  have cS := blk_cell (M9.out.blk_at 0 rfl)
  have cG := blk_cell (M9.out.blk_at 2 rfl)
  unfold Wa.wc at cG
  go_wp2_with fail
  refine (primary_calls _ g s1.f0 s1.f1 s1.f2 s1.f3 s1.f4 _ s1.f6 _ _ _ _ s1.f11 s1.f12 _ s1.f2 (M9.out.blk_at 2 rfl) HF.out.1.w0 HF.out.1.w1 (by have := HF.out.1.i0; have := HF.out.1.i1; omega) HF.out.1.n5).mono ?_
  rintro e w4 ⟨rfl, hD⟩
  have M10 := Aside0.mk (M9.out.drawn hD)
  clear cS cG M9 hD
  have cS := blk_cell (M10.out.blk_at 0 rfl)
  have HG0 := Aside0.mk (blk_cell (M10.out.blk_at 2 rfl))
  have cG := HG0.out
  unfold Wa.wc at cG
  by_cases h7 : s1.f2 % s1.f1 = s1.f0
  case neg =>
    obtain ⟨e7, e7'⟩ := ne_b h7
    have H7 := Aside0.mk h7
    clear h7
    go_wp2_with fail
    refine (send_calls w0 _ (row kE 102 (.slice B5 s1.f5.length d5) s1.f5) _ g s1.f0 s1.f1 s1.f2 s1.f3 s1.f4 _ s1.f6 _ _ _ _ s1.f11 s1.f12 vob (out ++ o1) (s1.f2 % s1.f1) 5 0 0 0 0 s1.f6 s1.f3 B5 d5 s1.f5 (Mem.sel (ps := [_, _, _, _, _, _, _, _, _]) (F := F) [4, 2, 3, 5, 6, 7, 8] 9 M10.out rfl rfl) Rd.row (Nat.le_trans HF.out.1.l5 (by decide)) HD5.out (Nat.le_trans HO.out (by decide))).mono ?_
    rintro e w5 ⟨vo2, rfl, hM⟩
    have M11 := Aside0.mk hM
    clear hM
    go_wp2
    first | go_end0 | (refine bodyPost_ret (results_none rfl _ _ _) rfl ?_)
    obtain ⟨hs1, hs2⟩ := pair_inj ((tChange_other (Int.not_lt.2 H12.out) HU.out H4.out H5.out HZ.out H6.out H7.out).symm.trans HSS.out)
    subst hs1
    subst hs2
    rw [← List.append_assoc]
    exact ⟨rfl, _, _, _, _, _, _, Mem.sel (ps := [_, _, _, _, _, _, _]) (F := F) [1, 2, 0, 3, 4, 5, 6] 7 M11.out rfl rfl⟩
  obtain ⟨e7, e7'⟩ := eq_b h7
  have H7 := Aside0.mk h7
  clear h7
  have M10D := Aside0.mk M10.out.drew
  go_wp2_with fail
  go_upto_region 12 with (fail)
  go_cut [] (fun wy => Aside0 (Mem w0 wy (blk w2.heap.size 29 #[.int .i64 5, .int .i64 s1.f0, .int .i64 (s1.f2 % s1.f1), .int .i64 s1.f2, .int .i64 0, .int .i64 s1.f6, .int .i64 s1.f3, .slice B5 s1.f5.length d5] :: blk w.heap.size 29 (Kx.mA m A c) :: blk g 99 (Wa.wc s1.f0 s1.f1 s1.f2 s1.f3 s1.f4 (.slice B5 s1.f5.length d5) s1.f6 v7 (.slice B8n zs.length d8n) v9b v10b s1.f11 s1.f12 vob) :: row kM 29 vob (out ++ o1) :: row kE 102 (.slice B5 s1.f5.length d5) s1.f5 :: row (Kd.int .i64) 3 v7 s1.f7 :: row (Kd.int .i64) 3 (.slice B8n zs.length d8n) zs :: row (Kd.int .i64) 3 v9b s1.f9 :: row kE 102 v10b s1.f10 :: F)))
  case first =>
    have fS := blk_frozen (M10.out.blk_at 0 rfl)
    have gS := blk_lt (M10.out.blk_at 0 rfl)
    refine start_ (n := 17) (S := fun w' => (∀ j : Nat, w'.cell? ⟨g, j, none⟩ = w4.cell? ⟨g, j, none⟩)) (ds := [16]) #[false, false, false, false, false, false, false, false, false, false, false, false, false, false, false, false, false] (by kernel_rfl) rfl rfl ((fun j => rfl)) (fun hHeld => ?_)
    refine pure_ (i := 0) (N := some 93) (v := ?_) (a' := ?_) #[true, false, false, false, false, false, false, false, false, false, false, false, false, false, false, false, false] rfl rfl (by kernel_rfl) (fun _ _ _ h => h) (Or.inl ⟨by rfl, ?_⟩) ?_ ?_
    rotate_left
    · intro w'
      go_simp
      with_reducible rfl
    rotate_left
    · simp only [Act.put, List.setIfInBounds_toArray, List.set_cons_zero, List.set_cons_succ, i64_w, i32_w]
      rfl
    refine pure_ (i := 1) (N := some 94) (v := ?_) (a' := ?_) #[true, true, false, false, false, false, false, false, false, false, false, false, false, false, false, false, false] rfl rfl (by kernel_rfl) (fun _ _ _ h => h) (Or.inl ⟨by rfl, ?_⟩) ?_ ?_
    rotate_left
    · intro w'
      go_simp
      with_reducible rfl
    rotate_left
    · simp only [Act.put, List.setIfInBounds_toArray, List.set_cons_zero, List.set_cons_succ, i64_w, i32_w]
      rfl
    refine pure_ (i := 2) (N := some 95) (v := ?_) (a' := ?_) #[true, true, true, false, false, false, false, false, false, false, false, false, false, false, false, false, false] rfl rfl (by kernel_rfl) (fun _ _ _ h => h) (Or.inl ⟨by rfl, ?_⟩) ?_ ?_
    rotate_left
    · intro w'
      go_simp
      with_reducible rfl
    rotate_left
    · simp only [Act.put, List.setIfInBounds_toArray, List.set_cons_zero, List.set_cons_succ, i64_w, i32_w]
      rfl
    refine pure_ (i := 3) (N := some 96) (v := ?_) (a' := ?_) #[true, true, true, true, false, false, false, false, false, false, false, false, false, false, false, false, false] rfl rfl (by kernel_rfl) (fun _ _ _ h => h) (Or.inl ⟨by rfl, ?_⟩) ?_ ?_
    rotate_left
    · intro w'
      go_simp
      with_reducible rfl
    rotate_left
    · simp only [Act.put, List.setIfInBounds_toArray, List.set_cons_zero, List.set_cons_succ, i64_w, i32_w]
      rfl
    refine pure_ (i := 5) (N := some 98) (v := ?_) (a' := ?_) #[true, true, true, true, false, true, false, false, false, false, false, false, false, false, false, false, false] rfl rfl (by kernel_rfl) (fun _ _ _ h => h) (Or.inl ⟨by rfl, ?_⟩) ?_ ?_
    rotate_left
    · intro w'
      go_simp
      with_reducible rfl
    rotate_left
    · simp only [Act.put, List.setIfInBounds_toArray, List.set_cons_zero, List.set_cons_succ, i64_w, i32_w]
      rfl
    refine pure_ (i := 6) (N := some 99) (v := ?_) (a' := ?_) #[true, true, true, true, false, true, true, false, false, false, false, false, false, false, false, false, false] rfl rfl (by kernel_rfl) (fun _ _ _ h => h) (Or.inl ⟨by rfl, ?_⟩) ?_ ?_
    rotate_left
    · intro w'
      go_simp
      with_reducible rfl
    rotate_left
    · simp only [Act.put, List.setIfInBounds_toArray, List.set_cons_zero, List.set_cons_succ, i64_w, i32_w]
      rfl
    refine pure_ (i := 7) (N := some 100) (v := ?_) (a' := ?_) #[true, true, true, true, false, true, true, true, false, false, false, false, false, false, false, false, false] rfl rfl (by kernel_rfl) (fun _ _ _ h => h) (Or.inl ⟨by rfl, ?_⟩) ?_ ?_
    rotate_left
    · intro w'
      go_simp
      with_reducible rfl
    rotate_left
    · simp only [Act.put, List.setIfInBounds_toArray, List.set_cons_zero, List.set_cons_succ, i64_w, i32_w]
      rfl
    refine pure_ (i := 8) (N := some 101) (v := ?_) (a' := ?_) #[true, true, true, true, false, true, true, true, true, false, false, false, false, false, false, false, false] rfl rfl (by kernel_rfl) (fun _ _ _ h => h) (Or.inl ⟨by rfl, ?_⟩) ?_ ?_
    rotate_left
    · intro w'
      go_simp
      with_reducible rfl
    rotate_left
    · simp only [Act.put, List.setIfInBounds_toArray, List.set_cons_zero, List.set_cons_succ, i64_w, i32_w]
      rfl
    refine pure_ (i := 9) (N := some 102) (v := ?_) (a' := ?_) #[true, true, true, true, false, true, true, true, true, true, false, false, false, false, false, false, false] rfl rfl (by kernel_rfl) (fun _ _ _ h => h) (Or.inl ⟨by rfl, ?_⟩) ?_ ?_
    rotate_left
    · intro w'
      go_simp
      with_reducible rfl
    rotate_left
    · simp only [Act.put, List.setIfInBounds_toArray, List.set_cons_zero, List.set_cons_succ, i64_w, i32_w]
      rfl
    refine take_ (i := 4) (N := some 97) (v := ?_) (a' := ?_) #[true, true, true, true, true, true, true, true, true, true, false, false, false, false, false, false, false] rfl rfl (by kernel_rfl) (fun _ _ _ h => h) (Or.inl ⟨by rfl, ?_⟩) hHeld ?_ ?_
    rotate_left
    · intro w' s0
      go_simp
      with_reducible rfl
    rotate_left
    · simp only [Act.put, List.setIfInBounds_toArray, List.set_cons_zero, List.set_cons_succ, i64_w, i32_w]
      rfl
    refine pure_ (i := 11) (N := some 104) (v := ?_) (a' := ?_) #[true, true, true, true, true, true, true, true, true, true, false, true, false, false, false, false, false] rfl rfl (by kernel_rfl) (fun _ _ _ h => h) (Or.inl ⟨by rfl, ?_⟩) ?_ ?_
    rotate_left
    · intro w'
      go_simp
      with_reducible rfl
    rotate_left
    · simp only [Act.put, List.setIfInBounds_toArray, List.set_cons_zero, List.set_cons_succ, i64_w, i32_w]
      rfl
    refine take_ (i := 10) (N := some 103) (v := ?_) (a' := ?_) #[true, true, true, true, true, true, true, true, true, true, true, true, false, false, false, false, false] rfl rfl (by kernel_rfl) (fun _ _ _ h => h) (Or.inl ⟨by rfl, ?_⟩) hHeld ?_ ?_
    rotate_left
    · intro w' s0
      go_simp
      with_reducible rfl
    rotate_left
    · simp only [Act.put, List.setIfInBounds_toArray, List.set_cons_zero, List.set_cons_succ, i64_w, i32_w]
      rfl
    refine one_ (i := 12) (N := none) #[true, true, true, true, true, true, true, true, true, true, true, true, true, false, false, false, false] rfl rfl (by kernel_rfl) (by decide) (fun K hK => ?_)
    refine skip_ (w1 := ?_) (by rfl) rfl ?_ ?_
    rotate_left
    · go_simp
      rfl
    have M11 := Aside0.mk (M10.out.set 0 rfl 1 (.int .i64 s1.f0))
    refine hK.out _ _ ((fun j => (blk_cell (M11.out.drew.blk_at 2 rfl) j).trans (HG0.out j).symm)) (fun hHeld => ?_)
    clear hK K
    refine pure_ (i := 13) (N := some 105) (v := ?_) (a' := ?_) #[true, true, true, true, true, true, true, true, true, true, true, true, true, true, false, false, false] rfl rfl (by kernel_rfl) (fun _ _ _ h => h) (Or.inl ⟨by rfl, ?_⟩) ?_ ?_
    rotate_left
    · intro w'
      go_simp
      with_reducible rfl
    rotate_left
    · simp only [Act.put, List.setIfInBounds_toArray, List.set_cons_zero, List.set_cons_succ, i64_w, i32_w]
      rfl
    refine one_ (i := 14) (N := none) #[true, true, true, true, true, true, true, true, true, true, true, true, true, true, true, false, false] rfl rfl (by kernel_rfl) (by decide) (fun K hK => ?_)
    refine skip_ (w1 := ?_) (by rfl) rfl ?_ ?_
    rotate_left
    · go_simp
      rfl
    have M12 := Aside0.mk (M11.out.set 0 rfl 2 (.int .i64 (s1.f2 % s1.f1)))
    refine hK.out _ _ ((fun j => (blk_cell (M12.out.drew.blk_at 2 rfl) j).trans (HG0.out j).symm)) (fun hHeld => ?_)
    clear hK K
    refine pure_ (i := 15) (N := some 106) (v := ?_) (a' := ?_) #[true, true, true, true, true, true, true, true, true, true, true, true, true, true, true, true, false] rfl rfl (by kernel_rfl) (fun _ _ _ h => h) (Or.inl ⟨by rfl, ?_⟩) ?_ ?_
    rotate_left
    · intro w'
      go_simp
      with_reducible rfl
    rotate_left
    · simp only [Act.put, List.setIfInBounds_toArray, List.set_cons_zero, List.set_cons_succ, i64_w, i32_w]
      rfl
    refine last_ (i := 16) (N := none) #[true, true, true, true, true, true, true, true, true, true, true, true, true, true, true, true, true] rfl rfl (by kernel_rfl) (by decide) (fun K hK => ?_)
    refine skip_ (w1 := ?_) (by rfl) rfl ?_ ?_
    rotate_left
    · go_simp
      rfl
    have M13 := Aside0.mk (M12.out.set 0 rfl 3 (.int .i64 s1.f2))
    refine hK.out _ _ ?_
    clear hK K
    refine done_ (by kernel_rfl) ?_
    go_wp2_with fail
    go_meet
    case rel => exact ⟨M13.out.drew⟩
  case rest =>
  have M11 := hcut
  clear hcut cS cG HG0 M10D M10
  have cS := blk_cell (M11.out.blk_at 0 rfl)
  have cG := blk_cell (M11.out.blk_at 2 rfl)
  unfold Wa.wc at cG
  obtain ⟨⟨t, ms2⟩, e2⟩ : ∃ b, states { s1 with f8 := zs } s1.f0 s1.f3 s1.f6 s1.f5 = b := ⟨_, rfl⟩
  have HE := Aside0.mk e2
  clear e2
  go_wp2_with fail
  have q := state_calls w0 wc (blk w2.heap.size 29 #[.int .i64 5, .int .i64 s1.f0, .int .i64 (s1.f2 % s1.f1), .int .i64 s1.f2, .int .i64 0, .int .i64 s1.f6, .int .i64 s1.f3, .slice B5 s1.f5.length d5] :: blk w.heap.size 29 (Kx.mA m A c) :: F) g { s1 with f8 := zs } t ⟨5, s1.f0, s1.f2 % s1.f1, s1.f2, 0, s1.f6, s1.f3, s1.f5⟩ _ v7 _ v9b v10b vob (out ++ o1) ms2 B5 d5 (Mem.sel (ps := [_, _, _, _, _, _, _, _, _]) (F := F) [2, 3, 4, 5, 6, 7, 8, 0, 1] 9 M11.out rfl rfl) ⟨⟨HF.out.1.i0, HF.out.1.i1, HF.out.1.n5, HF.out.1.w0, HF.out.1.w1, HF.out.1.l5, HF.out.1.p9, HF.out.1.l9, HF.out.1.l10⟩, (fun w' h => h.row_C 0 rfl), HF.out.1.w0, HF.out.1.w1, HF.out.1.l5, HD5.out, Nat.le_trans HO.out (by decide)⟩ (tState_own H4.out H7.out HE.out rfl)
  unfold StateDoes at q
  refine q.mono ?_
  rintro e w6 ⟨rfl, v5', v7', v8', v9', v10', vo', hM⟩
  have M12 := Aside0.mk hM
  clear hM q
  go_wp2
  first | go_end0 | (refine bodyPost_ret (results_none rfl _ _ _) rfl ?_)
  obtain ⟨hs1, hs2⟩ := pair_inj ((tChange_self (Int.not_lt.2 H12.out) HU.out H4.out H5.out HZ.out H6.out H7.out HE.out).symm.trans HSS.out)
  subst hs1
  subst hs2
  rw [← List.append_assoc]
  exact ⟨rfl, _, _, _, _, _, _, Mem.sel (ps := [_, _, _, _, _, _, _, _, _]) (F := F) [0, 1, 2, 3, 4, 5, 6] 9 M12.out rfl rfl⟩
theorem changes_calls (w0 w : World) (F : List Res) (g : Nat) (r s : Rep) (m : Msg) (v5 v7 v8 v9 v10 vo : Value) (out ms : List Msg) (A : Option Addr) (c : Nat) (hM : Mem w0 w (wS g r v5 r.f5 r.f6 v7 v8 v9 v10 vo out F)) (H0 : ChangesIn r m out) (hs : tChange r m = (s, ms)) : ChangesDoes w0 w F g m A c s (out ++ ms) := by
  by_cases h1 : m.f3 < r.f2
  · obtain ⟨e1, e2⟩ := pair_inj ((tChange_low h1).symm.trans hs)
    subst e1
    subst e2
    exact changes_low w0 w F g r r m v5 v7 v8 v9 v10 vo out [] A c hM H0 h1
  · exact changes_on w0 w F g r s m v5 v7 v8 v9 v10 vo out ms A c hM H0 h1 hs
end Go.Proofs.Ytggbjokhniigkaa.Ce
