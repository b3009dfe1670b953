/- Texts laid together: Cs. No condition. -/
import Derived.Test.YtggbjokhniigkaaYGz18
set_option linter.unusedVariables false
set_option linter.unusedSimpArgs false
set_option maxRecDepth 100000
set_option maxHeartbeats 8000000
namespace Go.Proofs.Ytggbjokhniigkaa.Cs
open Lx Ty Go.RowKit YtggbjokhniigkaaW.PrintWords YtggbjokhniigkaaW.PrintLast YtggbjokhniigkaaW.PrintMore Mx Kx Wa Tk We Sa Tl Wj Wd Cx Jn Mo
def StateDoes (w0 w : World) (F : List Res) (g : Nat) (m : Msg) (A : Option Addr) (c : Nat) (s : Rep) (out : List Msg) : Prop :=
  Calls Try.prog 99 #[.pointer (some ⟨g, 0, none⟩), .agg (Kx.mA m A c)] w fun e w' => e = .returned (.tuple #[]) ∧ ∃ v5' v7' v8' v9' v10' vout' : Value, Mem w0 w' (wS g s v5' s.f5 s.f6 v7' v8' v9' v10' vout' out F)
structure StateIn (w0 : World) (r : Rep) (m : Msg) (v5 : Value) (F : List Res) (A : Option Addr) (c : Nat) (out : List Msg) : Prop where
  fr : Fine r
  hl : ∀ w', Mem w0 w' (row kE 102 v5 r.f5 :: F) → Kd.C kE w' A m.f7.length m.f7
  hv : 0 ≤ m.f3
  hv1 : m.f3 ≤ 4611686018427387904
  hlm : m.f7.length ≤ 1200
  hlc : m.f7.length ≤ c
  ho : out.length ≤ 1000
theorem eq_b {a b : Int} (h : a = b) : (a == b) = true ∧ (a != b) = false := by simp [h]
theorem ne_b {a b : Int} (h : ¬ a = b) : (a == b) = false ∧ (a != b) = true := by simp [h]
theorem blk_apart {w0 w : World} {rs : List Res} (h : Mem w0 w rs) (i j : Nat) {g T g' T' : Nat} {cs cs' : Array Value} (hi : rs[i]? = some (blk g T cs)) (hj : rs[j]? = some (blk g' T' cs')) (hij : i ≠ j) : ¬ g = g' := by
  obtain ⟨f, q, h1, h2, _, _, h5, _⟩ := h.take2 hi hj hij
  intro e
  subst e
  exact h5 _ h1.2 h2.2
theorem pair_inj {α β : Type} {a c : α} {b d : β} (h : (a, b) = (c, d)) : a = c ∧ b = d := by injection h with h1 h2; exact ⟨h1, h2⟩
theorem state_low (w0 w : World) (F : List Res) (g : Nat) (r s : Rep) (m : Msg) (v5 v7 v8 v9 v10 vo : Value) (out ms : List Msg) (A : Option Addr) (c : Nat) (hM : Mem w0 w (wS g r v5 r.f5 r.f6 v7 v8 v9 v10 vo out F)) (H0 : StateIn w0 r m v5 F A c out) (h1 : m.f3 < r.f2) : StateDoes w0 w F g m A c r (out ++ []) := by
  have e1 : decide (m.f3 < r.f2) = true := decide_eq_true h1
  clear h1
  unfold StateDoes
  obtain ⟨fr, hl, hv, hv1, hlm, hlc, ho⟩ := H0
  obtain ⟨B5, d5, rfl, _, _⟩ := hM.row_at 2 rfl
  have FR := Aside0.mk fr
  have HL := Aside0.mk hl
  have HV := Aside0.mk (show 0 ≤ m.f3 ∧ m.f3 ≤ 4611686018427387904 from ⟨hv, hv1⟩)
  have HN := Aside0.mk (show m.f7.length ≤ 1200 ∧ m.f7.length ≤ c ∧ out.length ≤ 1000 from ⟨hlm, hlc, ho⟩)
  have M1 := Aside0.mk (hM.alloc (Kx.mA m A c) 29)
  clear hM hl fr hv hv1 hlm hlc ho
  have cM := blk_cell (M1.out.blk_at 0 rfl)
  have cG := blk_cell (M1.out.blk_at 1 rfl)
  unfold Wa.wc at cG
  go_enter Try.func99, Try.ntmps99
  go_wp2_with fail
  go_quiet (fail)
  go_wp2
  first | go_end0 | (refine bodyPost_ret (results_none rfl _ _ _) rfl ?_)
  rw [List.append_nil]
  exact ⟨rfl, _, _, _, _, _, _, Mem.sel (ps := [_, _, _, _, _, _, _, _]) (F := F) [1, 2, 3, 4, 5, 6, 7] 8 (M1.out.drewN _) rfl rfl⟩
theorem state_not (w0 w : World) (F : List Res) (g : Nat) (r s : Rep) (m : Msg) (v5 v7 v8 v9 v10 vo : Value) (out ms : List Msg) (A : Option Addr) (c : Nat) (hM : Mem w0 w (wS g r v5 r.f5 r.f6 v7 v8 v9 v10 vo out F)) (H0 : StateIn w0 r m v5 F A c out) (h1 : ¬ m.f3 < r.f2) (h2 : ¬ m.f3 % r.f1 = r.f0) : StateDoes w0 w F g m A c r (out ++ []) := by
  have e1 : decide (m.f3 < r.f2) = false := decide_eq_false h1
  obtain ⟨e2, e2'⟩ := ne_b h2
  clear h1 h2
  unfold StateDoes
  obtain ⟨fr, hl, hv, hv1, hlm, hlc, ho⟩ := H0
  obtain ⟨B5, d5, rfl, _, _⟩ := hM.row_at 2 rfl
  have FR := Aside0.mk fr
  have HL := Aside0.mk hl
  have HV := Aside0.mk (show 0 ≤ m.f3 ∧ m.f3 ≤ 4611686018427387904 from ⟨hv, hv1⟩)
  have HN := Aside0.mk (show m.f7.length ≤ 1200 ∧ m.f7.length ≤ c ∧ out.length ≤ 1000 from ⟨hlm, hlc, ho⟩)
  have M1 := Aside0.mk (hM.alloc (Kx.mA m A c) 29)
  clear hM hl fr hv hv1 hlm hlc ho
  have cM := blk_cell (M1.out.blk_at 0 rfl)
  have cG := blk_cell (M1.out.blk_at 1 rfl)
  unfold Wa.wc at cG
  go_enter Try.func99, Try.ntmps99
  go_wp2_with fail
  have hW := M1.out.blk_at 1 rfl
  go_quiet ((go_at_call 74; exact primary_quiet _ _ g r.f0 r.f1 r.f2 r.f3 r.f4 _ r.f6 _ _ _ _ r.f11 r.f12 _ m.f3 hW HV.out.1 HV.out.2 (by have := FR.out.i0; have := FR.out.i1; omega) FR.out.n5))
  clear hW
  go_wp2
  first | go_end0 | (refine bodyPost_ret (results_none rfl _ _ _) rfl ?_)
  rw [List.append_nil]
  exact ⟨rfl, _, _, _, _, _, _, Mem.sel (ps := [_, _, _, _, _, _, _, _]) (F := F) [1, 2, 3, 4, 5, 6, 7] 8 (M1.out.drewN _) rfl rfl⟩
theorem state_on (w0 w : World) (F : List Res) (g : Nat) (r s : Rep) (m : Msg) (v5 v7 v8 v9 v10 vo : Value) (out ms : List Msg) (A : Option Addr) (c : Nat) (hM : Mem w0 w (wS g r v5 r.f5 r.f6 v7 v8 v9 v10 vo out F)) (H0 : StateIn w0 r m v5 F A c out) (h1 : ¬ m.f3 < r.f2) (h2 : m.f3 % r.f1 = r.f0) (hs : tState r m = (s, ms)) : StateDoes w0 w F g m A c s (out ++ ms) := by
  have HSS := Aside0.mk hs
  have H12 := Aside0.mk (And.intro (Int.not_lt.1 h1) h2)
  have e1 : decide (m.f3 < r.f2) = false := decide_eq_false h1
  obtain ⟨e2, e2'⟩ := eq_b h2
  clear hs h1 h2
  unfold StateDoes
  obtain ⟨fr, hl, hv, hv1, hlm, hlc, ho⟩ := H0
  obtain ⟨B5, d5, rfl, _, _⟩ := hM.row_at 2 rfl
  have FR := Aside0.mk fr
  have HL := Aside0.mk hl
  have HV := Aside0.mk (show 0 ≤ m.f3 ∧ m.f3 ≤ 4611686018427387904 from ⟨hv, hv1⟩)
  have HN := Aside0.mk (show m.f7.length ≤ 1200 ∧ m.f7.length ≤ c ∧ out.length ≤ 1000 from ⟨hlm, hlc, ho⟩)
  have M1 := Aside0.mk (hM.alloc (Kx.mA m A c) 29)
  clear hM hl fr hv hv1 hlm hlc ho
  have cM := blk_cell (M1.out.blk_at 0 rfl)
  have cG := blk_cell (M1.out.blk_at 1 rfl)
  unfold Wa.wc at cG
  go_enter Try.func99, Try.ntmps99
  go_wp2_with fail
  have hW := M1.out.blk_at 1 rfl
  go_quiet ((go_at_call 74; exact primary_quiet _ _ g r.f0 r.f1 r.f2 r.f3 r.f4 _ r.f6 _ _ _ _ r.f11 r.f12 _ m.f3 hW HV.out.1 HV.out.2 (by have := FR.out.i0; have := FR.out.i1; omega) FR.out.n5))
  clear hW
  go_wp2_with fail
  go_quiet (fail)
  clear e1 e2 e2'
  go_upto_if 33 with (fail)
  go_cut [] (fun wx => ∃ (s1 : Rep) (o1 : List Msg) (v8b v9b v10b vob : Value), Aside0 (upTo r m.f3 = (s1, o1)) ∧ Aside0 (Mem w0 wx (blk w.heap.size 29 (Kx.mA m A c) :: blk g 99 (Wa.wc s1.f0 s1.f1 s1.f2 s1.f3 s1.f4 (.slice B5 s1.f5.length d5) s1.f6 v7 v8b v9b v10b s1.f11 s1.f12 vob) :: row kM 29 vob (out ++ o1) :: row kE 102 (.slice B5 s1.f5.length d5) s1.f5 :: row (Kd.int .i64) 3 v7 s1.f7 :: row (Kd.int .i64) 3 v8b s1.f8 :: row (Kd.int .i64) 3 v9b s1.f9 :: row kE 102 v10b s1.f10 :: F)))
  case first =>
    go_wp2_with fail
    · have HU0 := Aside0.mk (upTo_yes (show r.f2 < m.f3 by assumption))
      refine (change_calls w0 _ _ g r.f0 r.f1 r.f2 r.f3 r.f4 _ r.f6 _ _ _ _ r.f11 r.f12 _ out m.f3 (Mem.sel (ps := [_, _, _, _, _, _, _, _]) (F := F) [1, 2, 0, 3, 4] 8 (M1.out.drewN _) rfl rfl) (by have := FR.out.i0; have := FR.out.i1; omega) FR.out.n5 (Nat.le_trans HN.out.2.2 (by decide))).mono ?_
      rintro e w1 ⟨vv', vout', rfl, hM⟩
      go_wp2_with fail
      go_meet
      case rel => exact ⟨Ty.change r m.f3, _, _, _, _, _, HU0, ⟨Mem.sel (ps := [_, _, _, _, _, _, _, _]) (F := F) [5, 2, 3, 6, 7, 4, 1, 0] 8 (Mem.row_nil (Mem.row_nil hM (Kd.int .i64) 3) kE 102) rfl rfl⟩⟩
    · have HU0 := Aside0.mk (upTo_no (Int.not_lt.2 (show m.f3 ≤ r.f2 by assumption)))
      go_meet
      case rel => exact ⟨r, [], _, _, _, _, HU0, ⟨by rw [List.append_nil]; exact (M1.out.drewN _).drewN _⟩⟩
  case rest =>
  obtain ⟨s1, o1, v8b, v9b, v10b, vob, HU, M2⟩ := hcut
  clear M1 cM cG
  have HF := Aside0.mk (upTo_fine FR.out HV.out.1 HV.out.2 HU.out)
  have HLs : Aside0 (∀ w', Mem w0 w' (row kE 102 (.slice B5 s1.f5.length d5) s1.f5 :: F) → Kd.C kE w' A m.f7.length m.f7) := ⟨by rw [HF.out.2.1]; exact HL.out⟩
  have HO := Aside0.mk (show (out ++ o1).length ≤ 1005 by rw [List.length_append]; have := HF.out.2.2.1; have := HN.out; omega)
  clear HL
  obtain ⟨B9, d9, rfl, _, _⟩ := M2.out.row_at 6 rfl
  obtain ⟨B10, d10, rfl, _, _⟩ := M2.out.row_at 7 rfl
  have HM0 := Aside0.mk (blk_cell (M2.out.blk_at 0 rfl))
  have HG0 := Aside0.mk (blk_cell (M2.out.blk_at 1 rfl))
  have cM := HM0.out
  have cG := HG0.out
  unfold Wa.wc at cG
  by_cases h4 : s1.f4 = 1
  case neg =>
    obtain ⟨e4, e4'⟩ := ne_b h4
    go_wp2
    first | go_end0 | (refine bodyPost_ret (results_none rfl _ _ _) rfl ?_)
    obtain ⟨hs1, hs2⟩ := pair_inj ((tState_idle (Int.not_lt.2 H12.out.1) H12.out.2 HU.out h4).symm.trans HSS.out)
    subst hs1
    subst hs2
    exact ⟨rfl, _, _, _, _, _, _, Mem.sel (ps := [_, _, _, _, _, _, _, _]) (F := F) [1, 2, 3, 4, 5, 6, 7] 8 M2.out rfl rfl⟩
  have H4 := Aside0.mk h4
  obtain ⟨e4, e4'⟩ := eq_b h4
  clear h4
  go_wp2_with fail
  by_cases h5 : m.f1 ∈ s1.f9
  · have JN : Aside0 (∀ wd : World, Mem w0 wd (blk w.heap.size 29 (Kx.mA m A c) :: blk g 99 (Wa.wc s1.f0 s1.f1 s1.f2 s1.f3 s1.f4 (.slice B5 s1.f5.length d5) s1.f6 v7 v8b (.slice B9 s1.f9.length d9) (.slice B10 s1.f10.length d10) s1.f11 s1.f12 vob) :: row kM 29 vob (out ++ o1) :: row kE 102 (.slice B5 s1.f5.length d5) s1.f5 :: row (Kd.int .i64) 3 v7 s1.f7 :: row (Kd.int .i64) 3 v8b s1.f8 :: row (Kd.int .i64) 3 (.slice B9 s1.f9.length d9) s1.f9 :: row kE 102 (.slice B10 s1.f10.length d10) s1.f10 :: F) → Calls Try.prog 110 #[.slice B9 s1.f9.length d9, .int .i64 m.f1] wd fun e w' => e = .returned (.tuple #[.slice B9 s1.f9.length d9, .bool false]) ∧ Mem w0 w' (blk w.heap.size 29 (Kx.mA m A c) :: blk g 99 (Wa.wc s1.f0 s1.f1 s1.f2 s1.f3 s1.f4 (.slice B5 s1.f5.length d5) s1.f6 v7 v8b (.slice B9 s1.f9.length d9) (.slice B10 s1.f10.length d10) s1.f11 s1.f12 vob) :: row kM 29 vob (out ++ o1) :: row kE 102 (.slice B5 s1.f5.length d5) s1.f5 :: row (Kd.int .i64) 3 v7 s1.f7 :: row (Kd.int .i64) 3 v8b s1.f8 :: row (Kd.int .i64) 3 (.slice B9 s1.f9.length d9) s1.f9 :: row kE 102 (.slice B10 s1.f10.length d10) s1.f10 :: F)) := ⟨fun wd hMd => by
      refine (joined_in w0 wd _ _ s1.f9 m.f1 (Mem.sel (ps := [_, _, _, _, _, _, _, _]) (F := F) [6, 0, 1, 2, 3, 4, 5, 7] 8 hMd rfl rfl) (Nat.le_trans HF.out.1.l9 (by decide)) HF.out.1.p9 h5).mono ?_
      rintro e w' ⟨rfl, hM⟩
      exact ⟨rfl, Mem.sel (ps := [_, _, _, _, _, _, _, _]) (F := F) [1, 2, 3, 4, 5, 6, 0, 7] 8 hM rfl rfl⟩⟩
    go_upto_region 5 with (fail)
    have M2D := Aside0.mk M2.out.drew
    have HS0 := Aside0.mk (show (∀ j : Nat, wc.drew.cell? ⟨w.heap.size, j, none⟩ = wc.cell? ⟨w.heap.size, j, none⟩) ∧ (∀ j : Nat, wc.drew.cell? ⟨g, j, none⟩ = wc.cell? ⟨g, j, none⟩) from ⟨fun _ => rfl, fun _ => rfl⟩)
    have H9 := HS0
    go_region_held3 (fun w' => (∀ j : Nat, w'.cell? ⟨w.heap.size, j, none⟩ = wc.cell? ⟨w.heap.size, j, none⟩) ∧ (∀ j : Nat, w'.cell? ⟨g, j, none⟩ = wc.cell? ⟨g, j, none⟩)) (first | with_reducible exact HS0.out | with_reducible exact H9.out | fail) ((go_at_call 110; refine (JN.out _ M2D.out).mono ?_; rintro e w1 ⟨rfl, hM⟩; have M3 := Aside0.mk hM; clear hM; have H9 := Aside0.mk (show (∀ j : Nat, w1.cell? ⟨w.heap.size, j, none⟩ = wc.cell? ⟨w.heap.size, j, none⟩) ∧ (∀ j : Nat, w1.cell? ⟨g, j, none⟩ = wc.cell? ⟨g, j, none⟩) from ⟨fun j => (blk_cell (M3.out.blk_at 0 rfl) j).trans (HM0.out j).symm, fun j => (blk_cell (M3.out.blk_at 1 rfl) j).trans (HG0.out j).symm⟩)))
    go_wp2
    first | go_end0 | (refine bodyPost_ret (results_none rfl _ _ _) rfl ?_)
    have e2 := states_in (commit := m.f5) (was := m.f6) (lg := m.f7) h5
    obtain ⟨hs1, hs2⟩ := pair_inj ((tState_on (Int.not_lt.2 H12.out.1) H12.out.2 HU.out H4.out e2).symm.trans HSS.out)
    subst hs1
    subst hs2
    rw [List.append_nil]
    exact ⟨rfl, _, _, _, _, _, _, Mem.sel (ps := [_, _, _, _, _, _, _, _]) (F := F) [1, 2, 3, 4, 5, 6, 7] 8 M3.out rfl rfl⟩
  have H5 := Aside0.mk h5
  clear h5
  obtain ⟨zs, hz⟩ : ∃ zs, insertId s1.f9 m.f1 = zs := ⟨_, rfl⟩
  have HZ := Aside0.mk hz
  clear hz
  have JN : Aside0 (∀ wd : World, Mem w0 wd (blk w.heap.size 29 (Kx.mA m A c) :: blk g 99 (Wa.wc s1.f0 s1.f1 s1.f2 s1.f3 s1.f4 (.slice B5 s1.f5.length d5) s1.f6 v7 v8b (.slice B9 s1.f9.length d9) (.slice B10 s1.f10.length d10) s1.f11 s1.f12 vob) :: row kM 29 vob (out ++ o1) :: row kE 102 (.slice B5 s1.f5.length d5) s1.f5 :: row (Kd.int .i64) 3 v7 s1.f7 :: row (Kd.int .i64) 3 v8b s1.f8 :: row (Kd.int .i64) 3 (.slice B9 s1.f9.length d9) s1.f9 :: row kE 102 (.slice B10 s1.f10.length d10) s1.f10 :: F) → Calls Try.prog 110 #[.slice B9 s1.f9.length d9, .int .i64 m.f1] wd fun e w' => ∃ (B9n : Option Addr) (d9n : Nat), e = .returned (.tuple #[(.slice B9n zs.length d9n), .bool true]) ∧ Mem w0 w' (row (Kd.int .i64) 3 (.slice B9n zs.length d9n) zs :: blk w.heap.size 29 (Kx.mA m A c) :: blk g 99 (Wa.wc s1.f0 s1.f1 s1.f2 s1.f3 s1.f4 (.slice B5 s1.f5.length d5) s1.f6 v7 v8b (.slice B9 s1.f9.length d9) (.slice B10 s1.f10.length d10) s1.f11 s1.f12 vob) :: row kM 29 vob (out ++ o1) :: row kE 102 (.slice B5 s1.f5.length d5) s1.f5 :: row (Kd.int .i64) 3 v7 s1.f7 :: row (Kd.int .i64) 3 v8b s1.f8 :: row (Kd.int .i64) 3 (.slice B9 s1.f9.length d9) s1.f9 :: row kE 102 (.slice B10 s1.f10.length d10) s1.f10 :: F)) := ⟨fun wd hMd => by
    refine (joined_not w0 wd _ _ s1.f9 m.f1 (Mem.sel (ps := [_, _, _, _, _, _, _, _]) (F := F) [6, 0, 1, 2, 3, 4, 5, 7] 8 hMd rfl rfl) (Nat.le_trans HF.out.1.l9 (by decide)) HF.out.1.p9 H5.out zs HZ.out).mono ?_
    rintro e w' ⟨v', rfl, hM⟩
    obtain ⟨B9n, d9n, rfl, _, _⟩ := hM.row_at 0 rfl
    exact ⟨_, _, rfl, Mem.sel (ps := [_, _, _, _, _, _, _, _, _]) (F := F) [0, 2, 3, 4, 5, 6, 7, 1, 8] 9 hM rfl rfl⟩⟩
  go_upto_region 5 with (fail)
  have M2D := Aside0.mk M2.out.drew
  have HS0 := Aside0.mk (show (∀ j : Nat, wc.drew.cell? ⟨w.heap.size, j, none⟩ = wc.cell? ⟨w.heap.size, j, none⟩) ∧ (∀ j : Nat, wc.drew.cell? ⟨g, j, none⟩ = wc.cell? ⟨g, j, none⟩) from ⟨fun _ => rfl, fun _ => rfl⟩)
  have H9 := HS0
  go_region_held3 (fun w' => (∀ j : Nat, w'.cell? ⟨w.heap.size, j, none⟩ = wc.cell? ⟨w.heap.size, j, none⟩) ∧ (∀ j : Nat, w'.cell? ⟨g, j, none⟩ = wc.cell? ⟨g, j, none⟩)) (first | with_reducible exact HS0.out | with_reducible exact H9.out | fail) ((go_at_call 110; refine (JN.out _ M2D.out).mono ?_; rintro e w1 ⟨B9n, d9n, rfl, hM⟩; have M3 := Aside0.mk hM; clear hM; have H9 := Aside0.mk (show (∀ j : Nat, w1.cell? ⟨w.heap.size, j, none⟩ = wc.cell? ⟨w.heap.size, j, none⟩) ∧ (∀ j : Nat, w1.cell? ⟨g, j, none⟩ = wc.cell? ⟨g, j, none⟩) from ⟨fun j => (blk_cell (M3.out.blk_at 1 rfl) j).trans (HM0.out j).symm, fun j => (blk_cell (M3.out.blk_at 2 rfl) j).trans (HG0.out j).symm⟩)))
  clear H9 HS0 M2D JN M2 HM0 HG0
  have fG3 := blk_frozen (M3.out.blk_at 2 rfl)
  have gG3 := blk_lt (M3.out.blk_at 2 rfl)
  have nG1 := blk_apart M3.out 1 2 rfl rfl (by decide)
  have nG2 := blk_apart M3.out 2 1 rfl rfl (by decide)
  have M4 := Aside0.mk (Mem.sel (ps := [_, _, _, _, _, _, _, _, _]) (F := F) [1, 2, 3, 4, 5, 6, 0, 8] 9 (M3.out.set 2 rfl 9 (.slice B9n zs.length d9n)) rfl rfl)
  go_wp2_with fail
  obtain ⟨wx, hwx⟩ : ∃ wx, w1.setCell ⟨g, 9, none⟩ (.slice B9n zs.length d9n) = wx := ⟨_, rfl⟩
  have M4 : Aside0 (Mem w0 wx (blk w.heap.size 29 (Kx.mA m A c) :: blk g 99 (Wa.wc s1.f0 s1.f1 s1.f2 s1.f3 s1.f4 (.slice B5 s1.f5.length d5) s1.f6 v7 v8b (.slice B9n zs.length d9n) (.slice B10 s1.f10.length d10) s1.f11 s1.f12 vob) :: row kM 29 vob (out ++ o1) :: row kE 102 (.slice B5 s1.f5.length d5) s1.f5 :: row (Kd.int .i64) 3 v7 s1.f7 :: row (Kd.int .i64) 3 v8b s1.f8 :: row (Kd.int .i64) 3 (.slice B9n zs.length d9n) zs :: row kE 102 (.slice B10 s1.f10.length d10) s1.f10 :: F)) := ⟨by rw [← hwx]; exact M4.out⟩
  rw [hwx]
  clear cM cG fG3 gG3 nG1 nG2 M3 hwx
  try clear hHeld
  have cM := blk_cell (M4.out.blk_at 0 rfl)
  have cG := blk_cell (M4.out.blk_at 1 rfl)
  unfold Wa.wc at cG
  go_upto_region 8 with (fail)
  go_cut [91] (fun s91 wy => ∃ b : Bool, s91 = .bool b ∧ Aside0 (if b = true then better s1 m.f6 m.f7 else ¬ better s1 m.f6 m.f7) ∧ Aside0 (Mem w0 wy (blk w.heap.size 29 (Kx.mA m A c) :: blk g 99 (Wa.wc s1.f0 s1.f1 s1.f2 s1.f3 s1.f4 (.slice B5 s1.f5.length d5) s1.f6 v7 v8b (.slice B9n zs.length d9n) (.slice B10 s1.f10.length d10) s1.f11 s1.f12 vob) :: row kM 29 vob (out ++ o1) :: row kE 102 (.slice B5 s1.f5.length d5) s1.f5 :: row (Kd.int .i64) 3 v7 s1.f7 :: row (Kd.int .i64) 3 v8b s1.f8 :: row (Kd.int .i64) 3 (.slice B9n zs.length d9n) zs :: row kE 102 (.slice B10 s1.f10.length d10) s1.f10 :: F)))
  case first =>
    by_cases b1 : s1.f11 < m.f6
    · have q1 : decide (s1.f11 < m.f6) = true := decide_eq_true b1
      have HB := Aside0.mk (show better s1 m.f6 m.f7 from .inl b1)
      clear b1
      go_quiet (fail)
      go_wp2_with fail
      go_meet
      case rel => exact ⟨true, rfl, ⟨by rw [if_pos rfl]; exact HB.out⟩, ⟨M4.out.drewN _⟩⟩
    have q1 : decide (s1.f11 < m.f6) = false := decide_eq_false b1
    by_cases b2 : m.f6 = s1.f11
    case neg =>
      obtain ⟨q2, q3⟩ := ne_b b2
      have HB := Aside0.mk (show ¬ better s1 m.f6 m.f7 from fun h => h.elim b1 (fun h => b2 h.1))
      clear b1 b2
      go_quiet (fail)
      go_wp2_with fail
      go_meet
      case rel => exact ⟨false, rfl, ⟨by rw [if_neg (by decide)]; exact HB.out⟩, ⟨M4.out.drewN _⟩⟩
    obtain ⟨q2, q3⟩ := eq_b b2
    by_cases b3 : s1.f10.length < m.f7.length
    · have q4 : decide (s1.f10.length < m.f7.length) = true := decide_eq_true b3
      have q5 : decide ((s1.f10.length : Int) < (m.f7.length : Int)) = true := decide_eq_true (by omega)
      have HB := Aside0.mk (show better s1 m.f6 m.f7 from .inr ⟨b2, b3⟩)
      clear b1 b2 b3
      go_quiet (fail)
      go_wp2_with fail
      go_meet
      case rel => exact ⟨true, rfl, ⟨by rw [if_pos rfl]; exact HB.out⟩, ⟨M4.out.drewN _⟩⟩
    · have q4 : decide (s1.f10.length < m.f7.length) = false := decide_eq_false b3
      have q5 : decide ((s1.f10.length : Int) < (m.f7.length : Int)) = false := decide_eq_false (by omega)
      have HB := Aside0.mk (show ¬ better s1 m.f6 m.f7 from fun h => h.elim b1 (fun h => b3 h.2))
      clear b1 b2 b3
      go_quiet (fail)
      go_wp2_with fail
      go_meet
      case rel => exact ⟨false, rfl, ⟨by rw [if_neg (by decide)]; exact HB.out⟩, ⟨M4.out.drewN _⟩⟩
  case rest =>
  obtain ⟨b, rfl, HB, M5⟩ := hcut
  clear cM cG M4
  have HM0 := Aside0.mk (blk_cell (M5.out.blk_at 0 rfl))
  have cM := HM0.out
  go_upto_if 91 with (fail)
  go_cut [] (fun wy => ∃ (bl : List Entry) (bv : Int) (B10n : Option Addr) (d10n : Nat), Aside0 (bests s1 m.f6 m.f7 = (bl, bv)) ∧ Aside0 (Mem w0 wy (blk w.heap.size 29 (Kx.mA m A c) :: blk g 99 (Wa.wc s1.f0 s1.f1 s1.f2 s1.f3 s1.f4 (.slice B5 s1.f5.length d5) s1.f6 v7 v8b (.slice B9n zs.length d9n) (.slice B10n bl.length d10n) bv s1.f12 vob) :: row kM 29 vob (out ++ o1) :: row kE 102 (.slice B5 s1.f5.length d5) s1.f5 :: row (Kd.int .i64) 3 v7 s1.f7 :: row (Kd.int .i64) 3 v8b s1.f8 :: row (Kd.int .i64) 3 (.slice B9n zs.length d9n) zs :: row kE 102 (.slice B10n bl.length d10n) bl :: F)))
  case first =>
    cases b with
    | false =>
      have HB2 := Aside0.mk (bests_no (show ¬ better s1 m.f6 m.f7 from by have := HB.out; rwa [if_neg (by decide)] at this))
      go_wp2_with fail
      go_meet
      case rel => exact ⟨_, _, _, _, HB2, M5⟩
    | true =>
      have HB2 := Aside0.mk (bests_yes (show better s1 m.f6 m.f7 from by have := HB.out; rwa [if_pos rfl] at this))
      have M5D := Aside0.mk M5.out.drew
      go_upto_region 9 with (fail)
      refine start_ (n := 15) (S := fun w' => (∀ j : Nat, w'.cell? ⟨w.heap.size, j, none⟩ = wc.cell? ⟨w.heap.size, j, none⟩)) (ds := [14]) #[false, false, false, false, false, false, false, false, false, false, false, false, false, false, false] (by kernel_rfl) rfl rfl ((fun j => rfl)) (fun hHeld => ?_)
      refine pure_ (i := 0) (N := some 92) (v := ?_) (a' := ?_) #[true, false, false, false, false, false, false, false, false, false, false, false, false, false, false] rfl rfl (by kernel_rfl) (fun _ _ _ h => h) (Or.inl ⟨by rfl, ?_⟩) ?_ ?_
      rotate_left
      · intro w'
        go_simp
        with_reducible rfl
      rotate_left
      · simp only [Act.put, List.setIfInBounds_toArray, List.set_cons_zero, List.set_cons_succ, i64_w, i32_w]
        rfl
      refine pure_ (i := 1) (N := some 93) (v := ?_) (a' := ?_) #[true, true, false, false, false, false, false, false, false, false, false, false, false, false, false] rfl rfl (by kernel_rfl) (fun _ _ _ h => h) (Or.inl ⟨by rfl, ?_⟩) ?_ ?_
      rotate_left
      · intro w'
        go_simp
        with_reducible rfl
      rotate_left
      · simp only [Act.put, List.setIfInBounds_toArray, List.set_cons_zero, List.set_cons_succ, i64_w, i32_w]
        rfl
      refine pure_ (i := 2) (N := some 94) (v := ?_) (a' := ?_) #[true, true, true, false, false, false, false, false, false, false, false, false, false, false, false] rfl rfl (by kernel_rfl) (fun _ _ _ h => h) (Or.inl ⟨by rfl, ?_⟩) ?_ ?_
      rotate_left
      · intro w'
        go_simp
        with_reducible rfl
      rotate_left
      · simp only [Act.put, List.setIfInBounds_toArray, List.set_cons_zero, List.set_cons_succ, i64_w, i32_w]
        rfl
      refine pure_ (i := 5) (N := some 97) (v := ?_) (a' := ?_) #[true, true, true, false, false, true, false, false, false, false, false, false, false, false, false] rfl rfl (by kernel_rfl) (fun _ _ _ h => h) (Or.inl ⟨by rfl, ?_⟩) ?_ ?_
      rotate_left
      · intro w'
        go_simp
        with_reducible rfl
      rotate_left
      · simp only [Act.put, List.setIfInBounds_toArray, List.set_cons_zero, List.set_cons_succ, i64_w, i32_w]
        rfl
      refine take_ (i := 3) (N := some 95) (v := ?_) (a' := ?_) #[true, true, true, true, false, true, false, false, false, false, false, false, false, false, false] rfl rfl (by kernel_rfl) (fun _ _ _ h => h) (Or.inl ⟨by rfl, ?_⟩) hHeld ?_ ?_
      rotate_left
      · intro w' s0
        go_simp
        with_reducible rfl
      rotate_left
      · simp only [Act.put, List.setIfInBounds_toArray, List.set_cons_zero, List.set_cons_succ, i64_w, i32_w]
        rfl
      refine take_ (i := 6) (N := some 98) (v := ?_) (a' := ?_) #[true, true, true, true, false, true, true, false, false, false, false, false, false, false, false] rfl rfl (by kernel_rfl) (fun _ _ _ h => h) (Or.inl ⟨by rfl, ?_⟩) hHeld ?_ ?_
      rotate_left
      · intro w' s0
        go_simp
        with_reducible rfl
      rotate_left
      · simp only [Act.put, List.setIfInBounds_toArray, List.set_cons_zero, List.set_cons_succ, i64_w, i32_w]
        rfl
      refine one_ (i := 4) (N := some 96) #[true, true, true, true, true, true, true, false, false, false, false, false, false, false, false] rfl rfl (by kernel_rfl) (by decide) (fun K hK => ?_)
      refine goes_ Try.func92 (by kernel_rfl) rfl #[.slice A m.f7.length c] (by rfl) rfl rfl (by simp only [List.map_toArray, List.map_cons, List.map_nil]; rfl) ?_
      with_reducible refine (entries_calls A c m.f7 _ (HLs.out _ (Mem.sel (ps := [_, _, _, _, _, _, _, _]) (F := F) [3] 8 M5D.out rfl rfl)) (Nat.le_trans HN.out.1 (by decide))).mono ?_
      rintro e w3 ⟨v, rfl, hM⟩
      refine ⟨_, rfl, ?_⟩
      have M6 := Aside0.mk (M5D.out.trans hM)
      clear hM
      obtain ⟨B10n, d10n, rfl, _, _⟩ := M6.out.row_at 0 rfl
      have cG3 := blk_cell (M6.out.blk_at 2 rfl)
      have fG3 := blk_frozen (M6.out.blk_at 2 rfl)
      have gG3 := blk_lt (M6.out.blk_at 2 rfl)
      unfold Wa.wc at cG3
      refine hK.out _ _ ((fun j => (blk_cell (M6.out.blk_at 1 rfl) j).trans (HM0.out j).symm)) (fun hHeld => ?_)
      clear hK K
      refine norm_ (a' := ?_) ?_ ?_
      rotate_left
      · show Act.put _ (some 96) _ = _
        simp only [Act.put, List.setIfInBounds_toArray, List.set_cons_zero, List.set_cons_succ, i64_w, i32_w]
        rfl
      refine pure_ (i := 7) (N := some 99) (v := ?_) (a' := ?_) #[true, true, true, true, true, true, true, true, false, false, false, false, false, false, false] rfl rfl (by kernel_rfl) (fun _ _ _ h => h) (Or.inl ⟨by rfl, ?_⟩) ?_ ?_
      rotate_left
      · intro w'
        go_simp
        with_reducible rfl
      rotate_left
      · simp only [Act.put, List.setIfInBounds_toArray, List.set_cons_zero, List.set_cons_succ, i64_w, i32_w]
        rfl
      refine pure_ (i := 8) (N := some 100) (v := ?_) (a' := ?_) #[true, true, true, true, true, true, true, true, true, false, false, false, false, false, false] rfl rfl (by kernel_rfl) (fun _ _ _ h => h) (Or.inl ⟨by rfl, ?_⟩) ?_ ?_
      rotate_left
      · intro w'
        go_simp
        with_reducible rfl
      rotate_left
      · simp only [Act.put, List.setIfInBounds_toArray, List.set_cons_zero, List.set_cons_succ, i64_w, i32_w]
        rfl
      refine pure_ (i := 9) (N := some 101) (v := ?_) (a' := ?_) #[true, true, true, true, true, true, true, true, true, true, false, false, false, false, false] rfl rfl (by kernel_rfl) (fun _ _ _ h => h) (Or.inl ⟨by rfl, ?_⟩) ?_ ?_
      rotate_left
      · intro w'
        go_simp
        with_reducible rfl
      rotate_left
      · simp only [Act.put, List.setIfInBounds_toArray, List.set_cons_zero, List.set_cons_succ, i64_w, i32_w]
        rfl
      refine one_ (i := 10) (N := none) #[true, true, true, true, true, true, true, true, true, true, true, false, false, false, false] rfl rfl (by kernel_rfl) (by decide) (fun K hK => ?_)
      refine skip_ (w1 := ?_) (by rfl) rfl ?_ ?_
      rotate_left
      · go_simp
        rfl
      have M7 := Aside0.mk (M6.out.set 2 rfl 10 (.slice B10n m.f7.length d10n))
      refine hK.out _ _ ((fun j => (blk_cell (M7.out.blk_at 1 rfl) j).trans (HM0.out j).symm)) (fun hHeld => ?_)
      clear hK K
      refine pure_ (i := 11) (N := some 102) (v := ?_) (a' := ?_) #[true, true, true, true, true, true, true, true, true, true, true, true, false, false, false] rfl rfl (by kernel_rfl) (fun _ _ _ h => h) (Or.inl ⟨by rfl, ?_⟩) ?_ ?_
      rotate_left
      · intro w'
        go_simp
        with_reducible rfl
      rotate_left
      · simp only [Act.put, List.setIfInBounds_toArray, List.set_cons_zero, List.set_cons_succ, i64_w, i32_w]
        rfl
      refine pure_ (i := 12) (N := some 103) (v := ?_) (a' := ?_) #[true, true, true, true, true, true, true, true, true, true, true, true, true, false, false] rfl rfl (by kernel_rfl) (fun _ _ _ h => h) (Or.inl ⟨by rfl, ?_⟩) ?_ ?_
      rotate_left
      · intro w'
        go_simp
        with_reducible rfl
      rotate_left
      · simp only [Act.put, List.setIfInBounds_toArray, List.set_cons_zero, List.set_cons_succ, i64_w, i32_w]
        rfl
      refine pure_ (i := 13) (N := some 104) (v := ?_) (a' := ?_) #[true, true, true, true, true, true, true, true, true, true, true, true, true, true, false] rfl rfl (by kernel_rfl) (fun _ _ _ h => h) (Or.inl ⟨by rfl, ?_⟩) ?_ ?_
      rotate_left
      · intro w'
        go_simp
        with_reducible rfl
      rotate_left
      · simp only [Act.put, List.setIfInBounds_toArray, List.set_cons_zero, List.set_cons_succ, i64_w, i32_w]
        rfl
      refine last_ (i := 14) (N := none) #[true, true, true, true, true, true, true, true, true, true, true, true, true, true, true] rfl rfl (by kernel_rfl) (by decide) (fun K hK => ?_)
      refine skip_ (w1 := ?_) (by rfl) rfl ?_ ?_
      rotate_left
      · go_simp
        rfl
      have M8 := Aside0.mk (M7.out.set 2 rfl 11 (.int .i64 m.f6))
      refine hK.out _ _ ?_
      clear hK K
      refine done_ (by kernel_rfl) ?_
      go_wp2_with fail
      go_meet
      case rel => exact ⟨_, _, _, _, HB2, ⟨Mem.sel (ps := [_, _, _, _, _, _, _, _, _]) (F := F) [1, 2, 3, 4, 5, 6, 7, 0] 9 M8.out rfl rfl⟩⟩
  case rest =>
  obtain ⟨bl, bv, B10n, d10n, HB2, M6⟩ := hcut
  clear cM HM0 M5 HB
  have cM := blk_cell (M6.out.blk_at 0 rfl)
  have cG := blk_cell (M6.out.blk_at 1 rfl)
  have fG := blk_frozen (M6.out.blk_at 1 rfl)
  have gG := blk_lt (M6.out.blk_at 1 rfl)
  have nG1 := blk_apart M6.out 0 1 rfl rfl (by decide)
  have nG2 := blk_apart M6.out 1 0 rfl rfl (by decide)
  unfold Wa.wc at cG
  go_upto_region 10 with (fail)
  go_cut [] (fun wy => ∃ bd : Int, Aside0 (min (max s1.f12 m.f5) (bl.length : Int) = bd) ∧ Aside0 (Mem w0 wy (blk w.heap.size 29 (Kx.mA m A c) :: blk g 99 (Wa.wc s1.f0 s1.f1 s1.f2 s1.f3 s1.f4 (.slice B5 s1.f5.length d5) s1.f6 v7 v8b (.slice B9n zs.length d9n) (.slice B10n bl.length d10n) bv bd vob) :: row kM 29 vob (out ++ o1) :: row kE 102 (.slice B5 s1.f5.length d5) s1.f5 :: row (Kd.int .i64) 3 v7 s1.f7 :: row (Kd.int .i64) 3 v8b s1.f8 :: row (Kd.int .i64) 3 (.slice B9n zs.length d9n) zs :: row kE 102 (.slice B10n bl.length d10n) bl :: F)))
  case first =>
    go_region
    all_goals
      go_wp2_with fail
      all_goals
        go_meet
        case rel => exact ⟨_, ⟨by first | omega | (split <;> omega) | (split <;> split <;> omega)⟩, ⟨(M6.out.set 1 rfl 12 _).drew⟩⟩
  case rest =>
  obtain ⟨bd, HD, M7⟩ := hcut
  clear cM cG fG gG nG1 nG2 M6
  have cM := blk_cell (M7.out.blk_at 0 rfl)
  have cG := blk_cell (M7.out.blk_at 1 rfl)
  unfold Wa.wc at cG
  have HBL := Aside0.mk (show bl.length ≤ 1200 from by
    by_cases hb : better s1 m.f6 m.f7
    · have e := (bests_yes hb).symm.trans HB2.out
      rw [← (pair_inj e).1]
      exact HN.out.1
    · have e := (bests_no hb).symm.trans HB2.out
      rw [← (pair_inj e).1]
      exact HF.out.1.l10)
  go_wp2_with fail
  refine (most_calls _ g s1.f0 s1.f1 s1.f2 s1.f3 s1.f4 _ s1.f6 _ _ _ _ bv bd _ (M7.out.blk_at 1 rfl) (by have := HF.out.1.i0; have := HF.out.1.i1; omega) HF.out.1.n5).mono ?_
  rintro e w2 ⟨rfl, hD⟩
  have M8 := Aside0.mk (M7.out.drawn hD)
  clear cM cG M7 hD
  have cM := blk_cell (M8.out.blk_at 0 rfl)
  have cG := blk_cell (M8.out.blk_at 1 rfl)
  unfold Wa.wc at cG
  by_cases h6 : (zs.length : Int) = most s1.f1
  case neg =>
    obtain ⟨e6, e6'⟩ := ne_b h6
    have H6 := Aside0.mk h6
    clear h6
    go_wp2
    first | go_end0 | (refine bodyPost_ret (results_none rfl _ _ _) rfl ?_)
    have e2 := states_few H5.out HZ.out HB2.out HD.out H6.out
    obtain ⟨hs1, hs2⟩ := pair_inj ((tState_on (Int.not_lt.2 H12.out.1) H12.out.2 HU.out H4.out e2).symm.trans HSS.out)
    subst hs1
    subst hs2
    rw [List.append_nil]
    exact ⟨rfl, _, _, _, _, _, _, Mem.sel (ps := [_, _, _, _, _, _, _, _]) (F := F) [1, 2, 3, 4, 5, 6, 7] 8 M8.out rfl rfl⟩
  obtain ⟨e6, e6'⟩ := eq_b h6
  have H6 := Aside0.mk h6
  obtain ⟨cx, hcx⟩ : ∃ cx : Int, (if s1.f1 = 1 then (bl.length : Int) else min (max s1.f6 bd) (bl.length : Int)) = cx := ⟨_, rfl⟩
  have HCX := Aside0.mk hcx
  clear h6 hcx
  go_wp2_with fail
  have M8D := Aside0.mk M8.out.drew
  have HG0 := Aside0.mk (blk_cell (M8.out.blk_at 1 rfl))
  go_upto_region 12 with (fail)
  refine start_ (n := 17) (S := fun w' => (∀ j : Nat, w'.cell? ⟨g, j, none⟩ = w2.cell? ⟨g, j, none⟩)) (ds := [16]) #[false, false, false, false, false, false, false, false, false, false, false, false, false, false, false, false, false] (by kernel_rfl) rfl rfl ((fun j => rfl)) (fun hHeld => ?_)
  refine pure_ (i := 0) (N := some 129) (v := ?_) (a' := ?_) #[true, false, false, false, false, false, false, false, false, false, false, false, false, false, false, false, false] rfl rfl (by kernel_rfl) (fun _ _ _ h => h) (Or.inl ⟨by rfl, ?_⟩) ?_ ?_
  rotate_left
  · intro w'
    go_simp
    with_reducible rfl
  rotate_left
  · simp only [Act.put, List.setIfInBounds_toArray, List.set_cons_zero, List.set_cons_succ, i64_w, i32_w]
    rfl
  refine pure_ (i := 1) (N := some 130) (v := ?_) (a' := ?_) #[true, true, false, false, false, false, false, false, false, false, false, false, false, false, false, false, false] rfl rfl (by kernel_rfl) (fun _ _ _ h => h) (Or.inl ⟨by rfl, ?_⟩) ?_ ?_
  rotate_left
  · intro w'
    go_simp
    with_reducible rfl
  rotate_left
  · simp only [Act.put, List.setIfInBounds_toArray, List.set_cons_zero, List.set_cons_succ, i64_w, i32_w]
    rfl
  refine pure_ (i := 2) (N := some 131) (v := ?_) (a' := ?_) #[true, true, true, false, false, false, false, false, false, false, false, false, false, false, false, false, false] rfl rfl (by kernel_rfl) (fun _ _ _ h => h) (Or.inl ⟨by rfl, ?_⟩) ?_ ?_
  rotate_left
  · intro w'
    go_simp
    with_reducible rfl
  rotate_left
  · simp only [Act.put, List.setIfInBounds_toArray, List.set_cons_zero, List.set_cons_succ, i64_w, i32_w]
    rfl
  refine pure_ (i := 3) (N := some 132) (v := ?_) (a' := ?_) #[true, true, true, true, false, false, false, false, false, false, false, false, false, false, false, false, false] rfl rfl (by kernel_rfl) (fun _ _ _ h => h) (Or.inl ⟨by rfl, ?_⟩) ?_ ?_
  rotate_left
  · intro w'
    go_simp
    with_reducible rfl
  rotate_left
  · simp only [Act.put, List.setIfInBounds_toArray, List.set_cons_zero, List.set_cons_succ, i64_w, i32_w]
    rfl
  refine pure_ (i := 4) (N := some 133) (v := ?_) (a' := ?_) #[true, true, true, true, true, false, false, false, false, false, false, false, false, false, false, false, false] rfl rfl (by kernel_rfl) (fun _ _ _ h => h) (Or.inl ⟨by rfl, ?_⟩) ?_ ?_
  rotate_left
  · intro w'
    go_simp
    with_reducible rfl
  rotate_left
  · simp only [Act.put, List.setIfInBounds_toArray, List.set_cons_zero, List.set_cons_succ, i64_w, i32_w]
    rfl
  refine pure_ (i := 6) (N := some 135) (v := ?_) (a' := ?_) #[true, true, true, true, true, false, true, false, false, false, false, false, false, false, false, false, false] rfl rfl (by kernel_rfl) (fun _ _ _ h => h) (Or.inl ⟨by rfl, ?_⟩) ?_ ?_
  rotate_left
  · intro w'
    go_simp
    with_reducible rfl
  rotate_left
  · simp only [Act.put, List.setIfInBounds_toArray, List.set_cons_zero, List.set_cons_succ, i64_w, i32_w]
    rfl
  refine pure_ (i := 7) (N := some 136) (v := ?_) (a' := ?_) #[true, true, true, true, true, false, true, true, false, false, false, false, false, false, false, false, false] rfl rfl (by kernel_rfl) (fun _ _ _ h => h) (Or.inl ⟨by rfl, ?_⟩) ?_ ?_
  rotate_left
  · intro w'
    go_simp
    with_reducible rfl
  rotate_left
  · simp only [Act.put, List.setIfInBounds_toArray, List.set_cons_zero, List.set_cons_succ, i64_w, i32_w]
    rfl
  refine pure_ (i := 8) (N := some 137) (v := ?_) (a' := ?_) #[true, true, true, true, true, false, true, true, true, false, false, false, false, false, false, false, false] rfl rfl (by kernel_rfl) (fun _ _ _ h => h) (Or.inl ⟨by rfl, ?_⟩) ?_ ?_
  rotate_left
  · intro w'
    go_simp
    with_reducible rfl
  rotate_left
  · simp only [Act.put, List.setIfInBounds_toArray, List.set_cons_zero, List.set_cons_succ, i64_w, i32_w]
    rfl
  refine pure_ (i := 9) (N := some 138) (v := ?_) (a' := ?_) #[true, true, true, true, true, false, true, true, true, true, false, false, false, false, false, false, false] rfl rfl (by kernel_rfl) (fun _ _ _ h => h) (Or.inl ⟨by rfl, ?_⟩) ?_ ?_
  rotate_left
  · intro w'
    go_simp
    with_reducible rfl
  rotate_left
  · simp only [Act.put, List.setIfInBounds_toArray, List.set_cons_zero, List.set_cons_succ, i64_w, i32_w]
    rfl
  refine pure_ (i := 11) (N := some 140) (v := ?_) (a' := ?_) #[true, true, true, true, true, false, true, true, true, true, false, true, false, false, false, false, false] rfl rfl (by kernel_rfl) (fun _ _ _ h => h) (Or.inl ⟨by rfl, ?_⟩) ?_ ?_
  rotate_left
  · intro w'
    go_simp
    with_reducible rfl
  rotate_left
  · simp only [Act.put, List.setIfInBounds_toArray, List.set_cons_zero, List.set_cons_succ, i64_w, i32_w]
    rfl
  refine pure_ (i := 12) (N := some 141) (v := ?_) (a' := ?_) #[true, true, true, true, true, false, true, true, true, true, false, true, true, false, false, false, false] rfl rfl (by kernel_rfl) (fun _ _ _ h => h) (Or.inl ⟨by rfl, ?_⟩) ?_ ?_
  rotate_left
  · intro w'
    go_simp
    with_reducible rfl
  rotate_left
  · simp only [Act.put, List.setIfInBounds_toArray, List.set_cons_zero, List.set_cons_succ, i64_w, i32_w]
    rfl
  refine pure_ (i := 13) (N := some 142) (v := ?_) (a' := ?_) #[true, true, true, true, true, false, true, true, true, true, false, true, true, true, false, false, false] rfl rfl (by kernel_rfl) (fun _ _ _ h => h) (Or.inl ⟨by rfl, ?_⟩) ?_ ?_
  rotate_left
  · intro w'
    go_simp
    with_reducible rfl
  rotate_left
  · simp only [Act.put, List.setIfInBounds_toArray, List.set_cons_zero, List.set_cons_succ, i64_w, i32_w]
    rfl
  refine pure_ (i := 14) (N := some 143) (v := ?_) (a' := ?_) #[true, true, true, true, true, false, true, true, true, true, false, true, true, true, true, false, false] rfl rfl (by kernel_rfl) (fun _ _ _ h => h) (Or.inl ⟨by rfl, ?_⟩) ?_ ?_
  rotate_left
  · intro w'
    go_simp
    with_reducible rfl
  rotate_left
  · simp only [Act.put, List.setIfInBounds_toArray, List.set_cons_zero, List.set_cons_succ, i64_w, i32_w]
    rfl
  refine take_ (i := 5) (N := some 134) (v := ?_) (a' := ?_) #[true, true, true, true, true, true, true, true, true, true, false, true, true, true, true, false, false] rfl rfl (by kernel_rfl) (fun _ _ _ h => h) (Or.inl ⟨by rfl, ?_⟩) hHeld ?_ ?_
  rotate_left
  · intro w' s0
    go_simp
    with_reducible rfl
  rotate_left
  · simp only [Act.put, List.setIfInBounds_toArray, List.set_cons_zero, List.set_cons_succ, i64_w, i32_w]
    rfl
  refine take_ (i := 10) (N := some 139) (v := ?_) (a' := ?_) #[true, true, true, true, true, true, true, true, true, true, true, true, true, true, true, false, false] rfl rfl (by kernel_rfl) (fun _ _ _ h => h) (Or.inl ⟨by rfl, ?_⟩) hHeld ?_ ?_
  rotate_left
  · intro w' s0
    go_simp
    with_reducible rfl
  rotate_left
  · simp only [Act.put, List.setIfInBounds_toArray, List.set_cons_zero, List.set_cons_succ, i64_w, i32_w]
    rfl
  refine take_ (i := 15) (N := some 144) (v := ?_) (a' := ?_) #[true, true, true, true, true, true, true, true, true, true, true, true, true, true, true, true, false] rfl rfl (by kernel_rfl) (fun _ _ _ h => h) (Or.inl ⟨by rfl, ?_⟩) hHeld ?_ ?_
  rotate_left
  · intro w' s0
    go_simp
    with_reducible rfl
  rotate_left
  · simp only [Act.put, List.setIfInBounds_toArray, List.set_cons_zero, List.set_cons_succ, i64_w, i32_w]
    rfl
  refine last_ (i := 16) (N := some 145) #[true, true, true, true, true, true, true, true, true, true, true, true, true, true, true, true, true] rfl rfl (by kernel_rfl) (by decide) (fun K hK => ?_)
  refine goes_ Try.func78 (by kernel_rfl) rfl #[.pointer (some ⟨g, 0, none⟩), .int .i64 s1.f2, .slice B10n bl.length d10n, .int .i64 bd] (by rfl) rfl rfl (by simp only [List.map_toArray, List.map_cons, List.map_nil]; rfl) ?_
  with_reducible refine (normal_calls w0 _ _ g s1.f0 s1.f1 s1.f2 s1.f3 s1.f4 _ s1.f6 _ _ _ _ bv bd _ s1.f2 bd B10n d10n bl (Mem.sel (ps := [_, _, _, _, _, _, _, _]) (F := F) [1, 0, 2, 3, 4, 5, 6, 7] 8 M8D.out rfl rfl) (fun w' b hq => hq.row_C 7 rfl) (Nat.le_trans HBL.out (by decide)) HF.out.1.i0 HF.out.1.i1 HF.out.1.n5 cx HCX.out).mono ?_
  rintro e w5 ⟨vl, va, rfl, hM⟩
  refine ⟨_, rfl, ?_⟩
  have M9 := Aside0.mk hM
  obtain ⟨L5, l5, rfl, hl5, _⟩ := M9.out.row_at 2 rfl
  clear hM
  refine hK.out _ _ ?_
  clear hK K
  refine norm_ (a' := ?_) ?_ ?_
  rotate_left
  · show Act.put _ (some 145) _ = _
    simp only [Act.put, List.setIfInBounds_toArray, List.set_cons_zero, List.set_cons_succ, i64_w, i32_w]
    rfl
  refine done_ (by kernel_rfl) ?_
  clear cM cG HG0 M8D M8
  have M10 := Aside0.mk (Mem.sel (ps := [_, _, _, _, _, _, _, _, _, _]) (F := F) [2, 0, 4, 1] 10 M9.out rfl rfl)
  clear M9
  have HG0 := Aside0.mk (blk_cell (M10.out.blk_at 1 rfl))
  have cG := HG0.out
  unfold Wa.wc at cG
  go_wp2_with fail
  go_upto_region 13 with (fail)
  have M2D := Aside0.mk M10.out.drew
  have HS0 := Aside0.mk (show (∀ j : Nat, j < 13 → w5.drew.cell? ⟨g, j, none⟩ = w5.cell? ⟨g, j, none⟩) from fun _ _ => rfl)
  have H9 := HS0
  go_region_held3 (fun w' => (∀ j : Nat, j < 13 → w'.cell? ⟨g, j, none⟩ = w5.cell? ⟨g, j, none⟩)) (first | with_reducible exact HS0.out | with_reducible exact H9.out | fail) ((go_at_call 75; refine (all_calls w0 _ (row kE 102 (.slice L5 bl.length l5) bl) _ g s1.f0 s1.f1 s1.f2 s1.f2 0 _ cx va (.slice none 0 0) (.slice none 0 0) (.slice none 0 0) (-1) 0 vob (out ++ o1) 6 0 0 0 0 cx 0 L5 l5 bl (Mem.sel (ps := [_, _, _, _]) (F := F) [0, 1, 2, 3] 4 M2D.out rfl rfl) Rd.row (Nat.le_trans HBL.out (by decide)) hl5 (Nat.le_trans HO.out (by decide)) (by have := HF.out.1.i0; have := HF.out.1.i1; omega) HF.out.1.n5).mono ?_; rintro e w6 ⟨vo2, rfl, hM⟩; have M11 := Aside0.mk (Mem.sel (ps := [_, _, _, _]) (F := F) [1, 2, 0, 3] 4 hM rfl rfl); clear hM; have H9 := Aside0.mk (show (∀ j : Nat, j < 13 → w6.cell? ⟨g, j, none⟩ = w5.cell? ⟨g, j, none⟩) from fun j hj => (blk_cell (M11.out.blk_at 0 rfl) j).trans (Eq.trans (wc_low _ _ _ _ _ _ _ _ _ _ _ _ _ _ _ j hj) (HG0.out j).symm))))
  go_wp2
  first | go_end0 | (refine bodyPost_ret (results_none rfl _ _ _) rfl ?_)
  have hcx := HCX.out
  subst hcx
  have e2 := states_most H5.out HZ.out HB2.out HD.out H6.out
  obtain ⟨hs1, hs2⟩ := pair_inj ((tState_on (Int.not_lt.2 H12.out.1) H12.out.2 HU.out H4.out e2).symm.trans HSS.out)
  subst hs1
  subst hs2
  rw [← List.append_assoc]
  exact ⟨rfl, _, _, _, _, _, _, Mem.sel (ps := [_, _, _, _, _, _, _]) (F := F) [3, 4, 5, 6, 2, 1, 0] 7 (Mem.row_nil (Mem.row_nil (Mem.row_nil M11.out (Kd.int .i64) 3) (Kd.int .i64) 3) kE 102) rfl rfl⟩
theorem state_calls (w0 w : World) (F : List Res) (g : Nat) (r s : Rep) (m : Msg) (v5 v7 v8 v9 v10 vo : Value) (out ms : List Msg) (A : Option Addr) (c : Nat) (hM : Mem w0 w (wS g r v5 r.f5 r.f6 v7 v8 v9 v10 vo out F)) (H0 : StateIn w0 r m v5 F A c out) (hs : tState r m = (s, ms)) : StateDoes w0 w F g m A c s (out ++ ms) := by
  by_cases h1 : m.f3 < r.f2
  · obtain ⟨e1, e2⟩ := pair_inj ((tState_low h1).symm.trans hs)
    subst e1
    subst e2
    exact state_low w0 w F g r r m v5 v7 v8 v9 v10 vo out [] A c hM H0 h1
  by_cases h2 : m.f3 % r.f1 = r.f0
  · exact state_on w0 w F g r s m v5 v7 v8 v9 v10 vo out ms A c hM H0 h1 h2 hs
  · obtain ⟨e1, e2⟩ := pair_inj ((tState_not h2).symm.trans hs)
    subst e1
    subst e2
    exact state_not w0 w F g r r m v5 v7 v8 v9 v10 vo out [] A c hM H0 h1 h2
end Go.Proofs.Ytggbjokhniigkaa.Cs
