/- Texts laid together: Cr, Am, Ct. No condition. -/
import Derived.Test.YtggbjokhniigkaaGreatYTz26
set_option linter.unusedVariables false
set_option linter.unusedSimpArgs false
set_option maxRecDepth 100000
set_option maxHeartbeats 8000000
namespace Go.Proofs.YtggbjokhniigkaaGreat.Cr
open Lx Ty Go.RowKit YtggbjokhniigkaaGreatW.PrintWords YtggbjokhniigkaaGreatW.PrintLast YtggbjokhniigkaaGreatW.PrintMore Mx Kx Wa Tk Sa To Rb Wj Wd Cx Jn Mo
def StatesDoes (w0 w : World) (F : List Res) (g : Nat) (frm was commit : Int) (lg : List Entry) (A : Option Addr) (c : Nat) (s : Rep) (out : List Msg) : Prop :=
  Calls Tryz.prog 115 #[.pointer (some ⟨g, 0, none⟩), .int .i64 frm, .int .i64 was, .int .i64 commit, .slice A lg.length c] w fun e w' => ∃ vout v5' v7' v8' v9' v10' : Value, e = .returned vout ∧ Mem w0 w' (qS g s v5' s.f5 s.f6 v7' v8' v9' v10' (row kM 27 vout out :: F))
theorem eq_b {a b : Int} (h : a = b) : (a == b) = true ∧ (a != b) = false := by simp [h]
theorem ne_b {a b : Int} (h : ¬ a = b) : (a == b) = false ∧ (a != b) = true := by simp [h]
theorem pair_inj {α β : Type} {a c : α} {b d : β} (h : (a, b) = (c, d)) : a = c ∧ b = d := by injection h with h1 h2; exact ⟨h1, h2⟩
theorem states11_calls (w0 w : World) (F : List Res) (g : Nat) (r s : Rep) (ms : List Msg) (frm was commit : Int) (lg : List Entry) (v5 v7 v8 v9 v10 : Value) (A : Option Addr) (c : Nat) (hM : Mem w0 w (qS g r v5 r.f5 r.f6 v7 v8 v9 v10 F)) (fr : Fine r)
    (hl : ∀ w', Mem w0 w' (row kE 68 v5 r.f5 :: F) → Kd.C kE w' A lg.length lg) (hlm : lg.length ≤ 1200) (hs : states r frm was commit lg = (s, ms)) : StatesDoes w0 w F g frm was commit lg A c s ms := by
  unfold StatesDoes
  obtain ⟨B5, d5, rfl, _, _⟩ := hM.row_at 1 rfl
  obtain ⟨B9, d9, rfl, _, _⟩ := hM.row_at 4 rfl
  obtain ⟨B10, d10, rfl, _, _⟩ := hM.row_at 5 rfl
  have HSS := Aside0.mk hs
  have FR := Aside0.mk fr
  have HLs := Aside0.mk hl
  have HN := Aside0.mk hlm
  have M1 : Aside0 (Mem w0 w (blk g 25 (qc r.f0 r.f1 r.f2 r.f3 r.f4 (.slice B5 r.f5.length d5) r.f6 v7 v8 (.slice B9 r.f9.length d9) (.slice B10 r.f10.length d10) r.f11 r.f12) :: row kE 68 (.slice B5 r.f5.length d5) r.f5 :: row (Kd.int .i64) 3 v7 r.f7 :: row (Kd.int .i64) 3 v8 r.f8 :: row (Kd.int .i64) 3 (.slice B9 r.f9.length d9) r.f9 :: row kE 68 (.slice B10 r.f10.length d10) r.f10 :: F)) := ⟨hM⟩
  clear hs fr hl hlm hM
  have cG := blk_cell (M1.out.blk_at 0 rfl)
  unfold qc at cG
  go_enter Tryz.func115, Tryz.ntmps115
  go_wp2_with fail
  by_cases h5 : frm ∈ r.f9
  · refine (add_in w0 _ _ _ r.f9 frm (Mem.sel (ps := [_, _, _, _, _, _]) (F := F) [4, 0, 1, 2, 3, 5] 6 M1.out rfl rfl) (Nat.le_trans FR.out.l9 (by decide)) FR.out.p9 h5).mono ?_
    rintro e w1 ⟨rfl, hM⟩
    have M3 := Aside0.mk hM
    have H5 := Aside0.mk h5
    clear hM h5
    go_wp2
    go_ret
    obtain ⟨hs1, hs2⟩ := pair_inj ((states_in H5.out).symm.trans HSS.out)
    subst hs1
    subst hs2
    exact ⟨_, _, _, _, _, _, rfl, Mem.sel (ps := [_, _, _, _, _, _, _]) (F := F) [2, 3, 4, 5, 1, 6, 0] 7 (Mem.row_nil M3.out kM 27) rfl rfl⟩
  have H5 := Aside0.mk h5
  clear h5
  obtain ⟨zs, hz⟩ : ∃ zs, insertId r.f9 frm = zs := ⟨_, rfl⟩
  have HZ := Aside0.mk hz
  clear hz
  refine (add_not w0 _ _ _ r.f9 frm (Mem.sel (ps := [_, _, _, _, _, _]) (F := F) [4, 0, 1, 2, 3, 5] 6 M1.out rfl rfl) (Nat.le_trans FR.out.l9 (by decide)) FR.out.p9 H5.out zs HZ.out).mono ?_
  rintro e w1 ⟨v', rfl, hM⟩
  obtain ⟨B9n, d9n, rfl, _, _⟩ := hM.row_at 0 rfl
  have M3 := Aside0.mk hM
  clear hM M1 cG
  have cG := blk_cell (M3.out.blk_at 2 rfl)
  have fG := blk_frozen (M3.out.blk_at 2 rfl)
  have gG := blk_lt (M3.out.blk_at 2 rfl)
  unfold qc at cG
  have M4 := Aside0.mk (Mem.sel (ps := [_, _, _, _, _, _, _]) (F := F) [2, 3, 4, 5, 0, 6] 7 (M3.out.set 2 rfl 9 (.slice B9n zs.length d9n)) rfl rfl)
  go_upto_region 5 with (fail)
  obtain ⟨wx, hwx⟩ : ∃ wx, w1.setCell ⟨g, 9, none⟩ (.slice B9n zs.length d9n) = wx := ⟨_, rfl⟩
  have M4 : Aside0 (Mem w0 wx (blk g 25 (qc r.f0 r.f1 r.f2 r.f3 r.f4 (.slice B5 r.f5.length d5) r.f6 v7 v8 (.slice B9n zs.length d9n) (.slice B10 r.f10.length d10) r.f11 r.f12) :: row kE 68 (.slice B5 r.f5.length d5) r.f5 :: row (Kd.int .i64) 3 v7 r.f7 :: row (Kd.int .i64) 3 v8 r.f8 :: row (Kd.int .i64) 3 (.slice B9n zs.length d9n) zs :: row kE 68 (.slice B10 r.f10.length d10) r.f10 :: F)) := ⟨by rw [← hwx]; exact M4.out⟩
  rw [hwx]
  clear cG fG gG M3 hwx
  have cG := blk_cell (M4.out.blk_at 0 rfl)
  unfold qc at cG
  go_cut [51] (fun s51 wy => ∃ b : Bool, s51 = .bool b ∧ Aside0 (if b = true then better r was lg else ¬ better r was lg) ∧ Aside0 (Mem w0 wy (blk g 25 (qc r.f0 r.f1 r.f2 r.f3 r.f4 (.slice B5 r.f5.length d5) r.f6 v7 v8 (.slice B9n zs.length d9n) (.slice B10 r.f10.length d10) r.f11 r.f12) :: row kE 68 (.slice B5 r.f5.length d5) r.f5 :: row (Kd.int .i64) 3 v7 r.f7 :: row (Kd.int .i64) 3 v8 r.f8 :: row (Kd.int .i64) 3 (.slice B9n zs.length d9n) zs :: row kE 68 (.slice B10 r.f10.length d10) r.f10 :: F)))
  case first =>
    by_cases b1 : r.f11 < was
    · have q1 : decide (r.f11 < was) = true := decide_eq_true b1
      have HB := Aside0.mk (show better r was lg from .inl b1)
      clear b1
      go_wp2_with fail
      go_meet
      case rel => exact ⟨true, rfl, ⟨by rw [if_pos rfl]; exact HB.out⟩, M4⟩
    have q1 : decide (r.f11 < was) = false := decide_eq_false b1
    by_cases b2 : was = r.f11
    case neg =>
      obtain ⟨q2, q3⟩ := ne_b b2
      have HB := Aside0.mk (show ¬ better r was lg from fun h => h.elim b1 (fun h => b2 h.1))
      clear b1 b2
      go_wp2_with fail
      go_meet
      case rel => exact ⟨false, rfl, ⟨by rw [if_neg (by decide)]; exact HB.out⟩, M4⟩
    obtain ⟨q2, q3⟩ := eq_b b2
    by_cases b3 : r.f10.length < lg.length
    · have q4 : decide (r.f10.length < lg.length) = true := decide_eq_true b3
      have q5 : decide ((r.f10.length : Int) < (lg.length : Int)) = true := decide_eq_true (by omega)
      have HB := Aside0.mk (show better r was lg from .inr ⟨b2, b3⟩)
      clear b1 b2 b3
      go_wp2_with fail
      go_meet
      case rel => exact ⟨true, rfl, ⟨by rw [if_pos rfl]; exact HB.out⟩, M4⟩
    · have q4 : decide (r.f10.length < lg.length) = false := decide_eq_false b3
      have q5 : decide ((r.f10.length : Int) < (lg.length : Int)) = false := decide_eq_false (by omega)
      have HB := Aside0.mk (show ¬ better r was lg from fun h => h.elim b1 (fun h => b3 h.2))
      clear b1 b2 b3
      go_wp2_with fail
      go_meet
      case rel => exact ⟨false, rfl, ⟨by rw [if_neg (by decide)]; exact HB.out⟩, M4⟩
  case rest =>
  obtain ⟨b, rfl, HB, M5⟩ := hcut
  clear cG M4
  have cG := blk_cell (M5.out.blk_at 0 rfl)
  unfold qc at cG
  go_upto_if 51 with (fail)
  go_cut [] (fun wy => ∃ (bl : List Entry) (bv : Int) (B10n : Option Addr) (d10n : Nat), Aside0 (bests r was lg = (bl, bv)) ∧ Aside0 (Mem w0 wy (blk g 25 (qc r.f0 r.f1 r.f2 r.f3 r.f4 (.slice B5 r.f5.length d5) r.f6 v7 v8 (.slice B9n zs.length d9n) (.slice B10n bl.length d10n) bv r.f12) :: row kE 68 (.slice B5 r.f5.length d5) r.f5 :: row (Kd.int .i64) 3 v7 r.f7 :: row (Kd.int .i64) 3 v8 r.f8 :: row (Kd.int .i64) 3 (.slice B9n zs.length d9n) zs :: row kE 68 (.slice B10n bl.length d10n) bl :: F)))
  case first =>
    cases b with
    | false =>
      have HB2 := Aside0.mk (bests_no (show ¬ better r was lg from by have := HB.out; rwa [if_neg (by decide)] at this))
      go_wp2_with fail
      go_meet
      case rel => exact ⟨_, _, _, _, HB2, M5⟩
    | true =>
      have HB2 := Aside0.mk (bests_yes (show better r was lg from by have := HB.out; rwa [if_pos rfl] at this))
      have HCL := Aside0.mk (HLs.out _ (Mem.sel (ps := [_, _, _, _, _, _]) (F := F) [1] 6 M5.out rfl rfl))
      go_wp2_with (((with_reducible refine gate_builtin (b := .append) (xs := #[.tmp 53, .tmp 54]) rfl ?_); at_builtin; refine Mem.app kE ((M5.out.allocAt #[] 68 wc.heap.size (by simp)).lit 0 kE [] rfl (Reps.none _ _) (by decide)) 0 _ [] lg rfl (.tmp 53) (.tmp 54) 22 68 _ _ rfl Tryz.underlying22 infoEntry rfl (by decide) (by omega) A _ c rfl rfl rfl (Kd.C_alloc HCL.out _) (fun x cs h => h) (by have := HN.out; simp; omega) ?_; intro v w2 hM; have M6 := Aside0.mk (show Mem _ _ (row kE _ v lg :: _) from hM); clear hM; obtain ⟨B10n, d10n, he, _, _⟩ := M6.out.row_at 0 rfl; subst he; clear cG; have cG := blk_cell (M6.out.blk_at 1 rfl); have fG := blk_frozen (M6.out.blk_at 1 rfl); have hg := blk_lt (M6.out.blk_at 1 rfl); unfold qc at cG))
      go_meet
      case rel => exact ⟨_, _, _, _, HB2, ⟨Mem.sel (ps := [_, _, _, _, _, _, _]) (F := F) [1, 2, 3, 4, 5, 0] 7 ((M6.out.set 1 rfl 10 (.slice B10n lg.length d10n)).set 1 rfl 11 (.int .i64 was)) rfl rfl⟩⟩
  case rest =>
  obtain ⟨bl, bv, B10n, d10n, HB2, M6⟩ := hcut
  clear cG M5 HB
  have cG := blk_cell (M6.out.blk_at 0 rfl)
  have fG := blk_frozen (M6.out.blk_at 0 rfl)
  have gG := blk_lt (M6.out.blk_at 0 rfl)
  unfold qc at cG
  go_upto_region 8 with (fail)
  go_cut [] (fun wy => ∃ bd : Int, Aside0 (min (max r.f12 commit) (bl.length : Int) = bd) ∧ Aside0 (Mem w0 wy (blk g 25 (qc r.f0 r.f1 r.f2 r.f3 r.f4 (.slice B5 r.f5.length d5) r.f6 v7 v8 (.slice B9n zs.length d9n) (.slice B10n bl.length d10n) bv bd) :: row kE 68 (.slice B5 r.f5.length d5) r.f5 :: row (Kd.int .i64) 3 v7 r.f7 :: row (Kd.int .i64) 3 v8 r.f8 :: row (Kd.int .i64) 3 (.slice B9n zs.length d9n) zs :: row kE 68 (.slice B10n bl.length d10n) bl :: F)))
  case first =>
    go_region
    all_goals
      go_wp2_with fail
      all_goals
        go_meet
        case rel => exact ⟨_, ⟨by first | omega | (split <;> omega) | (split <;> split <;> omega)⟩, ⟨(M6.out.set 0 rfl 12 _).drew⟩⟩
  case rest =>
  obtain ⟨bd, HD, M7⟩ := hcut
  clear cG fG gG M6
  have cG := blk_cell (M7.out.blk_at 0 rfl)
  unfold qc at cG
  have HBL := Aside0.mk (show bl.length ≤ 1200 from by
    by_cases hb : better r was lg
    · have e := (bests_yes hb).symm.trans HB2.out
      rw [← (pair_inj e).1]
      exact HN.out
    · have e := (bests_no hb).symm.trans HB2.out
      rw [← (pair_inj e).1]
      exact FR.out.l10)
  go_wp2_with fail
  refine (most11_calls _ r.f1 (by have := FR.out.i0; have := FR.out.i1; omega) FR.out.n5).mono ?_
  rintro e w2 ⟨rfl, hD⟩
  have M8 := Aside0.mk (M7.out.drawn hD)
  clear cG M7 hD
  have HG0 := Aside0.mk (blk_cell (M8.out.blk_at 0 rfl))
  have cG := HG0.out
  unfold qc at cG
  by_cases h6 : (zs.length : Int) = most r.f1
  case neg =>
    obtain ⟨e6, e6'⟩ := ne_b h6
    have H6 := Aside0.mk h6
    clear h6
    go_wp2
    go_ret
    obtain ⟨hs1, hs2⟩ := pair_inj ((states_few H5.out HZ.out HB2.out HD.out H6.out).symm.trans HSS.out)
    subst hs1
    subst hs2
    exact ⟨_, _, _, _, _, _, rfl, Mem.sel (ps := [_, _, _, _, _, _, _]) (F := F) [1, 2, 3, 4, 5, 6, 0] 7 (Mem.row_nil M8.out kM 27) rfl rfl⟩
  obtain ⟨e6, e6'⟩ := eq_b h6
  have H6 := Aside0.mk h6
  obtain ⟨cx, hcx⟩ : ∃ cx : Int, (if r.f1 = 1 then (bl.length : Int) else min (max r.f6 bd) (bl.length : Int)) = cx := ⟨_, rfl⟩
  have HCX := Aside0.mk hcx
  clear h6 hcx
  go_wp2_with fail
  have M8D := Aside0.mk M8.out.drew
  go_upto_region 11 with (fail)
  refine start_ (n := 14) (S := fun w' => (∀ j : Nat, w'.cell? ⟨g, j, none⟩ = w2.cell? ⟨g, j, none⟩)) (ds := [13]) #[false, false, false, false, false, false, false, false, false, false, false, false, false, false] (by kernel_rfl) rfl rfl ((fun j => rfl)) (fun hHeld => ?_)
  refine pure_ (i := 0) (N := some 85) (v := ?_) (a' := ?_) #[true, false, false, false, false, false, false, false, false, false, false, false, false, false] rfl rfl (by kernel_rfl) (fun _ _ _ h => h) (Or.inl ⟨by rfl, ?_⟩) ?_ ?_
  rotate_left
  · intro w'
    go_simp
    with_reducible rfl
  rotate_left
  · simp only [Act.put, List.setIfInBounds_toArray, List.set_cons_zero, List.set_cons_succ, i64_w, i32_w]
    rfl
  refine pure_ (i := 1) (N := some 86) (v := ?_) (a' := ?_) #[true, true, false, false, false, false, false, false, false, false, false, false, false, false] rfl rfl (by kernel_rfl) (fun _ _ _ h => h) (Or.inl ⟨by rfl, ?_⟩) ?_ ?_
  rotate_left
  · intro w'
    go_simp
    with_reducible rfl
  rotate_left
  · simp only [Act.put, List.setIfInBounds_toArray, List.set_cons_zero, List.set_cons_succ, i64_w, i32_w]
    rfl
  refine pure_ (i := 2) (N := some 87) (v := ?_) (a' := ?_) #[true, true, true, false, false, false, false, false, false, false, false, false, false, false] rfl rfl (by kernel_rfl) (fun _ _ _ h => h) (Or.inl ⟨by rfl, ?_⟩) ?_ ?_
  rotate_left
  · intro w'
    go_simp
    with_reducible rfl
  rotate_left
  · simp only [Act.put, List.setIfInBounds_toArray, List.set_cons_zero, List.set_cons_succ, i64_w, i32_w]
    rfl
  refine pure_ (i := 3) (N := some 88) (v := ?_) (a' := ?_) #[true, true, true, true, false, false, false, false, false, false, false, false, false, false] rfl rfl (by kernel_rfl) (fun _ _ _ h => h) (Or.inl ⟨by rfl, ?_⟩) ?_ ?_
  rotate_left
  · intro w'
    go_simp
    with_reducible rfl
  rotate_left
  · simp only [Act.put, List.setIfInBounds_toArray, List.set_cons_zero, List.set_cons_succ, i64_w, i32_w]
    rfl
  refine pure_ (i := 5) (N := some 90) (v := ?_) (a' := ?_) #[true, true, true, true, false, true, false, false, false, false, false, false, false, false] rfl rfl (by kernel_rfl) (fun _ _ _ h => h) (Or.inl ⟨by rfl, ?_⟩) ?_ ?_
  rotate_left
  · intro w'
    go_simp
    with_reducible rfl
  rotate_left
  · simp only [Act.put, List.setIfInBounds_toArray, List.set_cons_zero, List.set_cons_succ, i64_w, i32_w]
    rfl
  refine pure_ (i := 6) (N := some 91) (v := ?_) (a' := ?_) #[true, true, true, true, false, true, true, false, false, false, false, false, false, false] rfl rfl (by kernel_rfl) (fun _ _ _ h => h) (Or.inl ⟨by rfl, ?_⟩) ?_ ?_
  rotate_left
  · intro w'
    go_simp
    with_reducible rfl
  rotate_left
  · simp only [Act.put, List.setIfInBounds_toArray, List.set_cons_zero, List.set_cons_succ, i64_w, i32_w]
    rfl
  refine pure_ (i := 7) (N := some 92) (v := ?_) (a' := ?_) #[true, true, true, true, false, true, true, true, false, false, false, false, false, false] rfl rfl (by kernel_rfl) (fun _ _ _ h => h) (Or.inl ⟨by rfl, ?_⟩) ?_ ?_
  rotate_left
  · intro w'
    go_simp
    with_reducible rfl
  rotate_left
  · simp only [Act.put, List.setIfInBounds_toArray, List.set_cons_zero, List.set_cons_succ, i64_w, i32_w]
    rfl
  refine pure_ (i := 9) (N := some 94) (v := ?_) (a' := ?_) #[true, true, true, true, false, true, true, true, false, true, false, false, false, false] rfl rfl (by kernel_rfl) (fun _ _ _ h => h) (Or.inl ⟨by rfl, ?_⟩) ?_ ?_
  rotate_left
  · intro w'
    go_simp
    with_reducible rfl
  rotate_left
  · simp only [Act.put, List.setIfInBounds_toArray, List.set_cons_zero, List.set_cons_succ, i64_w, i32_w]
    rfl
  refine pure_ (i := 10) (N := some 95) (v := ?_) (a' := ?_) #[true, true, true, true, false, true, true, true, false, true, true, false, false, false] rfl rfl (by kernel_rfl) (fun _ _ _ h => h) (Or.inl ⟨by rfl, ?_⟩) ?_ ?_
  rotate_left
  · intro w'
    go_simp
    with_reducible rfl
  rotate_left
  · simp only [Act.put, List.setIfInBounds_toArray, List.set_cons_zero, List.set_cons_succ, i64_w, i32_w]
    rfl
  refine pure_ (i := 11) (N := some 96) (v := ?_) (a' := ?_) #[true, true, true, true, false, true, true, true, false, true, true, true, false, false] rfl rfl (by kernel_rfl) (fun _ _ _ h => h) (Or.inl ⟨by rfl, ?_⟩) ?_ ?_
  rotate_left
  · intro w'
    go_simp
    with_reducible rfl
  rotate_left
  · simp only [Act.put, List.setIfInBounds_toArray, List.set_cons_zero, List.set_cons_succ, i64_w, i32_w]
    rfl
  refine take_ (i := 4) (N := some 89) (v := ?_) (a' := ?_) #[true, true, true, true, true, true, true, true, false, true, true, true, false, false] rfl rfl (by kernel_rfl) (fun _ _ _ h => h) (Or.inl ⟨by rfl, ?_⟩) hHeld ?_ ?_
  rotate_left
  · intro w' s0
    go_simp
    with_reducible rfl
  rotate_left
  · simp only [Act.put, List.setIfInBounds_toArray, List.set_cons_zero, List.set_cons_succ, i64_w, i32_w]
    rfl
  refine take_ (i := 8) (N := some 93) (v := ?_) (a' := ?_) #[true, true, true, true, true, true, true, true, true, true, true, true, false, false] rfl rfl (by kernel_rfl) (fun _ _ _ h => h) (Or.inl ⟨by rfl, ?_⟩) hHeld ?_ ?_
  rotate_left
  · intro w' s0
    go_simp
    with_reducible rfl
  rotate_left
  · simp only [Act.put, List.setIfInBounds_toArray, List.set_cons_zero, List.set_cons_succ, i64_w, i32_w]
    rfl
  refine take_ (i := 12) (N := some 97) (v := ?_) (a' := ?_) #[true, true, true, true, true, true, true, true, true, true, true, true, true, false] rfl rfl (by kernel_rfl) (fun _ _ _ h => h) (Or.inl ⟨by rfl, ?_⟩) hHeld ?_ ?_
  rotate_left
  · intro w' s0
    go_simp
    with_reducible rfl
  rotate_left
  · simp only [Act.put, List.setIfInBounds_toArray, List.set_cons_zero, List.set_cons_succ, i64_w, i32_w]
    rfl
  refine last_ (i := 13) (N := some 98) #[true, true, true, true, true, true, true, true, true, true, true, true, true, true] rfl rfl (by kernel_rfl) (by decide) (fun K hK => ?_)
  refine goes_ Tryz.func116 (by kernel_rfl) rfl #[.pointer (some ⟨g, 0, none⟩), .slice B10n bl.length d10n, .int .i64 r.f2, .int .i64 bd] (by rfl) rfl rfl (by simp only [List.map_toArray, List.map_cons, List.map_nil]; rfl) ?_
  with_reducible refine (normal11_calls w0 _ _ g r.f0 r.f1 r.f2 r.f3 r.f4 _ r.f6 _ _ _ _ bv bd r.f2 bd B10n d10n bl M8D.out (fun w' b hq => hq.row_C 5 rfl) (Nat.le_trans HBL.out (by decide)) FR.out.i0 FR.out.i1 FR.out.n5 cx HCX.out).mono ?_
  rintro e w5 ⟨vl, va, rfl, hM⟩
  refine ⟨_, rfl, ?_⟩
  have M9 := Aside0.mk hM
  obtain ⟨L5, l5, rfl, hl5, _⟩ := M9.out.row_at 2 rfl
  clear hM
  refine hK.out _ _ ?_
  clear hK K
  refine norm_ (a' := ?_) ?_ ?_
  rotate_left
  · show Act.put _ (some 98) _ = _
    simp only [Act.put, List.setIfInBounds_toArray, List.set_cons_zero, List.set_cons_succ, i64_w, i32_w]
    rfl
  refine done_ (by kernel_rfl) ?_
  clear cG HG0 M8D M8
  have M10 := Aside0.mk (Mem.sel (ps := [_, _, _, _, _, _, _, _]) (F := F) [2, 0, 1] 8 M9.out rfl rfl)
  clear M9
  have HG0 := Aside0.mk (blk_cell (M10.out.blk_at 1 rfl))
  have cG := HG0.out
  unfold qc at cG
  go_wp2_with fail
  go_upto_region 12 with (fail)
  have M2D := Aside0.mk M10.out.drew
  have HS0 := Aside0.mk (show (∀ j : Nat, w5.drew.cell? ⟨g, j, none⟩ = w5.cell? ⟨g, j, none⟩) from fun _ => rfl)
  have H9 := HS0
  go_region_held3 (fun w' => (∀ j : Nat, w'.cell? ⟨g, j, none⟩ = w5.cell? ⟨g, j, none⟩)) (first | with_reducible exact HS0.out | with_reducible exact H9.out | fail) ((go_at_call 118; refine (all11_calls w0 _ (row kE 68 (.slice L5 bl.length l5) bl) _ g r.f0 r.f1 r.f2 r.f2 0 _ cx va (.slice none 0 0) (.slice none 0 0) (.slice none 0 0) (-1) 0 6 0 0 0 0 cx 0 L5 l5 bl (Mem.sel (ps := [_, _, _]) (F := F) [0, 1, 2] 3 M2D.out rfl rfl) Rd.row (Nat.le_trans HBL.out (by decide)) hl5 (by have := FR.out.i0; have := FR.out.i1; omega) FR.out.n5).mono ?_; rintro e w6 ⟨vo2, rfl, hM⟩; have M11 := Aside0.mk hM; clear hM; have H9 := Aside0.mk (show (∀ j : Nat, w6.cell? ⟨g, j, none⟩ = w5.cell? ⟨g, j, none⟩) from fun j => (blk_cell (M11.out.blk_at 2 rfl) j).trans (HG0.out j).symm)))
  go_wp2
  go_ret
  have hcx := HCX.out
  subst hcx
  obtain ⟨hs1, hs2⟩ := pair_inj ((states_most H5.out HZ.out HB2.out HD.out H6.out).symm.trans HSS.out)
  subst hs1
  subst hs2
  exact ⟨_, _, _, _, _, _, rfl, Mem.sel (ps := [_, _, _, _, _, _, _]) (F := F) [5, 4, 6, 2, 1, 0, 3] 7 (Mem.row_nil (Mem.row_nil (Mem.row_nil M11.out (Kd.int .i64) 3) (Kd.int .i64) 3) kE 68) rfl rfl⟩
end Go.Proofs.YtggbjokhniigkaaGreat.Cr
namespace Go.Proofs.YtggbjokhniigkaaGreat.Am
open Go.RowKit YtggbjokhniigkaaGreatW.PrintWords YtggbjokhniigkaaGreatW.PrintLast YtggbjokhniigkaaGreatW.PrintMore Mx
section
variable {P : Program} {ops : Array Oper} {rest : List Oper} {o : Oper} {a : Act} {Q : Exit → Act → World → Prop} {Kc : Act → World → Prop} {α : Type}
theorem reads_M {d : Kd α} {W : World} {q : Nat → Prop} {e : Nat} {A : Option Addr} {m c : Nat} {ys : List α} (h : d.R e W 0 q (.slice A m c) ys) : ReadsRow (d.M W 0 q) d.sz W A m ys := by
  obtain ⟨_, h2⟩ := h
  obtain ⟨A', c', he, _, hr⟩ := OwnRow.reads h2
  injection he with h1 h2 h3
  subst h1
  subst h2
  exact hr.imp_ (Below.refl _ _) (fun _ _ hp => d.M_mono (fun _ hk => hk.1) hp)
theorem Mem.appM_step (d : Kd α) {w0 W : World} {rs : List Res} (hM : Mem w0 W rs) (i j : Nat) (v : Value) (xs ys : List α) (hij : i ≠ j) (hw : Region.wanted o (yielded ops a.tmps) = true) (s x : Operand) (t e e2 : TypeId) (z : Value) (bytes : Nat)
    (ho : o.op = .call { callee := .builtin .append, args := #[s, x], argTypes := #[t, t] })
    (ht : P.underlying t = some (.slice e)) (hinfo : (P.info? e).map (fun i => (i.zero, i.size, i.bytes)) = some (some z, d.sz, bytes)) (hz : z.cells.size = d.sz) (hs0 : 0 < d.sz) (hb0 : 0 < bytes)
    (A : Option Addr) (m c : Nat) (hs : a.eval s = v) (hx : a.eval x = .slice A m c)
    (hi : rs[i]? = some (Mx.row d e v xs)) (hj : rs[j]? = some (Mx.row d e2 (.slice A m c) ys)) (hl : (xs.length + m) * bytes ≤ 140737488355328)
    (h : ∀ v1 w1, Mem w0 w1 ((rs.set i (Mx.row d e v1 (xs ++ ys))).set j emp) → Kc (a.put o.dst v1) w1) :
    if Region.wanted o (yielded ops a.tmps) = true then Oper.wp P o a W Kc Q else Kc (a.put o.dst undef) W := by
  obtain ⟨f, q, h1, hq, h2, h2q, hd, h3⟩ := hM.take2 hi hj hij
  refine Kd.R_append_rows_step d (w0 := W) 0 hw s x t e z bytes ho ht hinfo hz hs0 hb0 v xs ys A m c (fun k => f k ∨ q k ∨ W.heap.size ≤ k) q hs hx (Kd.R_mono h1 (fun _ hk => .inl hk)) (reads_M hq) (fun _ _ hp => hp) (fun k hk => ⟨.inr (.inl hk), fun he => hd k (h1.1 k he.symm) hk⟩) (fun _ hk => .inr (.inr hk)) (Below.refl _ _) (Nat.zero_le _) hl ?_
  intro v1 w1 hr hb1 hg _
  refine h v1 w1 (h3 w1 _ hg.os hg.tape hg.output hg.size (fun k hk hf _ => hg.block k hk (fun he => hf (h1.1 k he.symm))) ?_)
  exact Kd.R_mono (Kd.R_bound hr) (fun k hk => hk.1.imp id (fun hh => hh.imp id (fun hh => ⟨hh, hk.2.2.1⟩)))
theorem Mem.appM (d : Kd α) {w0 W : World} {rs : List Res} (hM : Mem w0 W rs) (i j : Nat) (v : Value) (xs ys : List α) (hij : i ≠ j) (hgd : o.guard = none) (s x : Operand) (t e e2 : TypeId) (z : Value) (bytes : Nat)
    (ho : o.op = .call { callee := .builtin .append, args := #[s, x], argTypes := #[t, t] })
    (ht : P.underlying t = some (.slice e)) (hinfo : (P.info? e).map (fun i => (i.zero, i.size, i.bytes)) = some (some z, d.sz, bytes)) (hz : z.cells.size = d.sz) (hs0 : 0 < d.sz) (hb0 : 0 < bytes)
    (A : Option Addr) (m c : Nat) (hs : a.eval s = v) (hx : a.eval x = .slice A m c)
    (hi : rs[i]? = some (Mx.row d e v xs)) (hj : rs[j]? = some (Mx.row d e2 (.slice A m c) ys)) (hl : (xs.length + m) * bytes ≤ 140737488355328)
    (h : ∀ v1 w1, Mem w0 w1 ((rs.set i (Mx.row d e v1 (xs ++ ys))).set j emp) → wpList P ops Q rest (a.put o.dst v1) w1) : wpList P ops Q (o :: rest) a W := by
  obtain ⟨f, q, h1, hq, h2, h2q, hd, h3⟩ := hM.take2 hi hj hij
  refine Kd.R_append_rows d (w0 := W) 0 hgd s x t e z bytes ho ht hinfo hz hs0 hb0 v xs ys A m c (fun k => f k ∨ q k ∨ W.heap.size ≤ k) q hs hx (Kd.R_mono h1 (fun _ hk => .inl hk)) (reads_M hq) (fun _ _ hp => hp) (fun k hk => ⟨.inr (.inl hk), fun he => hd k (h1.1 k he.symm) hk⟩) (fun _ hk => .inr (.inr hk)) (Below.refl _ _) (Nat.zero_le _) hl ?_
  intro v1 w1 hr hb1 hg _
  refine h v1 w1 (h3 w1 _ hg.os hg.tape hg.output hg.size (fun k hk hf _ => hg.block k hk (fun he => hf (h1.1 k he.symm))) ?_)
  exact Kd.R_mono (Kd.R_bound hr) (fun k hk => hk.1.imp id (fun hh => hh.imp id (fun hh => ⟨hh, hk.2.2.1⟩)))
end
end Go.Proofs.YtggbjokhniigkaaGreat.Am
namespace Go.Proofs.YtggbjokhniigkaaGreat.Ct
open Lx Ty Go.RowKit YtggbjokhniigkaaGreatW.PrintWords YtggbjokhniigkaaGreatW.PrintLast YtggbjokhniigkaaGreatW.PrintMore Mx Kx Wa Tk Sa To Rb Rp Wj Wd Cx Jn Mo Cr Am
def State11Does (w0 w : World) (F : List Res) (g : Nat) (m : Msg) (A : Option Addr) (c : Nat) (s : Rep) (out : List Msg) : Prop :=
  Calls Tryz.prog 68 #[.pointer (some ⟨g, 0, none⟩), .agg (Kx.mA m A c)] w fun e w' => ∃ vout v5' v7' v8' v9' v10' : Value, e = .returned vout ∧ Mem w0 w' (qS g s v5' s.f5 s.f6 v7' v8' v9' v10' (row kM 27 vout out :: F))
structure State11In (w0 : World) (r : Rep) (m : Msg) (v5 : Value) (F : List Res) (A : Option Addr) : Prop where
  fr : Fine r
  hl : ∀ w', Mem w0 w' (row kE 68 v5 r.f5 :: F) → Kd.C kE w' A m.f7.length m.f7
  hv : 0 ≤ m.f3
  hv1 : m.f3 ≤ 4611686018427387904
  hlm : m.f7.length ≤ 1200
theorem states_len {r s : Rep} {ms : List Msg} {frm was commit : Int} {lg : List Entry} (h : Fine r) (e : states r frm was commit lg = (s, ms)) : ms.length ≤ 5 := by
  by_cases g : frm ∈ r.f9
  · rw [states_in g] at e
    rw [← (pair_inj e).2]
    exact Nat.zero_le _
  · obtain ⟨⟨bl, bv⟩, hb⟩ : ∃ b, bests r was lg = b := ⟨_, rfl⟩
    by_cases g3 : ((insertId r.f9 frm).length : Int) = most r.f1
    · rw [states_most g rfl hb rfl g3] at e
      rw [← (pair_inj e).2]
      refine Nat.le_trans (all_len _ _ _ _ _ _) ?_
      show r.f1.toNat ≤ 5
      have := h.n5
      omega
    · rw [states_few g rfl hb rfl g3] at e
      rw [← (pair_inj e).2]
      exact Nat.zero_le _
theorem state11_low (w0 w : World) (F : List Res) (g : Nat) (r s : Rep) (m : Msg) (v5 v7 v8 v9 v10 : Value) (ms : List Msg) (A : Option Addr) (c : Nat) (hM : Mem w0 w (qS g r v5 r.f5 r.f6 v7 v8 v9 v10 F)) (H0 : State11In w0 r m v5 F A) (h1 : m.f3 < r.f2) : State11Does w0 w F g m A c r [] := by
  have e1 : decide (m.f3 < r.f2) = true := decide_eq_true h1
  clear h1
  unfold State11Does
  obtain ⟨fr, hl, hv, hv1, hlm⟩ := H0
  have FR := Aside0.mk fr
  have HV := Aside0.mk (show 0 ≤ m.f3 ∧ m.f3 ≤ 4611686018427387904 from ⟨hv, hv1⟩)
  have HN := Aside0.mk hlm
  obtain ⟨B5, d5, rfl, hd5, _⟩ := hM.row_at 1 rfl
  have M1 := Aside0.mk (hM.alloc (Kx.mA m A c) 27)
  clear hM fr hv hv1 hlm hd5
  have cM := blk_cell (M1.out.blk_at 0 rfl)
  have cG := blk_cell (M1.out.blk_at 1 rfl)
  unfold qc at cG
  go_enter Tryz.func68, Tryz.ntmps68
  go_wp2_with fail
  go_quiet (fail)
  go_wp2
  go_ret
  exact ⟨_, _, _, _, _, _, rfl, Mem.sel (ps := [_, _, _, _, _, _, _, _]) (F := F) [2, 3, 4, 5, 6, 7, 0] 8 (Mem.row_nil (M1.out.drewN _) kM 27) rfl rfl⟩
theorem state11_not (w0 w : World) (F : List Res) (g : Nat) (r s : Rep) (m : Msg) (v5 v7 v8 v9 v10 : Value) (ms : List Msg) (A : Option Addr) (c : Nat) (hM : Mem w0 w (qS g r v5 r.f5 r.f6 v7 v8 v9 v10 F)) (H0 : State11In w0 r m v5 F A) (h1 : ¬ m.f3 < r.f2) (h2 : ¬ m.f3 % r.f1 = r.f0) : State11Does w0 w F g m A c r [] := by
  have e1 : decide (m.f3 < r.f2) = false := decide_eq_false h1
  obtain ⟨e2, e2'⟩ := ne_b h2
  clear h1 h2
  unfold State11Does
  obtain ⟨fr, hl, hv, hv1, hlm⟩ := H0
  have FR := Aside0.mk fr
  have HV := Aside0.mk (show 0 ≤ m.f3 ∧ m.f3 ≤ 4611686018427387904 from ⟨hv, hv1⟩)
  have HN := Aside0.mk hlm
  obtain ⟨B5, d5, rfl, hd5, _⟩ := hM.row_at 1 rfl
  have M1 := Aside0.mk (hM.alloc (Kx.mA m A c) 27)
  clear hM fr hv hv1 hlm hd5
  have cM := blk_cell (M1.out.blk_at 0 rfl)
  have cG := blk_cell (M1.out.blk_at 1 rfl)
  unfold qc at cG
  have z1 : (r.f1 == 0) = false := by have := FR.out.i0; have := FR.out.i1; simp; omega
  have z2 : ¬ r.f1 = 0 := by have := FR.out.i0; have := FR.out.i1; omega
  have z3 : m.f3.tmod r.f1 = m.f3 % r.f1 := Int.tmod_eq_emod_of_nonneg HV.out.1
  go_enter Tryz.func68, Tryz.ntmps68
  go_wp2_with fail
  go_quiet (fail)
  clear z1 z2 z3
  go_wp2
  go_ret
  exact ⟨_, _, _, _, _, _, rfl, Mem.sel (ps := [_, _, _, _, _, _, _, _]) (F := F) [2, 3, 4, 5, 6, 7, 0] 8 (Mem.row_nil (M1.out.drewN _) kM 27) rfl rfl⟩
theorem state11_on (w0 w : World) (F : List Res) (g : Nat) (r s : Rep) (m : Msg) (v5 v7 v8 v9 v10 : Value) (ms : List Msg) (A : Option Addr) (c : Nat) (hM : Mem w0 w (qS g r v5 r.f5 r.f6 v7 v8 v9 v10 F)) (H0 : State11In w0 r m v5 F A) (h1 : ¬ m.f3 < r.f2) (h2 : m.f3 % r.f1 = r.f0) (hs : tState r m = (s, ms)) : State11Does w0 w F g m A c s ms := by
  have HSS := Aside0.mk hs
  have H12 := Aside0.mk (And.intro (Int.not_lt.1 h1) h2)
  have e1 : decide (m.f3 < r.f2) = false := decide_eq_false h1
  obtain ⟨e2, e2'⟩ := eq_b h2
  clear hs h1 h2
  unfold State11Does
  obtain ⟨fr, hl, hv, hv1, hlm⟩ := H0
  have FR := Aside0.mk fr
  have HV := Aside0.mk (show 0 ≤ m.f3 ∧ m.f3 ≤ 4611686018427387904 from ⟨hv, hv1⟩)
  have HN := Aside0.mk hlm
  obtain ⟨B5, d5, rfl, hd5, _⟩ := hM.row_at 1 rfl
  have M1 := Aside0.mk (hM.alloc (Kx.mA m A c) 27)
  clear hM fr hv hv1 hlm hd5
  have cM := blk_cell (M1.out.blk_at 0 rfl)
  have cG := blk_cell (M1.out.blk_at 1 rfl)
  unfold qc at cG
  have z1 : (r.f1 == 0) = false := by have := FR.out.i0; have := FR.out.i1; simp; omega
  have z2 : ¬ r.f1 = 0 := by have := FR.out.i0; have := FR.out.i1; omega
  have z3 : m.f3.tmod r.f1 = m.f3 % r.f1 := Int.tmod_eq_emod_of_nonneg HV.out.1
  have HL := Aside0.mk hl
  clear hl
  go_enter Tryz.func68, Tryz.ntmps68
  go_wp2_with fail
  go_quiet (fail)
  clear z1 z2 z3 e2 e2'
  go_wp2_with fail
  go_quiet (fail)
  clear e1
  go_upto_if 33 with (fail)
  go_cut [5] (fun s5 wx => ∃ (s1 : Rep) (o1 : List Msg) (v8b v9b v10b : Value), Aside0 (upTo r m.f3 = (s1, o1)) ∧ Aside0 (Mem w0 wx (row kM 27 s5 o1 :: blk w.heap.size 27 (Kx.mA m A c) :: blk g 25 (qc s1.f0 s1.f1 s1.f2 s1.f3 s1.f4 (.slice B5 s1.f5.length d5) s1.f6 v7 v8b v9b v10b s1.f11 s1.f12) :: row kE 68 (.slice B5 s1.f5.length d5) s1.f5 :: row (Kd.int .i64) 3 v7 s1.f7 :: row (Kd.int .i64) 3 v8b s1.f8 :: row (Kd.int .i64) 3 v9b s1.f9 :: row kE 68 v10b s1.f10 :: F)))
  case first =>
    go_wp2_with fail
    · have HU0 := Aside0.mk (upTo_yes (show r.f2 < m.f3 by assumption))
      refine (change11_calls w0 _ _ g r.f0 r.f1 r.f2 r.f3 r.f4 _ r.f6 _ _ _ _ r.f11 r.f12 m.f3 (Mem.sel (ps := [_, _, _, _, _, _, _]) (F := F) [1, 0, 2, 3] 7 (M1.out.drewN _) rfl rfl) (by have := FR.out.i0; have := FR.out.i1; omega) FR.out.n5).mono ?_
      rintro e w1 ⟨vv', vout', rfl, hM⟩
      go_wp2_with fail
      go_meet
      case rel => exact ⟨Ty.change r m.f3, _, _, _, _, HU0, ⟨Mem.sel (ps := [_, _, _, _, _, _, _, _]) (F := F) [3, 5, 2, 6, 7, 4, 1, 0] 8 (Mem.row_nil (Mem.row_nil hM (Kd.int .i64) 3) kE 68) rfl rfl⟩⟩
    · have HU0 := Aside0.mk (upTo_no (Int.not_lt.2 (show m.f3 ≤ r.f2 by assumption)))
      go_meet
      case rel => exact ⟨r, [], _, _, _, HU0, ⟨Mem.row_nil ((M1.out.drewN _).drewN _) kM 27⟩⟩
  case rest =>
  obtain ⟨s1, o1, v8b, v9b, v10b, HU, M2⟩ := hcut
  clear M1 cM cG
  obtain ⟨Bo, do_, rfl, _, _⟩ := M2.out.row_at 0 rfl
  have HF := Aside0.mk (upTo_fine FR.out HV.out.1 HV.out.2 HU.out)
  have HLs : Aside0 (∀ w', Mem w0 w' (row kE 68 (.slice B5 s1.f5.length d5) s1.f5 :: F) → Kd.C kE w' A m.f7.length m.f7) := ⟨by rw [HF.out.2.1]; exact HL.out⟩
  clear HL
  have cM := blk_cell (M2.out.blk_at 1 rfl)
  have cG := blk_cell (M2.out.blk_at 2 rfl)
  unfold qc at cG
  by_cases h4 : s1.f4 = 1
  case neg =>
    obtain ⟨e4, e4'⟩ := ne_b h4
    have H4 := Aside0.mk h4
    clear h4
    go_wp2
    go_ret
    obtain ⟨hs1, hs2⟩ := pair_inj ((tState_idle (Int.not_lt.2 H12.out.1) H12.out.2 HU.out H4.out).symm.trans HSS.out)
    subst hs1
    subst hs2
    exact ⟨_, _, _, _, _, _, rfl, Mem.sel (ps := [_, _, _, _, _, _, _, _]) (F := F) [2, 3, 4, 5, 6, 7, 0] 8 M2.out rfl rfl⟩
  have H4 := Aside0.mk h4
  obtain ⟨e4, e4'⟩ := eq_b h4
  clear h4
  obtain ⟨⟨t, ms2⟩, e2⟩ : ∃ b, states s1 m.f1 m.f6 m.f5 m.f7 = b := ⟨_, rfl⟩
  have HE := Aside0.mk e2
  clear e2
  have HOL := Aside0.mk (show o1.length ≤ 5 ∧ ms2.length ≤ 5 from ⟨HF.out.2.2.1, states_len HF.out.1 HE.out⟩)
  go_wp2_with fail
  have q := states11_calls w0 wc (row kM 27 (.slice Bo o1.length do_) o1 :: blk w.heap.size 27 (Kx.mA m A c) :: F) g s1 t ms2 m.f1 m.f6 m.f5 m.f7 _ v7 v8b v9b v10b A c (Mem.sel (ps := [_, _, _, _, _, _, _, _]) (F := F) [2, 3, 4, 5, 6, 7, 0, 1] 8 M2.out rfl rfl) HF.out.1 (fun w' h => HLs.out w' (Mem.sel (ps := [_, _, _]) (F := F) [0] 3 h rfl rfl)) HN.out HE.out
  unfold StatesDoes at q
  refine q.mono ?_
  rintro e w2 ⟨vq, v5', v7', v8', v9', v10', rfl, hM⟩
  obtain ⟨Bq, dq, rfl, _, _⟩ := hM.row_at 6 rfl
  have M3 := Aside0.mk hM
  clear hM q M2 cM cG
  go_wp2_with (((with_reducible refine gate_builtin (b := .append) (xs := #[.tmp 44, .tmp 54]) rfl ?_); at_builtin; refine Am.Mem.appM kM M3.out 7 6 _ o1 ms2 (by decide) rfl (.tmp 44) (.tmp 54) 60 27 27 _ _ rfl Tryz.underlying60 infoMsg rfl (by decide) (by omega) Bq ms2.length dq rfl rfl rfl rfl (by have := HOL.out; omega) ?_; intro v1 w3 hM; have M4 := Aside0.mk hM; clear hM))
  go_ret
  obtain ⟨hs1, hs2⟩ := pair_inj ((tState_on (Int.not_lt.2 H12.out.1) H12.out.2 HU.out H4.out HE.out).symm.trans HSS.out)
  subst hs1
  subst hs2
  exact ⟨_, _, _, _, _, _, rfl, Mem.sel (ps := [_, _, _, _, _, _, _, _, _]) (F := F) [0, 1, 2, 3, 4, 5, 7] 9 M4.out rfl rfl⟩
theorem state11_calls (w0 w : World) (F : List Res) (g : Nat) (r s : Rep) (m : Msg) (v5 v7 v8 v9 v10 : Value) (ms : List Msg) (A : Option Addr) (c : Nat) (hM : Mem w0 w (qS g r v5 r.f5 r.f6 v7 v8 v9 v10 F)) (H0 : State11In w0 r m v5 F A) (hs : tState r m = (s, ms)) : State11Does w0 w F g m A c s ms := by
  by_cases h1 : m.f3 < r.f2
  · obtain ⟨e1, e2⟩ := pair_inj ((tState_low h1).symm.trans hs)
    subst e1
    subst e2
    exact state11_low w0 w F g r r m v5 v7 v8 v9 v10 [] A c hM H0 h1
  by_cases h2 : m.f3 % r.f1 = r.f0
  · exact state11_on w0 w F g r s m v5 v7 v8 v9 v10 ms A c hM H0 h1 h2 hs
  · obtain ⟨e1, e2⟩ := pair_inj ((tState_not h2).symm.trans hs)
    subst e1
    subst e2
    exact state11_not w0 w F g r r m v5 v7 v8 v9 v10 [] A c hM H0 h1 h2
end Go.Proofs.YtggbjokhniigkaaGreat.Ct
