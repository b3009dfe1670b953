/- Texts laid together: Cr, Am, Rp, Ct. No condition. -/
import Derived.Test.YtggbjokhniigkaaGreatY4z22
namespace Go.Proofs.YtggbjokhniigkaaGreat.Cr
open Go.Proofs.YtggbjokhniigkaaGreat.Lx Go.Proofs.YtggbjokhniigkaaGreat.Ty Go.RowKit Go.Proofs.YtggbjokhniigkaaGreatW.PrintWords Go.Proofs.YtggbjokhniigkaaGreatW.PrintLast Go.Proofs.YtggbjokhniigkaaGreatW.PrintMore Go.Proofs.YtggbjokhniigkaaGreat.Mx Go.Proofs.YtggbjokhniigkaaGreat.Kx Go.Proofs.YtggbjokhniigkaaGreat.Wa Go.Proofs.YtggbjokhniigkaaGreat.Tk Go.Proofs.YtggbjokhniigkaaGreat.Sa Go.Proofs.YtggbjokhniigkaaGreat.To Go.Proofs.YtggbjokhniigkaaGreat.Rb Go.Proofs.YtggbjokhniigkaaGreat.Wj Go.Proofs.YtggbjokhniigkaaGreat.Wd Go.Proofs.YtggbjokhniigkaaGreat.Cx Go.Proofs.YtggbjokhniigkaaGreat.Jn Go.Proofs.YtggbjokhniigkaaGreat.Mo
set_option linter.unusedVariables false
set_option maxRecDepth 100000
set_option maxHeartbeats 8000000
set_option linter.unusedSimpArgs false
def StatesDoes (w0 w : World) (F : List Res) (g : Nat) (frm was commit : Int) (lg : List Entry) (A : Option Addr) (c : Nat) (s : Rep) (out : List Msg) : Prop :=
  Calls Tryz.prog 115 #[.pointer (some ⟨g, 0, none⟩), .int .i64 frm, .int .i64 was, .int .i64 commit, .slice A lg.length c] w fun e w' => ∃ vout v5' v7' v8' v9' v10' : Value, e = .returned vout ∧ Mem w0 w' (qS g s v5' s.f5 s.f6 v7' v8' v9' v10' (row kM 27 vout out :: F))
theorem eq_b {a b : Int} (h : a = b) : (a == b) = true ∧ (a != b) = false := by simp [h]
theorem ne_b {a b : Int} (h : ¬ a = b) : (a == b) = false ∧ (a != b) = true := by simp [h]
theorem pair_inj {α β : Type} {a c : α} {b d : β} (h : (a, b) = (c, d)) : a = c ∧ b = d := by injection h with h1 h2; exact ⟨h1, h2⟩
theorem states11_calls (w0 w : World) (F : List Res) (g : Nat) (r s : Rep) (ms : List Msg) (frm was commit : Int) (lg : List Entry) (v5 v7 v8 v9 v10 : Value) (A : Option Addr) (c : Nat) (hM : Mem w0 w (qS g r v5 r.f5 r.f6 v7 v8 v9 v10 F)) (fr : Fine r)
    (hl : ∀ w', Mem w0 w' (row kE 68 v5 r.f5 :: F) → Kd.C kE w' A lg.length lg) (hlm : lg.length ≤ 1200) (hs : states r frm was commit lg = (s, ms)) : StatesDoes w0 w F g frm was commit lg A c s ms := by
  unfold StatesDoes
  obtain ⟨B5, d5, rfl, _, _⟩ := hM.row_at 1 rfl
  obtain ⟨B9, d9, rfl, _, _⟩ := hM.row_at 4 rfl
  obtain ⟨B10, d10, rfl, _, _⟩ := hM.row_at 5 rfl
  have HSS := Aside0.mk hs
  have FR := Aside0.mk fr
  have HLs := Aside0.mk hl
  have HN := Aside0.mk hlm
  have M1 : Aside0 (Mem w0 w (blk g 25 (qc r.f0 r.f1 r.f2 r.f3 r.f4 (.slice B5 r.f5.length d5) r.f6 v7 v8 (.slice B9 r.f9.length d9) (.slice B10 r.f10.length d10) r.f11 r.f12) :: row kE 68 (.slice B5 r.f5.length d5) r.f5 :: row (Kd.int .i64) 3 v7 r.f7 :: row (Kd.int .i64) 3 v8 r.f8 :: row (Kd.int .i64) 3 (.slice B9 r.f9.length d9) r.f9 :: row kE 68 (.slice B10 r.f10.length d10) r.f10 :: F)) := ⟨hM⟩
  clear hs fr hl hlm hM
  have cG := blk_cell (M1.out.blk_at 0 rfl)
  unfold qc at cG
  go_enter Tryz.func115, Tryz.ntmps115
  go_wp2_with fail
  by_cases h5 : frm ∈ r.f9
  · refine (add_in w0 _ _ _ r.f9 frm (Mem.sel (ps := [_, _, _, _, _, _]) (F := F) [4, 0, 1, 2, 3, 5] 6 M1.out rfl rfl) (Nat.le_trans FR.out.l9 (by decide)) FR.out.p9 h5).mono ?_
    rintro e w1 ⟨rfl, hM⟩
    have M3 := Aside0.mk hM
    have H5 := Aside0.mk h5
    clear hM h5
    go_wp2
    go_ret
    obtain ⟨hs1, hs2⟩ := pair_inj ((states_in H5.out).symm.trans HSS.out)
    subst hs1
    subst hs2
    exact ⟨_, _, _, _, _, _, rfl, Mem.sel (ps := [_, _, _, _, _, _, _]) (F := F) [2, 3, 4, 5, 1, 6, 0] 7 (Mem.row_nil M3.out kM 27) rfl rfl⟩
  have H5 := Aside0.mk h5
  clear h5
  obtain ⟨zs, hz⟩ : ∃ zs, insertId r.f9 frm = zs := ⟨_, rfl⟩
  have HZ := Aside0.mk hz
  clear hz
  refine (add_not w0 _ _ _ r.f9 frm (Mem.sel (ps := [_, _, _, _, _, _]) (F := F) [4, 0, 1, 2, 3, 5] 6 M1.out rfl rfl) (Nat.le_trans FR.out.l9 (by decide)) FR.out.p9 H5.out zs HZ.out).mono ?_
  rintro e w1 ⟨v', rfl, hM⟩
  obtain ⟨B9n, d9n, rfl, _, _⟩ := hM.row_at 0 rfl
  have M3 := Aside0.mk hM
  clear hM M1 cG
  have cG := blk_cell (M3.out.blk_at 2 rfl)
  have fG := blk_frozen (M3.out.blk_at 2 rfl)
  have gG := blk_lt (M3.out.blk_at 2 rfl)
  unfold qc at cG
  have M4 := Aside0.mk (Mem.sel (ps := [_, _, _, _, _, _, _]) (F := F) [2, 3, 4, 5, 0, 6] 7 (M3.out.set 2 rfl 9 (.slice B9n zs.length d9n)) rfl rfl)
  go_upto_region 5 with (fail)
  obtain ⟨wx, hwx⟩ : ∃ wx, w1.setCell ⟨g, 9, none⟩ (.slice B9n zs.length d9n) = wx := ⟨_, rfl⟩
  have M4 : Aside0 (Mem w0 wx (blk g 25 (qc r.f0 r.f1 r.f2 r.f3 r.f4 (.slice B5 r.f5.length d5) r.f6 v7 v8 (.slice B9n zs.length d9n) (.slice B10 r.f10.length d10) r.f11 r.f12) :: row kE 68 (.slice B5 r.f5.length d5) r.f5 :: row (Kd.int .i64) 3 v7 r.f7 :: row (Kd.int .i64) 3 v8 r.f8 :: row (Kd.int .i64) 3 (.slice B9n zs.length d9n) zs :: row kE 68 (.slice B10 r.f10.length d10) r.f10 :: F)) := ⟨by rw [← hwx]; exact M4.out⟩
  rw [hwx]
  clear cG fG gG M3 hwx
  have cG := blk_cell (M4.out.blk_at 0 rfl)
  unfold qc at cG
  go_cut [51] (fun s51 wy => ∃ b : Bool, s51 = .bool b ∧ Aside0 (if b = true then better r was lg else ¬ better r was lg) ∧ Aside0 (Mem w0 wy (blk g 25 (qc r.f0 r.f1 r.f2 r.f3 r.f4 (.slice B5 r.f5.length d5) r.f6 v7 v8 (.slice B9n zs.length d9n) (.slice B10 r.f10.length d10) r.f11 r.f12) :: row kE 68 (.slice B5 r.f5.length d5) r.f5 :: row (Kd.int .i64) 3 v7 r.f7 :: row (Kd.int .i64) 3 v8 r.f8 :: row (Kd.int .i64) 3 (.slice B9n zs.length d9n) zs :: row kE 68 (.slice B10 r.f10.length d10) r.f10 :: F)))
  case first =>
    by_cases b1 : r.f11 < was
    · have q1 : decide (r.f11 < was) = true := decide_eq_true b1
      have HB := Aside0.mk (show better r was lg from .inl b1)
      clear b1
      go_wp2_with fail
      go_meet
      case rel => exact ⟨true, rfl, ⟨by rw [if_pos rfl]; exact HB.out⟩, M4⟩
    have q1 : decide (r.f11 < was) = false := decide_eq_false b1
    by_cases b2 : was = r.f11
    case neg =>
      obtain ⟨q2, q3⟩ := ne_b b2
      have HB := Aside0.mk (show ¬ better r was lg from fun h => h.elim b1 (fun h => b2 h.1))
      clear b1 b2
      go_wp2_with fail
      go_meet
      case rel => exact ⟨false, rfl, ⟨by rw [if_neg (by decide)]; exact HB.out⟩, M4⟩
    obtain ⟨q2, q3⟩ := eq_b b2
    by_cases b3 : r.f10.length < lg.length
    · have q4 : decide (r.f10.length < lg.length) = true := decide_eq_true b3
      have q5 : decide ((r.f10.length : Int) < (lg.length : Int)) = true := decide_eq_true (by omega)
      have HB := Aside0.mk (show better r was lg from .inr ⟨b2, b3⟩)
      clear b1 b2 b3
      go_wp2_with fail
      go_meet
      case rel => exact ⟨true, rfl, ⟨by rw [if_pos rfl]; exact HB.out⟩, M4⟩
    · have q4 : decide (r.f10.length < lg.length) = false := decide_eq_false b3
      have q5 : decide ((r.f10.length : Int) < (lg.length : Int)) = false := decide_eq_false (by omega)
      have HB := Aside0.mk (show ¬ better r was lg from fun h => h.elim b1 (fun h => b3 h.2))
      clear b1 b2 b3
      go_wp2_with fail
      go_meet
      case rel => exact ⟨false, rfl, ⟨by rw [if_neg (by decide)]; exact HB.out⟩, M4⟩
  case rest =>
  obtain ⟨b, rfl, HB, M5⟩ := hcut
  clear cG M4
  have cG := blk_cell (M5.out.blk_at 0 rfl)
  unfold qc at cG
  go_upto_if 51 with (fail)
  go_cut [] (fun wy => ∃ (bl : List Entry) (bv : Int) (B10n : Option Addr) (d10n : Nat), Aside0 (bests r was lg = (bl, bv)) ∧ Aside0 (Mem w0 wy (blk g 25 (qc r.f0 r.f1 r.f2 r.f3 r.f4 (.slice B5 r.f5.length d5) r.f6 v7 v8 (.slice B9n zs.length d9n) (.slice B10n bl.length d10n) bv r.f12) :: row kE 68 (.slice B5 r.f5.length d5) r.f5 :: row (Kd.int .i64) 3 v7 r.f7 :: row (Kd.int .i64) 3 v8 r.f8 :: row (Kd.int .i64) 3 (.slice B9n zs.length d9n) zs :: row kE 68 (.slice B10n bl.length d10n) bl :: F)))
  case first =>
    cases b with
    | false =>
      have HB2 := Aside0.mk (bests_no (show ¬ better r was lg from by have := HB.out; rwa [if_neg (by decide)] at this))
      go_wp2_with fail
      go_meet
      case rel => exact ⟨_, _, _, _, HB2, M5⟩
    | true =>
      have HB2 := Aside0.mk (bests_yes (show better r was lg from by have := HB.out; rwa [if_pos rfl] at this))
      have HCL := Aside0.mk (HLs.out _ (Mem.sel (ps := [_, _, _, _, _, _]) (F := F) [1] 6 M5.out rfl rfl))
      go_wp2_with (((with_reducible refine gate_builtin (b := .append) (xs := #[.tmp 53, .tmp 54]) rfl ?_); at_builtin; refine Mem.app kE ((M5.out.allocAt #[] 68 wc.heap.size (by simp)).lit 0 kE [] rfl (Reps.none _ _) (by decide)) 0 _ [] lg rfl (.tmp 53) (.tmp 54) 22 68 _ _ rfl Tryz.underlying22 infoEntry rfl (by decide) (by omega) A _ c rfl rfl rfl (Kd.C_alloc HCL.out _) (fun x cs h => h) (by have := HN.out; simp; omega) ?_; intro v w2 hM; have M6 := Aside0.mk (show Mem _ _ (row kE _ v lg :: _) from hM); clear hM; obtain ⟨B10n, d10n, he, _, _⟩ := M6.out.row_at 0 rfl; subst he; clear cG; have cG := blk_cell (M6.out.blk_at 1 rfl); have fG := blk_frozen (M6.out.blk_at 1 rfl); have hg := blk_lt (M6.out.blk_at 1 rfl); unfold qc at cG))
      go_meet
      case rel => exact ⟨_, _, _, _, HB2, ⟨Mem.sel (ps := [_, _, _, _, _, _, _]) (F := F) [1, 2, 3, 4, 5, 0] 7 ((M6.out.set 1 rfl 10 (.slice B10n lg.length d10n)).set 1 rfl 11 (.int .i64 was)) rfl rfl⟩⟩
  case rest =>
  obtain ⟨bl, bv, B10n, d10n, HB2, M6⟩ := hcut
  clear cG M5 HB
  have cG := blk_cell (M6.out.blk_at 0 rfl)
  have fG := blk_frozen (M6.out.blk_at 0 rfl)
  have gG := blk_lt (M6.out.blk_at 0 rfl)
  unfold qc at cG
  go_upto_region 8 with (fail)
  go_cut [] (fun wy => ∃ bd : Int, Aside0 (min (max r.f12 commit) (bl.length : Int) = bd) ∧ Aside0 (Mem w0 wy (blk g 25 (qc r.f0 r.f1 r.f2 r.f3 r.f4 (.slice B5 r.f5.length d5) r.f6 v7 v8 (.slice B9n zs.length d9n) (.slice B10n bl.length d10n) bv bd) :: row kE 68 (.slice B5 r.f5.length d5) r.f5 :: row (Kd.int .i64) 3 v7 r.f7 :: row (Kd.int .i64) 3 v8 r.f8 :: row (Kd.int .i64) 3 (.slice B9n zs.length d9n) zs :: row kE 68 (.slice B10n bl.length d10n) bl :: F)))
  case first =>
    go_region
    all_goals
      go_wp2_with fail
      all_goals
        go_meet
        case rel => exact ⟨_, ⟨by first | omega | (split <;> omega) | (split <;> split <;> omega)⟩, ⟨(M6.out.set 0 rfl 12 _).drew⟩⟩
  case rest =>
  obtain ⟨bd, HD, M7⟩ := hcut
  clear cG fG gG M6
  have cG := blk_cell (M7.out.blk_at 0 rfl)
  unfold qc at cG
  have HBL := Aside0.mk (show bl.length ≤ 1200 from by
    by_cases hb : better r was lg
    · have e := (bests_yes hb).symm.trans HB2.out
      rw [← (pair_inj e).1]
      exact HN.out
    · have e := (bests_no hb).symm.trans HB2.out
      rw [← (pair_inj e).1]
      exact FR.out.l10)
  go_wp2_with fail
  refine (most11_calls _ r.f1 (by have := FR.out.i0; have := FR.out.i1; omega) FR.out.n5).mono ?_
  rintro e w2 ⟨rfl, hD⟩
  have M8 := Aside0.mk (M7.out.drawn hD)
  clear cG M7 hD
  have HG0 := Aside0.mk (blk_cell (M8.out.blk_at 0 rfl))
  have cG := HG0.out
  unfold qc at cG
  by_cases h6 : (zs.length : Int) = most r.f1
  case neg =>
    obtain ⟨e6, e6'⟩ := ne_b h6
    have H6 := Aside0.mk h6
    clear h6
    go_wp2
    go_ret
    obtain ⟨hs1, hs2⟩ := pair_inj ((states_few H5.out HZ.out HB2.out HD.out H6.out).symm.trans HSS.out)
    subst hs1
    subst hs2
    exact ⟨_, _, _, _, _, _, rfl, Mem.sel (ps := [_, _, _, _, _, _, _]) (F := F) [1, 2, 3, 4, 5, 6, 0] 7 (Mem.row_nil M8.out kM 27) rfl rfl⟩
  obtain ⟨e6, e6'⟩ := eq_b h6
  have H6 := Aside0.mk h6
  obtain ⟨cx, hcx⟩ : ∃ cx : Int, (if r.f1 = 1 then (bl.length : Int) else min (max r.f6 bd) (bl.length : Int)) = cx := ⟨_, rfl⟩
  have HCX := Aside0.mk hcx
  clear h6 hcx
  go_wp2_with fail
  have M8D := Aside0.mk M8.out.drew
  go_upto_region 11 with (fail)
  refine start_ (n := 14) (S := fun w' => (∀ j : Nat, w'.cell? ⟨g, j, none⟩ = w2.cell? ⟨g, j, none⟩)) (ds := [13]) #[false, false, false, false, false, false, false, false, false, false, false, false, false, false] (by kernel_rfl) rfl rfl ((fun j => rfl)) (fun hHeld => ?_)
  refine pure_ (i := 0) (N := some 85) (v := ?_) (a' := ?_) #[true, false, false, false, false, false, false, false, false, false, false, false, false, false] rfl rfl (by kernel_rfl) (fun _ _ _ h => h) (Or.inl ⟨by rfl, ?_⟩) ?_ ?_
  rotate_left
  · intro w'
    go_simp
    with_reducible rfl
  rotate_left
  · simp only [Act.put, List.setIfInBounds_toArray, List.set_cons_zero, List.set_cons_succ, i64_w, i32_w]
    rfl
  refine pure_ (i := 1) (N := some 86) (v := ?_) (a' := ?_) #[true, true, false, false, false, false, false, false, false, false, false, false, false, false] rfl rfl (by kernel_rfl) (fun _ _ _ h => h) (Or.inl ⟨by rfl, ?_⟩) ?_ ?_
  rotate_left
  · intro w'
    go_simp
    with_reducible rfl
  rotate_left
  · simp only [Act.put, List.setIfInBounds_toArray, List.set_cons_zero, List.set_cons_succ, i64_w, i32_w]
    rfl
  refine pure_ (i := 2) (N := some 87) (v := ?_) (a' := ?_) #[true, true, true, false, false, false, false, false, false, false, false, false, false, false] rfl rfl (by kernel_rfl) (fun _ _ _ h => h) (Or.inl ⟨by rfl, ?_⟩) ?_ ?_
  rotate_left
  · intro w'
    go_simp
    with_reducible rfl
  rotate_left
  · simp only [Act.put, List.setIfInBounds_toArray, List.set_cons_zero, List.set_cons_succ, i64_w, i32_w]
    rfl
  refine pure_ (i := 3) (N := some 88) (v := ?_) (a' := ?_) #[true, true, true, true, false, false, false, false, false, false, false, false, false, false] rfl rfl (by kernel_rfl) (fun _ _ _ h => h) (Or.inl ⟨by rfl, ?_⟩) ?_ ?_
  rotate_left
  · intro w'
    go_simp
    with_reducible rfl
  rotate_left
  · simp only [Act.put, List.setIfInBounds_toArray, List.set_cons_zero, List.set_cons_succ, i64_w, i32_w]
    rfl
  refine pure_ (i := 5) (N := some 90) (v := ?_) (a' := ?_) #[true, true, true, true, false, true, false, false, false, false, false, false, false, false] rfl rfl (by kernel_rfl) (fun _ _ _ h => h) (Or.inl ⟨by rfl, ?_⟩) ?_ ?_
  rotate_left
  · intro w'
    go_simp
    with_reducible rfl
  rotate_left
  · simp only [Act.put, List.setIfInBounds_toArray, List.set_cons_zero, List.set_cons_succ, i64_w, i32_w]
    rfl
  refine pure_ (i := 6) (N := some 91) (v := ?_) (a' := ?_) #[true, true, true, true, false, true, true, false, false, false, false, false, false, false] rfl rfl (by kernel_rfl) (fun _ _ _ h => h) (Or.inl ⟨by rfl, ?_⟩) ?_ ?_
  rotate_left
  · intro w'
    go_simp
    with_reducible rfl
  rotate_left
  · simp only [Act.put, List.setIfInBounds_toArray, List.set_cons_zero, List.set_cons_succ, i64_w, i32_w]
    rfl
  refine pure_ (i := 7) (N := some 92) (v := ?_) (a' := ?_) #[true, true, true, true, false, true, true, true, false, false, false, false, false, false] rfl rfl (by kernel_rfl) (fun _ _ _ h => h) (Or.inl ⟨by rfl, ?_⟩) ?_ ?_
  rotate_left
  · intro w'
    go_simp
    with_reducible rfl
  rotate_left
  · simp only [Act.put, List.setIfInBounds_toArray, List.set_cons_zero, List.set_cons_succ, i64_w, i32_w]
    rfl
  refine pure_ (i := 9) (N := some 94) (v := ?_) (a' := ?_) #[true, true, true, true, false, true, true, true, false, true, false, false, false, false] rfl rfl (by kernel_rfl) (fun _ _ _ h => h) (Or.inl ⟨by rfl, ?_⟩) ?_ ?_
  rotate_left
  · intro w'
    go_simp
    with_reducible rfl
  rotate_left
  · simp only [Act.put, List.setIfInBounds_toArray, List.set_cons_zero, List.set_cons_succ, i64_w, i32_w]
    rfl
  refine pure_ (i := 10) (N := some 95) (v := ?_) (a' := ?_) #[true, true, true, true, false, true, true, true, false, true, true, false, false, false] rfl rfl (by kernel_rfl) (fun _ _ _ h => h) (Or.inl ⟨by rfl, ?_⟩) ?_ ?_
  rotate_left
  · intro w'
    go_simp
    with_reducible rfl
  rotate_left
  · simp only [Act.put, List.setIfInBounds_toArray, List.set_cons_zero, List.set_cons_succ, i64_w, i32_w]
    rfl
  refine pure_ (i := 11) (N := some 96) (v := ?_) (a' := ?_) #[true, true, true, true, false, true, true, true, false, true, true, true, false, false] rfl rfl (by kernel_rfl) (fun _ _ _ h => h) (Or.inl ⟨by rfl, ?_⟩) ?_ ?_
  rotate_left
  · intro w'
    go_simp
    with_reducible rfl
  rotate_left
  · simp only [Act.put, List.setIfInBounds_toArray, List.set_cons_zero, List.set_cons_succ, i64_w, i32_w]
    rfl
  refine take_ (i := 4) (N := some 89) (v := ?_) (a' := ?_) #[true, true, true, true, true, true, true, true, false, true, true, true, false, false] rfl rfl (by kernel_rfl) (fun _ _ _ h => h) (Or.inl ⟨by rfl, ?_⟩) hHeld ?_ ?_
  rotate_left
  · intro w' s0
    go_simp
    with_reducible rfl
  rotate_left
  · simp only [Act.put, List.setIfInBounds_toArray, List.set_cons_zero, List.set_cons_succ, i64_w, i32_w]
    rfl
  refine take_ (i := 8) (N := some 93) (v := ?_) (a' := ?_) #[true, true, true, true, true, true, true, true, true, true, true, true, false, false] rfl rfl (by kernel_rfl) (fun _ _ _ h => h) (Or.inl ⟨by rfl, ?_⟩) hHeld ?_ ?_
  rotate_left
  · intro w' s0
    go_simp
    with_reducible rfl
  rotate_left
  · simp only [Act.put, List.setIfInBounds_toArray, List.set_cons_zero, List.set_cons_succ, i64_w, i32_w]
    rfl
  refine take_ (i := 12) (N := some 97) (v := ?_) (a' := ?_) #[true, true, true, true, true, true, true, true, true, true, true, true, true, false] rfl rfl (by kernel_rfl) (fun _ _ _ h => h) (Or.inl ⟨by rfl, ?_⟩) hHeld ?_ ?_
  rotate_left
  · intro w' s0
    go_simp
    with_reducible rfl
  rotate_left
  · simp only [Act.put, List.setIfInBounds_toArray, List.set_cons_zero, List.set_cons_succ, i64_w, i32_w]
    rfl
  refine last_ (i := 13) (N := some 98) #[true, true, true, true, true, true, true, true, true, true, true, true, true, true] rfl rfl (by kernel_rfl) (by decide) (fun K hK => ?_)
  refine goes_ Tryz.func116 (by kernel_rfl) rfl #[.pointer (some ⟨g, 0, none⟩), .slice B10n bl.length d10n, .int .i64 r.f2, .int .i64 bd] (by rfl) rfl rfl (by simp only [List.map_toArray, List.map_cons, List.map_nil]; rfl) ?_
  with_reducible refine (normal11_calls w0 _ _ g r.f0 r.f1 r.f2 r.f3 r.f4 _ r.f6 _ _ _ _ bv bd r.f2 bd B10n d10n bl M8D.out (fun w' b hq => hq.row_C 5 rfl) (Nat.le_trans HBL.out (by decide)) FR.out.i0 FR.out.i1 FR.out.n5 cx HCX.out).mono ?_
  rintro e w5 ⟨vl, va, rfl, hM⟩
  refine ⟨_, rfl, ?_⟩
  have M9 := Aside0.mk hM
  obtain ⟨L5, l5, rfl, hl5, _⟩ := M9.out.row_at 2 rfl
  clear hM
  refine hK.out _ _ ?_
  clear hK K
  refine norm_ (a' := ?_) ?_ ?_
  rotate_left
  · show Act.put _ (some 98) _ = _
    simp only [Act.put, List.setIfInBounds_toArray, List.set_cons_zero, List.set_cons_succ, i64_w, i32_w]
    rfl
  refine done_ (by kernel_rfl) ?_
  clear cG HG0 M8D M8
  have M10 := Aside0.mk (Mem.sel (ps := [_, _, _, _, _, _, _, _]) (F := F) [2, 0, 1] 8 M9.out rfl rfl)
  clear M9
  have HG0 := Aside0.mk (blk_cell (M10.out.blk_at 1 rfl))
  have cG := HG0.out
  unfold qc at cG
  go_wp2_with fail
  go_upto_region 12 with (fail)
  have M2D := Aside0.mk M10.out.drew
  have HS0 := Aside0.mk (show (∀ j : Nat, w5.drew.cell? ⟨g, j, none⟩ = w5.cell? ⟨g, j, none⟩) from fun _ => rfl)
  have H9 := HS0
  go_region_held3 (fun w' => (∀ j : Nat, w'.cell? ⟨g, j, none⟩ = w5.cell? ⟨g, j, none⟩)) (first | with_reducible exact HS0.out | with_reducible exact H9.out | fail) ((go_at_call 118; refine (all11_calls w0 _ (row kE 68 (.slice L5 bl.length l5) bl) _ g r.f0 r.f1 r.f2 r.f2 0 _ cx va (.slice none 0 0) (.slice none 0 0) (.slice none 0 0) (-1) 0 6 0 0 0 0 cx 0 L5 l5 bl (Mem.sel (ps := [_, _, _]) (F := F) [0, 1, 2] 3 M2D.out rfl rfl) Rd.row (Nat.le_trans HBL.out (by decide)) hl5 (by have := FR.out.i0; have := FR.out.i1; omega) FR.out.n5).mono ?_; rintro e w6 ⟨vo2, rfl, hM⟩; have M11 := Aside0.mk hM; clear hM; have H9 := Aside0.mk (show (∀ j : Nat, w6.cell? ⟨g, j, none⟩ = w5.cell? ⟨g, j, none⟩) from fun j => (blk_cell (M11.out.blk_at 2 rfl) j).trans (HG0.out j).symm)))
  go_wp2
  go_ret
  have hcx := HCX.out
  subst hcx
  obtain ⟨hs1, hs2⟩ := pair_inj ((states_most H5.out HZ.out HB2.out HD.out H6.out).symm.trans HSS.out)
  subst hs1
  subst hs2
  exact ⟨_, _, _, _, _, _, rfl, Mem.sel (ps := [_, _, _, _, _, _, _]) (F := F) [5, 4, 6, 2, 1, 0, 3] 7 (Mem.row_nil (Mem.row_nil (Mem.row_nil M11.out (Kd.int .i64) 3) (Kd.int .i64) 3) kE 68) rfl rfl⟩
end Go.Proofs.YtggbjokhniigkaaGreat.Cr
namespace Go.Proofs.YtggbjokhniigkaaGreat.Am
open Go.RowKit Go.Proofs.YtggbjokhniigkaaGreatW.PrintWords Go.Proofs.YtggbjokhniigkaaGreatW.PrintLast Go.Proofs.YtggbjokhniigkaaGreatW.PrintMore Go.Proofs.YtggbjokhniigkaaGreat.Mx
section
variable {P : Program} {ops : Array Oper} {rest : List Oper} {o : Oper} {a : Act} {Q : Exit → Act → World → Prop} {Kc : Act → World → Prop} {α : Type}
theorem reads_M {d : Kd α} {W : World} {q : Nat → Prop} {e : Nat} {A : Option Addr} {m c : Nat} {ys : List α} (h : d.R e W 0 q (.slice A m c) ys) : ReadsRow (d.M W 0 q) d.sz W A m ys := by
  obtain ⟨_, h2⟩ := h
  obtain ⟨A', c', he, _, hr⟩ := OwnRow.reads h2
  injection he with h1 h2 h3
  subst h1
  subst h2
  exact hr.imp_ (Below.refl _ _) (fun _ _ hp => d.M_mono (fun _ hk => hk.1) hp)
theorem Mem.appM_step (d : Kd α) {w0 W : World} {rs : List Res} (hM : Mem w0 W rs) (i j : Nat) (v : Value) (xs ys : List α) (hij : i ≠ j) (hw : Region.wanted o (yielded ops a.tmps) = true) (s x : Operand) (t e e2 : TypeId) (z : Value) (bytes : Nat)
    (ho : o.op = .call { callee := .builtin .append, args := #[s, x], argTypes := #[t, t] })
    (ht : P.underlying t = some (.slice e)) (hinfo : (P.info? e).map (fun i => (i.zero, i.size, i.bytes)) = some (some z, d.sz, bytes)) (hz : z.cells.size = d.sz) (hs0 : 0 < d.sz) (hb0 : 0 < bytes)
    (A : Option Addr) (m c : Nat) (hs : a.eval s = v) (hx : a.eval x = .slice A m c)
    (hi : rs[i]? = some (Mx.row d e v xs)) (hj : rs[j]? = some (Mx.row d e2 (.slice A m c) ys)) (hl : (xs.length + m) * bytes ≤ 140737488355328)
    (h : ∀ v1 w1, Mem w0 w1 ((rs.set i (Mx.row d e v1 (xs ++ ys))).set j emp) → Kc (a.put o.dst v1) w1) :
    if Region.wanted o (yielded ops a.tmps) = true then Oper.wp P o a W Kc Q else Kc (a.put o.dst undef) W := by
  obtain ⟨f, q, h1, hq, h2, h2q, hd, h3⟩ := hM.take2 hi hj hij
  refine Kd.R_append_rows_step d (w0 := W) 0 hw s x t e z bytes ho ht hinfo hz hs0 hb0 v xs ys A m c (fun k => f k ∨ q k ∨ W.heap.size ≤ k) q hs hx (Kd.R_mono h1 (fun _ hk => .inl hk)) (reads_M hq) (fun _ _ hp => hp) (fun k hk => ⟨.inr (.inl hk), fun he => hd k (h1.1 k he.symm) hk⟩) (fun _ hk => .inr (.inr hk)) (Below.refl _ _) (Nat.zero_le _) hl ?_
  intro v1 w1 hr hb1 hg _
  refine h v1 w1 (h3 w1 _ hg.os hg.tape hg.output hg.size (fun k hk hf _ => hg.block k hk (fun he => hf (h1.1 k he.symm))) ?_)
  exact Kd.R_mono (Kd.R_bound hr) (fun k hk => hk.1.imp id (fun hh => hh.imp id (fun hh => ⟨hh, hk.2.2.1⟩)))
end
end Go.Proofs.YtggbjokhniigkaaGreat.Am
namespace Go.Proofs.YtggbjokhniigkaaGreat.Rp
open Go.Proofs.YtggbjokhniigkaaGreat.Ty Go.RowKit Go.Proofs.YtggbjokhniigkaaGreatW.PrintWords Go.Proofs.YtggbjokhniigkaaGreatW.PrintLast Go.Proofs.YtggbjokhniigkaaGreatW.PrintMore Go.Proofs.YtggbjokhniigkaaGreat.Mx Go.Proofs.YtggbjokhniigkaaGreat.Kx Go.Proofs.YtggbjokhniigkaaGreat.Wa Go.Proofs.YtggbjokhniigkaaGreat.Wd
set_option linter.unusedVariables false
set_option linter.unusedSimpArgs false
set_option maxRecDepth 100000 in
set_option maxHeartbeats 2000000 in
theorem primary11_calls (w : World) (g : Nat) (i n vw nr hw : Int) (vl : Value) (cm : Int) (va vv vo vb : Value) (bv bd : Int)
    (hb : w.heap[g]? = some (.cells #[.int .i64 i, .int .i64 n, .int .i64 vw, .int .i64 nr, .int .i64 hw, vl, .int .i64 cm, va, vv, vo, vb, .int .i64 bv, .int .i64 bd] 25 (0, 0))) (hv : 0 ≤ vw) (hv2 : vw ≤ 4611686018427387904) (hn : 0 < n) (hn2 : n ≤ 5) :
    Calls Tryz.prog 114 #[.pointer (some ⟨g, 0, none⟩)] w fun e w' => e = .returned (.bool (vw % n == i)) ∧ Drawn0 w w' := by
  have cB := blk_cell hb
  clear hb
  have hz : (n == 0) = false := by simp; omega
  have hz2 : ¬ n = 0 := by omega
  have ht : vw.tmod n = vw % n := Int.tmod_eq_emod_of_nonneg hv
  go_enter Tryz.func114, Tryz.ntmps114
  go_wp2
  (try go_quiet (fail))
  (try go_wp2)
  go_ret
  exact ⟨by first | rfl | (rw [ht]; done) | (simp [ht]; done), by repeat (first | exact Drawn0.refl _ | apply Drawn0.step)⟩
end Go.Proofs.YtggbjokhniigkaaGreat.Rp
namespace Go.Proofs.YtggbjokhniigkaaGreat.Ct
open Go.Proofs.YtggbjokhniigkaaGreat.Lx Go.Proofs.YtggbjokhniigkaaGreat.Ty Go.RowKit Go.Proofs.YtggbjokhniigkaaGreatW.PrintWords Go.Proofs.YtggbjokhniigkaaGreatW.PrintLast Go.Proofs.YtggbjokhniigkaaGreatW.PrintMore Go.Proofs.YtggbjokhniigkaaGreat.Mx Go.Proofs.YtggbjokhniigkaaGreat.Kx Go.Proofs.YtggbjokhniigkaaGreat.Wa Go.Proofs.YtggbjokhniigkaaGreat.Tk Go.Proofs.YtggbjokhniigkaaGreat.Sa Go.Proofs.YtggbjokhniigkaaGreat.To Go.Proofs.YtggbjokhniigkaaGreat.Rb Go.Proofs.YtggbjokhniigkaaGreat.Rp Go.Proofs.YtggbjokhniigkaaGreat.Wj Go.Proofs.YtggbjokhniigkaaGreat.Wd Go.Proofs.YtggbjokhniigkaaGreat.Cx Go.Proofs.YtggbjokhniigkaaGreat.Jn Go.Proofs.YtggbjokhniigkaaGreat.Mo Go.Proofs.YtggbjokhniigkaaGreat.Cr Go.Proofs.YtggbjokhniigkaaGreat.Am
set_option linter.unusedVariables false
set_option maxRecDepth 100000
set_option maxHeartbeats 8000000
set_option linter.unusedSimpArgs false
theorem states_len {r s : Rep} {ms : List Msg} {frm was commit : Int} {lg : List Entry} (h : Fine r) (e : states r frm was commit lg = (s, ms)) : ms.length ≤ 5 := by
  by_cases g : frm ∈ r.f9
  · rw [states_in g] at e
    rw [← (pair_inj e).2]
    exact Nat.zero_le _
  · obtain ⟨⟨bl, bv⟩, hb⟩ : ∃ b, bests r was lg = b := ⟨_, rfl⟩
    by_cases g3 : ((insertId r.f9 frm).length : Int) = most r.f1
    · rw [states_most g rfl hb rfl g3] at e
      rw [← (pair_inj e).2]
      refine Nat.le_trans (all_len _ _ _ _ _ _) ?_
      show r.f1.toNat ≤ 5
      have := h.n5
      omega
    · rw [states_few g rfl hb rfl g3] at e
      rw [← (pair_inj e).2]
      exact Nat.zero_le _
end Go.Proofs.YtggbjokhniigkaaGreat.Ct
