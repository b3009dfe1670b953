/- The reference's Propose: where replica, time and data may be. -/
import Derived.Test.YtggbjokhniigkaaRc
import Derived.Test.YtggbjokhniigkaaRd
import Derived.Test.YtggbjokhniigkaaWh
import Derived.Test.YtggbjokhniigkaaVc
namespace Go.Proofs.Ytggbjokhniigkaa.Re
open Go.Proofs.Ytggbjokhniigkaa.Ty Go.RowKit Go.Proofs.YtggbjokhniigkaaW.PrintWords Go.Proofs.YtggbjokhniigkaaW.PrintLast Go.Proofs.YtggbjokhniigkaaW.PrintMore Go.Proofs.Ytggbjokhniigkaa.Mx Go.Proofs.Ytggbjokhniigkaa.Kx Go.Proofs.Ytggbjokhniigkaa.Wa Go.Proofs.Ytggbjokhniigkaa.Wb Go.Proofs.Ytggbjokhniigkaa.Wc Go.Proofs.Ytggbjokhniigkaa.Wd Go.Proofs.Ytggbjokhniigkaa.We Go.Proofs.Ytggbjokhniigkaa.Wj Go.Proofs.Ytggbjokhniigkaa.Va Go.Proofs.Ytggbjokhniigkaa.Vb Go.Proofs.Ytggbjokhniigkaa.Vc Go.Proofs.Ytggbjokhniigkaa.Ra Go.Proofs.Ytggbjokhniigkaa.Rb Go.Proofs.Ytggbjokhniigkaa.Rc Go.Proofs.Ytggbjokhniigkaa.Rd Go.Proofs.Ytggbjokhniigkaa.Wh Go.Proofs.Ytggbjokhniigkaa.PReplicaProposes
set_option linter.unusedVariables false
set_option linter.unusedSimpArgs false
theorem p11_all (w wx : World) (g : Nat) (F : List Res) (i n vw nr hw : Int) (vl : Value) (cm : Int) (va vv vo vb : Value) (bv bd : Int) (tm ix : Int) (data : ByteArray)
    (M8 : Mem w wx (blk g 45 #[.int .i64 i, .int .i64 n, .int .i64 vw, .int .i64 nr, .int .i64 hw, vl, .int .i64 cm, va, vv, vo, vb, .int .i64 bv, .int .i64 bd] :: F)) (hn1 : 0 < n) (hn5 : n ≤ 5) :
    Calls Try.prog 77 #[.pointer (some ⟨g, 0, none⟩), .agg #[.int .i64 1, .int .i64 0, .int .i64 0, .int .i64 0, .int .i64 ix, .int .i64 cm, .int .i64 0, .slice (some ⟨wx.heap.size, 0, none⟩) 1 1]] (wx.alloc (Obj.cells #[.int .i64 tm, .string data] 102)).drew fun e w' => ∃ (Bo : Option Addr) (co : Nat), e = .returned (.slice Bo (allFrom i n vw ⟨1, 0, 0, 0, ix, cm, 0, [⟨tm, data⟩]⟩ n.toNat 0).length co) ∧ Mem w w' (row kM 29 (.slice Bo (allFrom i n vw ⟨1, 0, 0, 0, ix, cm, 0, [⟨tm, data⟩]⟩ n.toNat 0).length co) (allFrom i n vw ⟨1, 0, 0, 0, ix, cm, 0, [⟨tm, data⟩]⟩ n.toNat 0) :: blk wx.heap.size 102 #[.int .i64 tm, .string data] :: blk g 45 #[.int .i64 i, .int .i64 n, .int .i64 vw, .int .i64 nr, .int .i64 hw, vl, .int .i64 cm, va, vv, vo, vb, .int .i64 bv, .int .i64 bd] :: F) := by
  have M9 := (M8.allocAt #[.int .i64 tm, .string data] 102 wx.heap.size rfl).drew
  refine (all11_calls w _ (blk wx.heap.size 102 #[.int .i64 tm, .string data]) F g i n vw nr hw vl cm va vv vo vb bv bd 1 0 0 0 ix cm 0 (some ⟨wx.heap.size, 0, none⟩) 1 [⟨tm, data⟩] M9 (Wh0.Rd.ent (x := ⟨tm, data⟩)) (by simp) (by simp) hn1 hn5).mono ?_
  rintro e w' ⟨vout, rfl, hM⟩
  obtain ⟨Bo, co, rfl, _, _⟩ := hM.row_at 0 rfl
  exact ⟨Bo, co, rfl, hM⟩
theorem drew_alloc_cell {w : World} {o : Obj} {b j : Nat} (h : b < w.heap.size) : (w.alloc o).drew.cell? ⟨b, j, none⟩ = w.cell? ⟨b, j, none⟩ := (below_alloc (Below.refl w.heap.size w) o).cell (p := ⟨b, j, none⟩) h
theorem Out_of {w w' : World} {s : Rep} {msgs : List Msg} {kk code : Int} {v5 v7 v8 v9 v10 vo : Value} {F : List Res} (hM : Mem w w' (row kE 102 v5 s.f5 :: row (Kd.int .i64) 3 v7 s.f7 :: row (Kd.int .i64) 3 v8 s.f8 :: row (Kd.int .i64) 3 v9 s.f9 :: row kE 102 v10 s.f10 :: row kM 29 vo msgs :: F)) :
    Out w w' (.returned (.tuple #[.agg #[.int .i64 s.f0, .int .i64 s.f1, .int .i64 s.f2, .int .i64 s.f3, .int .i64 s.f4, v5, .int .i64 s.f6, v7, v8, v9, v10, .int .i64 s.f11, .int .i64 s.f12], vo, .int .i64 kk, .int .i64 code])) s msgs kk code := by
  obtain ⟨B5, d5, rfl, h5, g5⟩ := hM.row_at 0 rfl
  obtain ⟨B7, d7, rfl, h7, g7⟩ := hM.row_at 1 rfl
  obtain ⟨B8, d8, rfl, h8, g8⟩ := hM.row_at 2 rfl
  obtain ⟨B9, d9, rfl, h9, g9⟩ := hM.row_at 3 rfl
  obtain ⟨B10, d10, rfl, h10, g10⟩ := hM.row_at 4 rfl
  obtain ⟨Bo, co, rfl, ho, go⟩ := hM.row_at 5 rfl
  exact ⟨B5, B7, B8, B9, B10, Bo, d5, d7, d8, d9, d10, co, rfl, ⟨g5, g7, g8, g9, g10⟩, ⟨h5, h7, h8, h9, h10⟩, go, ho, hM.below⟩
set_option maxRecDepth 100000 in
set_option maxHeartbeats 8000000 in
theorem P11_in (r : Rep) (A5 A7 A8 A9 A10 : Option Addr) (c5 c7 c8 c9 c10 : Nat) (w : World) (h : RdRep w r A5 A7 A8 A9 A10) (hc : Fit r c5 c7 c8 c9 c10) (hn : r.f5.length ≤ 1200 ∧ r.f7.length ≤ 20 ∧ r.f8.length ≤ 20 ∧ r.f9.length ≤ 20 ∧ r.f10.length ≤ 1200) (time : Int) (data : ByteArray) (hs : data.size ≤ 20000) (h1 : may r = true) (h2 : below time = true) (s : Rep) (msgs : List Msg) (kk code : Int) (hpp : propose r time data = (s, msgs, kk, code)) :
    Calls Try.prog 35 #[.agg #[.int .i64 r.f0, .int .i64 r.f1, .int .i64 r.f2, .int .i64 r.f3, .int .i64 r.f4, .slice A5 r.f5.length c5, .int .i64 r.f6, .slice A7 r.f7.length c7, .slice A8 r.f8.length c8, .slice A9 r.f9.length c9, .slice A10 r.f10.length c10, .int .i64 r.f11, .int .i64 r.f12], .int .i64 time, .string data] w fun e w' => Out w w' e s msgs kk code := by
  have hp := (may_iff r).1 h1
  have hn0 : 0 < r.f1 ∧ r.f1 ≤ 5 := by
    have := hp.1
    unfold size at this
    simp at this
    omega
  have hv : 0 ≤ r.f2 ∧ r.f2 < 1099511627776 := by
    have := hp.2.2.2.1
    unfold below maxTime at this
    simpa using this
  have ht : 0 ≤ time ∧ time < 1099511627776 := by
    unfold below maxTime at h2
    simpa using h2
  have HP := Aside0.mk hp
  clear hp
  obtain ⟨hn1, hn5⟩ := hn0
  obtain ⟨hv1, hv2⟩ := hv
  obtain ⟨ht1, ht2⟩ := ht
  have H := Aside0.mk h
  have HC := Aside0.mk hc
  have HN := Aside0.mk hn
  have M0 := Aside0.mk (Mem.nil w)
  have M1 := Aside0.mk ((M0.out.alloc #[.int .i64 r.f0, .int .i64 r.f1, .int .i64 r.f2, .int .i64 r.f3, .int .i64 r.f4, .slice A5 r.f5.length c5, .int .i64 r.f6, .slice A7 r.f7.length c7, .slice A8 r.f8.length c8, .slice A9 r.f9.length c9, .slice A10 r.f10.length c10, .int .i64 r.f11, .int .i64 r.f12] 45).allocAt #[.int .i64 0, .int .i64 0, .int .i64 0, .int .i64 0, .int .i64 0, .slice none 0 0, .int .i64 0, .slice none 0 0, .slice none 0 0, .slice none 0 0, .slice none 0 0, .int .i64 0, .int .i64 0] 45 (w.heap.size + 1) (by simp))
  unfold propose at hpp
  rw [if_pos (show (may r && below time && decide (data.size ≤ 20000)) = true by rw [h1, h2]; simpa using hs)] at hpp
  have HPP := Aside0.mk hpp
  have E1 := Aside0.mk h1
  have T2 := Aside0.mk ((time_f time).trans (congrArg some h2))
  clear h hn hc hpp
  go_enter Try.func35, Try.ntmps35
  go_wp2_with fail
  refine (May11_calls r A5 A7 A8 A9 A10 c5 c7 c8 c9 c10 _ (H.out.below M1.out.below) HC.out HN.out).mono ?_
  rintro e w1 ⟨he, hb⟩
  rw [E1.out] at he
  subst he
  have M2 := Aside0.mk (M1.out.grow hb)
  clear hb
  go_wp2_with fail
  refine (falseworkref11_time.calls time _ _ T2.out).mono ?_
  rintro e w2 ⟨rfl, hD⟩
  have M3 := Aside0.mk (M2.out.drawn hD)
  clear hD M2 M1
  have cB := blk_cell (M3.out.blk_at 1 rfl)
  have cZ := blk_cell (M3.out.blk_at 0 rfl)
  have fZ := blk_frozen (M3.out.blk_at 0 rfl)
  by_cases h4 : ¬ (r.f4 = 0)
  · have e4 : (r.f4 == 0) = false := by simpa using h4
    have e4' : (r.f4 != 0) = true := by simpa using h4
    have hpp := HPP.out
    rw [if_neg (fun q => h4 q.1)] at hpp
    cases hpp
    go_wp2
    have MF := M3.out.setRow 0 rfl [.int .i64 r.f0, .int .i64 r.f1, .int .i64 r.f2, .int .i64 r.f3, .int .i64 r.f4, .slice A5 r.f5.length c5, .int .i64 r.f6, .slice A7 r.f7.length c7, .slice A8 r.f8.length c8, .slice A9 r.f9.length c9, .slice A10 r.f10.length c10, .int .i64 r.f11, .int .i64 r.f12] rfl
    have hgF := MF.blk_at 0 rfl
    refine bodyPost_ret (results_list (rs := [.cell 6 45, .tmp 7, .tmp 8, .tmp 9]) rfl (by simp) (.cell (w.heap.size + 1) 45 #[.int .i64 r.f0, .int .i64 r.f1, .int .i64 r.f2, .int .i64 r.f3, .int .i64 r.f4, .slice A5 r.f5.length c5, .int .i64 r.f6, .slice A7 r.f7.length c7, .slice A8 r.f8.length c8, .slice A9 r.f9.length c9, .slice A10 r.f10.length c10, .int .i64 r.f11, .int .i64 r.f12] (0, 0) _ rfl hgF Try.underlying45 rfl (by kernel_rfl) (.tmp (.tmp (.tmp .nil))))) rfl ?_
    exact ⟨A5, A7, A8, A9, A10, none, c5, c7, c8, c9, c10, 0, rfl, H.out.below MF.below, HC.out, C_zero _, Nat.le_refl _, MF.below⟩
  replace h4 := Classical.not_not.1 h4
  have e4 : (r.f4 == 0) = true := by simpa using h4
  have e4' : (r.f4 != 0) = false := by simpa using h4
  have H4 := Aside0.mk h4
  clear h4
  go_wp2_with fail
  by_cases h5 : ¬ (r.f2 % r.f1 = r.f0)
  · have e5 : (r.f2 % r.f1 == r.f0) = false := by simpa using h5
    have hpp := HPP.out
    rw [if_neg (fun q => h5 q.2)] at hpp
    cases hpp
    refine (primary11_calls _ w.heap.size r.f0 r.f1 r.f2 r.f3 r.f4 _ r.f6 _ _ _ _ r.f11 r.f12 (M3.out.blk_at 1 rfl) hv1 (by omega) hn1 hn5).mono ?_
    rintro e w3 ⟨he, hD⟩
    rw [e5] at he
    subst he
    have M4 := Aside0.mk (M3.out.drawn hD)
    clear hD M3 cB cZ fZ
    have cB := blk_cell (M4.out.blk_at 1 rfl)
    have cZ := blk_cell (M4.out.blk_at 0 rfl)
    have fZ := blk_frozen (M4.out.blk_at 0 rfl)
    go_wp2
    have MF := M4.out.setRow 0 rfl [.int .i64 r.f0, .int .i64 r.f1, .int .i64 r.f2, .int .i64 r.f3, .int .i64 r.f4, .slice A5 r.f5.length c5, .int .i64 r.f6, .slice A7 r.f7.length c7, .slice A8 r.f8.length c8, .slice A9 r.f9.length c9, .slice A10 r.f10.length c10, .int .i64 r.f11, .int .i64 r.f12] rfl
    have hgF := MF.blk_at 0 rfl
    refine bodyPost_ret (results_list (rs := [.cell 6 45, .tmp 7, .tmp 8, .tmp 9]) rfl (by simp) (.cell (w.heap.size + 1) 45 #[.int .i64 r.f0, .int .i64 r.f1, .int .i64 r.f2, .int .i64 r.f3, .int .i64 r.f4, .slice A5 r.f5.length c5, .int .i64 r.f6, .slice A7 r.f7.length c7, .slice A8 r.f8.length c8, .slice A9 r.f9.length c9, .slice A10 r.f10.length c10, .int .i64 r.f11, .int .i64 r.f12] (0, 0) _ rfl hgF Try.underlying45 rfl (by kernel_rfl) (.tmp (.tmp (.tmp .nil))))) rfl ?_
    exact ⟨A5, A7, A8, A9, A10, none, c5, c7, c8, c9, c10, 0, rfl, H.out.below MF.below, HC.out, C_zero _, Nat.le_refl _, MF.below⟩
  replace h5 := Classical.not_not.1 h5
  have e5 : (r.f2 % r.f1 == r.f0) = true := by simpa using h5
  have H5 := Aside0.mk h5
  clear h5
  refine (primary11_calls _ w.heap.size r.f0 r.f1 r.f2 r.f3 r.f4 _ r.f6 _ _ _ _ r.f11 r.f12 (M3.out.blk_at 1 rfl) hv1 (by omega) hn1 hn5).mono ?_
  rintro e w3 ⟨he, hD⟩
  rw [e5] at he
  subst he
  have M4 := Aside0.mk (M3.out.drawn hD)
  clear hD M3 cB cZ fZ
  have cB := blk_cell (M4.out.blk_at 1 rfl)
  have cZ := blk_cell (M4.out.blk_at 0 rfl)
  have fZ := blk_frozen (M4.out.blk_at 0 rfl)
  have hpp := HPP.out
  rw [if_pos ⟨H4.out, H5.out⟩] at hpp
  have HPP := Aside0.mk hpp
  clear hpp
  go_upto_if 40 with (fail)
  go_cut [10] (fun s10 wx => s10 = .int .i64 (nextTime r.f5 time) ∧ Aside0 (Mem w wx [blk (w.heap.size + 1) 45 #[.int .i64 0, .int .i64 0, .int .i64 0, .int .i64 0, .int .i64 0, .slice none 0 0, .int .i64 0, .slice none 0 0, .slice none 0 0, .slice none 0 0, .slice none 0 0, .int .i64 0, .int .i64 0], blk w.heap.size 45 #[.int .i64 r.f0, .int .i64 r.f1, .int .i64 r.f2, .int .i64 r.f3, .int .i64 r.f4, .slice A5 r.f5.length c5, .int .i64 r.f6, .slice A7 r.f7.length c7, .slice A8 r.f8.length c8, .slice A9 r.f9.length c9, .slice A10 r.f10.length c10, .int .i64 r.f11, .int .i64 r.f12]]))
  case first =>
    by_cases hz : 0 < r.f5.length
    · have hz1 : decide (0 < (r.f5.length : Int)) = true := decide_eq_true (by omega)
      obtain ⟨ad, e, hx0, hx1⟩ := at_Entry H.out.h5 ((r.f5.length : Int) - 1) (by omega) (by omega)
      cases e
      clear hx1
      have hbl := World.block_lt_of_cell? w _ hx0
      have hx2 := (M4.out.below.cell hbl).trans hx0
      clear hx0 hbl
      rw [show ((r.f5.length : Int) - 1).toNat = r.f5.length - 1 by omega] at hx2
      have n5 := HN.out.1
      have HT := Aside0.mk (lastTime_rd hz)
      have hb := rd_time HP.out.2.2.2.2.2.2.2.2.2.1 hz
      generalize (rd_Entry r.f5 ((r.f5.length : Int) - 1)).f0 = lt at *
      obtain ⟨hb1', hb2'⟩ := hb
      obtain ⟨t1, ht1⟩ : ∃ t1, (if time < 1 then 1 else time) = t1 := ⟨_, rfl⟩
      have ht1b : 0 < t1 := by rw [← ht1]; split <;> omega
      have HT1 := Aside0.mk ht1
      obtain ⟨tm, htm⟩ : ∃ tm, (if t1 < lt + 1 then lt + 1 else t1) = tm := ⟨_, rfl⟩
      have HTM := Aside0.mk (show nextTime r.f5 time = tm by
        unfold nextTime
        rw [if_neg (by omega), HT.out, ← htm, ← HT1.out]
        split <;> split <;> omega)
      go_wp2_with fail
      all_goals
        go_meet
        case rel => exact ⟨by rw [HTM.out], M4⟩
    · have hz1 : decide (0 < (r.f5.length : Int)) = false := decide_eq_false (by omega)
      have HTM := Aside0.mk (show nextTime r.f5 time = (if time < 1 then 1 else time) by
        unfold nextTime
        rw [if_pos (by omega)]
        split <;> omega)
      go_wp2_with fail
      all_goals
        go_meet
        case rel => exact ⟨by rw [HTM.out]; first | rfl | (rw [if_pos (by omega)]; done) | (rw [if_neg (by omega)]; done), M4⟩
  case rest =>
    obtain ⟨rfl, M5⟩ := hcut
    clear M4 M0 cB cZ fZ e4 e4' e5 ht1 ht2
    have n5 := HN.out.1
    obtain ⟨tm, htm⟩ : ∃ tm, nextTime r.f5 time = tm := ⟨_, rfl⟩
    have hpp := HPP.out
    rw [htm] at hpp
    rw [htm]
    clear HPP htm
    have cB := blk_cell (M5.out.blk_at 1 rfl)
    have cZ := blk_cell (M5.out.blk_at 0 rfl)
    have fZ := blk_frozen (M5.out.blk_at 0 rfl)
    have hlg : r.f5.length ≤ 1000 := by
      have := HP.out.2.2.2.2.2.2.2.2.2.1
      unfold log at this
      simp at this
      exact this.2
    by_cases hf : r.f5.length = 1000 ∨ maxTime ≤ tm
    · rw [if_pos hf] at hpp
      cases hpp
      have hf2 : decide (1000 ≤ (r.f5.length : Int)) = true ∨ (decide (1000 ≤ (r.f5.length : Int)) = false ∧ decide (1099511627776 ≤ tm) = true) := by
        by_cases g : r.f5.length = 1000
        · exact .inl (decide_eq_true (by omega))
        · refine .inr ⟨decide_eq_false (by omega), decide_eq_true ?_⟩
          have := hf.resolve_left g
          unfold maxTime at this
          exact this
      clear hf hlg
      rcases hf2 with hf1 | ⟨hf1, hf2⟩
      all_goals
        go_wp2
        have MF := M5.out.setRow 0 rfl [.int .i64 r.f0, .int .i64 r.f1, .int .i64 r.f2, .int .i64 r.f3, .int .i64 r.f4, .slice A5 r.f5.length c5, .int .i64 r.f6, .slice A7 r.f7.length c7, .slice A8 r.f8.length c8, .slice A9 r.f9.length c9, .slice A10 r.f10.length c10, .int .i64 r.f11, .int .i64 r.f12] rfl
        have hgF := MF.blk_at 0 rfl
        refine bodyPost_ret (results_list (rs := [.cell 6 45, .tmp 7, .tmp 8, .tmp 9]) rfl (by simp) (.cell (w.heap.size + 1) 45 #[.int .i64 r.f0, .int .i64 r.f1, .int .i64 r.f2, .int .i64 r.f3, .int .i64 r.f4, .slice A5 r.f5.length c5, .int .i64 r.f6, .slice A7 r.f7.length c7, .slice A8 r.f8.length c8, .slice A9 r.f9.length c9, .slice A10 r.f10.length c10, .int .i64 r.f11, .int .i64 r.f12] (0, 0) _ rfl hgF Try.underlying45 rfl (by kernel_rfl) (.tmp (.tmp (.tmp .nil))))) rfl ?_
        exact ⟨A5, A7, A8, A9, A10, none, c5, c7, c8, c9, c10, 0, rfl, H.out.below MF.below, HC.out, C_zero _, Nat.le_refl _, MF.below⟩
    rw [if_neg hf] at hpp
    cases hpp
    have f1 : ¬ r.f5.length = 1000 := fun g => hf (.inl g)
    have f2 : tm < 1099511627776 := by
      have : ¬ maxTime ≤ tm := fun g => hf (.inr g)
      unfold maxTime at this
      omega
    have e10 : decide (1000 ≤ (r.f5.length : Int)) = false := decide_eq_false (by omega)
    have e11 : decide (1099511627776 ≤ tm) = false := decide_eq_false (by omega)
    clear hf f1 f2 hlg
    go_wp2_with fail
    refine (Copy11_calls r A5 A7 A8 A9 A10 c5 c7 c8 c9 c10 _ (H.out.below M5.out.below) ⟨Nat.le_trans HN.out.1 (by decide), Nat.le_trans HN.out.2.1 (by decide), Nat.le_trans HN.out.2.2.1 (by decide), Nat.le_trans HN.out.2.2.2.1 (by decide), Nat.le_trans HN.out.2.2.2.2 (by decide)⟩).mono ?_
    rintro e w6 ⟨v5, v7, v8, v9, v10, rfl, hM⟩
    unfold rc
    obtain ⟨B5, d5, rfl, _, _⟩ := hM.row_at 0 rfl
    obtain ⟨B7, d7, rfl, _, _⟩ := hM.row_at 1 rfl
    obtain ⟨B8, d8, rfl, _, _⟩ := hM.row_at 2 rfl
    obtain ⟨B9, d9, rfl, _, _⟩ := hM.row_at 3 rfl
    obtain ⟨B10, d10, rfl, _, _⟩ := hM.row_at 4 rfl
    have M6 := Aside0.mk (M5.out.trans hM)
    clear hM
    obtain ⟨g7, k7, he7, hg7⟩ := M6.out.int_form 1 rfl (by have := HP.out.2.2.2.2.2.2.2.2.2.2.2.2.1; omega)
    injection he7 with q1 _ q3
    subst q1
    subst q3
    go_upto_region 12 with (fail)
    have M8 := Aside0.mk (((M6.out.allocAt #[.int .i64 r.f0, .int .i64 r.f1, .int .i64 r.f2, .int .i64 r.f3, .int .i64 r.f4, .slice B5 r.f5.length d5, .int .i64 r.f6, .slice (some ⟨g7, 0, none⟩) r.f7.length d7, .slice B8 r.f8.length d8, .slice B9 r.f9.length d9, .slice B10 r.f10.length d10, .int .i64 r.f11, .int .i64 r.f12] 45 w6.heap.size rfl).allocAt #[.int .i64 tm, .string data] 102 (w6.heap.size + 1) (by simp)).allocAt #[.int .i64 tm, .string data] 102 (w6.heap.size + 2) (by simp))
    go_upto_region 13 with (((with_reducible refine gate_builtin (b := .append) (xs := #[.tmp 68, .tmp 70]) rfl ?_); at_builtin; refine Mem.app kE (Rr := fun x c => x = (⟨tm, data⟩ : Entry) ∧ c = [.int .i64 tm, .string data]) M8.out 3 _ r.f5 [⟨tm, data⟩] rfl (.tmp 68) (.tmp 70) 27 102 _ _ rfl Try.underlying27 infoEntry rfl (by decide) (by omega) (some ⟨w6.heap.size + 2, 0, none⟩) 1 1 rfl rfl rfl (reads_one (⟨tm, data⟩ : Entry) (M8.out.blk_at 0 rfl) rfl) (fun x c h => by obtain ⟨rfl, rfl⟩ := h; exact kE_mkM _ _ _ ⟨tm, data⟩) (by omega) ?_; intro v1 w7 hM; have M9 := Aside0.mk hM; clear hM; obtain ⟨C5, d5', he, _, _⟩ := M9.out.row_at 3 rfl; rw [List.length_append, List.length_singleton] at he; subst he; have cC := blk_cell (M9.out.blk_at 2 rfl); have fC := blk_frozen (M9.out.blk_at 2 rfl)))
    have M10 := Aside0.mk (M9.out.set 2 rfl 5 (.slice C5 (r.f5.length + 1) d5'))
    have hi0 : 0 ≤ r.f0 := HP.out.2.1
    have hi1 : r.f0 < (r.f7.length : Int) := by have := HP.out.2.2.1; have := HP.out.2.2.2.2.2.2.2.2.2.2.2.2.1; omega
    have x7 := (M9.out.int_cell 4 rfl r.f0 hi0 hi1).1
    have y7 := (M9.out.int_cell 4 rfl r.f0 hi0 hi1).2
    have hi2 : (r.f0 < (r.f7.length : Int)) = True := eq_true hi1
    have hbC := blk_lt (M9.out.blk_at 2 rfl)
    go_cut [] (fun wx => Aside0 (Mem w wx [blk (w6.heap.size + 1) 102 #[.int .i64 tm, .string data], blk w6.heap.size 45 #[.int .i64 r.f0, .int .i64 r.f1, .int .i64 r.f2, .int .i64 r.f3, .int .i64 r.f4, .slice C5 (r.f5.length + 1) d5', .int .i64 r.f6, .slice (some ⟨g7, 0, none⟩) r.f7.length d7, .slice B8 r.f8.length d8, .slice B9 r.f9.length d9, .slice B10 r.f10.length d10, .int .i64 r.f11, .int .i64 r.f12], row kE 102 (.slice C5 (r.f5.length + 1) d5') (r.f5 ++ [⟨tm, data⟩]), row (Kd.int .i64) 3 (.slice (some ⟨g7, 0, none⟩) r.f7.length d7) (r.f7.set r.f0.toNat ((r.f5.length : Int) + 1)), row (Kd.int .i64) 3 (.slice B8 r.f8.length d8) r.f8, row (Kd.int .i64) 3 (.slice B9 r.f9.length d9) r.f9, row kE 102 (.slice B10 r.f10.length d10) r.f10, blk (w.heap.size + 1) 45 #[.int .i64 0, .int .i64 0, .int .i64 0, .int .i64 0, .int .i64 0, .slice none 0 0, .int .i64 0, .slice none 0 0, .slice none 0 0, .slice none 0 0, .slice none 0 0, .int .i64 0, .int .i64 0], blk w.heap.size 45 #[.int .i64 r.f0, .int .i64 r.f1, .int .i64 r.f2, .int .i64 r.f3, .int .i64 r.f4, .slice A5 r.f5.length c5, .int .i64 r.f6, .slice A7 r.f7.length c7, .slice A8 r.f8.length c8, .slice A9 r.f9.length c9, .slice A10 r.f10.length c10, .int .i64 r.f11, .int .i64 r.f12]]))
    case first =>
      go_wp2_with fail
      go_meet
      case rel => exact ⟨Mem.sel (ps := [_, _, _, _, _, _, _, _, _, _]) (F := []) [1, 2, 3, 4, 5, 6, 7, 8, 9] 10 (M10.out.int_put 4 rfl r.f0 ((r.f5.length : Int) + 1)) rfl rfl⟩
    case rest =>
      have M11 := hcut
      clear hcut M10 M9 M8 M5 M6 cC fC x7 y7 hi2 hbC cB cZ fZ
      have cC := blk_cell (M11.out.blk_at 1 rfl)
      have fC := blk_frozen (M11.out.blk_at 1 rfl)
      go_upto_if 83 with (fail)
      go_cut [] (fun wx => ∃ cm : Int, Aside0 (cm = (if r.f1 = 1 then (r.f5.length : Int) + 1 else r.f6)) ∧ Aside0 (Mem w wx [blk (w6.heap.size + 1) 102 #[.int .i64 tm, .string data], blk w6.heap.size 45 #[.int .i64 r.f0, .int .i64 r.f1, .int .i64 r.f2, .int .i64 r.f3, .int .i64 r.f4, .slice C5 (r.f5.length + 1) d5', .int .i64 cm, .slice (some ⟨g7, 0, none⟩) r.f7.length d7, .slice B8 r.f8.length d8, .slice B9 r.f9.length d9, .slice B10 r.f10.length d10, .int .i64 r.f11, .int .i64 r.f12], row kE 102 (.slice C5 (r.f5.length + 1) d5') (r.f5 ++ [⟨tm, data⟩]), row (Kd.int .i64) 3 (.slice (some ⟨g7, 0, none⟩) r.f7.length d7) (r.f7.set r.f0.toNat ((r.f5.length : Int) + 1)), row (Kd.int .i64) 3 (.slice B8 r.f8.length d8) r.f8, row (Kd.int .i64) 3 (.slice B9 r.f9.length d9) r.f9, row kE 102 (.slice B10 r.f10.length d10) r.f10, blk (w.heap.size + 1) 45 #[.int .i64 0, .int .i64 0, .int .i64 0, .int .i64 0, .int .i64 0, .slice none 0 0, .int .i64 0, .slice none 0 0, .slice none 0 0, .slice none 0 0, .slice none 0 0, .int .i64 0, .int .i64 0], blk w.heap.size 45 #[.int .i64 r.f0, .int .i64 r.f1, .int .i64 r.f2, .int .i64 r.f3, .int .i64 r.f4, .slice A5 r.f5.length c5, .int .i64 r.f6, .slice A7 r.f7.length c7, .slice A8 r.f8.length c8, .slice A9 r.f9.length c9, .slice A10 r.f10.length c10, .int .i64 r.f11, .int .i64 r.f12]]))
      case first =>
        by_cases h1f : r.f1 = 1
        · have hq : (r.f1 == 1) = true := by simpa using h1f
          go_wp2_with fail
          go_meet
          case rel => exact ⟨(r.f5.length : Int) + 1, ⟨by rw [if_pos h1f]⟩, ⟨M11.out.set 1 rfl 6 (.int .i64 ((r.f5.length : Int) + 1))⟩⟩
        · have hq : (r.f1 == 1) = false := by simpa using h1f
          go_wp2_with fail
          go_meet
          case rel => exact ⟨r.f6, ⟨by rw [if_neg h1f]⟩, M11⟩
      case rest =>
        obtain ⟨cm, HCM, M12⟩ := hcut
        clear M11 cC fC
        have cE := blk_cell (M12.out.blk_at 0 rfl)
        have cC := blk_cell (M12.out.blk_at 1 rfl)
        have hbE := blk_lt (M12.out.blk_at 0 rfl)
        have hbC := blk_lt (M12.out.blk_at 1 rfl)
        have nE : ¬ w6.heap.size + 1 = w6.heap.size := by omega
        have cZ := blk_cell (M12.out.blk_at 7 rfl)
        have fZ := blk_frozen (M12.out.blk_at 7 rfl)
        have hbZ := blk_lt (M12.out.blk_at 7 rfl)
        have nEZ := Wh0.blk_ne M12.out 0 7 rfl rfl (by decide)
        have nCZ := Wh0.blk_ne M12.out 1 7 rfl rfl (by decide)
        go_upto_region 16 with (fail)
        have CALL := p11_all w wc w6.heap.size [blk (w6.heap.size + 1) 102 #[.int .i64 tm, .string data], row kE 102 (.slice C5 (r.f5.length + 1) d5') (r.f5 ++ [⟨tm, data⟩]), row (Kd.int .i64) 3 (.slice (some ⟨g7, 0, none⟩) r.f7.length d7) (r.f7.set r.f0.toNat ((r.f5.length : Int) + 1)), row (Kd.int .i64) 3 (.slice B8 r.f8.length d8) r.f8, row (Kd.int .i64) 3 (.slice B9 r.f9.length d9) r.f9, row kE 102 (.slice B10 r.f10.length d10) r.f10, blk (w.heap.size + 1) 45 #[.int .i64 0, .int .i64 0, .int .i64 0, .int .i64 0, .int .i64 0, .slice none 0 0, .int .i64 0, .slice none 0 0, .slice none 0 0, .slice none 0 0, .slice none 0 0, .int .i64 0, .int .i64 0], blk w.heap.size 45 #[.int .i64 r.f0, .int .i64 r.f1, .int .i64 r.f2, .int .i64 r.f3, .int .i64 r.f4, .slice A5 r.f5.length c5, .int .i64 r.f6, .slice A7 r.f7.length c7, .slice A8 r.f8.length c8, .slice A9 r.f9.length c9, .slice A10 r.f10.length c10, .int .i64 r.f11, .int .i64 r.f12]] r.f0 r.f1 r.f2 r.f3 r.f4 _ cm _ _ _ _ r.f11 r.f12 tm ((r.f5.length : Int) + 1) data (show Mem w wc (blk w6.heap.size 45 #[.int .i64 r.f0, .int .i64 r.f1, .int .i64 r.f2, .int .i64 r.f3, .int .i64 r.f4, .slice C5 (r.f5.length + 1) d5', .int .i64 cm, .slice (some ⟨g7, 0, none⟩) r.f7.length d7, .slice B8 r.f8.length d8, .slice B9 r.f9.length d9, .slice B10 r.f10.length d10, .int .i64 r.f11, .int .i64 r.f12] :: [blk (w6.heap.size + 1) 102 #[.int .i64 tm, .string data], row kE 102 (.slice C5 (r.f5.length + 1) d5') (r.f5 ++ [⟨tm, data⟩]), row (Kd.int .i64) 3 (.slice (some ⟨g7, 0, none⟩) r.f7.length d7) (r.f7.set r.f0.toNat ((r.f5.length : Int) + 1)), row (Kd.int .i64) 3 (.slice B8 r.f8.length d8) r.f8, row (Kd.int .i64) 3 (.slice B9 r.f9.length d9) r.f9, row kE 102 (.slice B10 r.f10.length d10) r.f10, blk (w.heap.size + 1) 45 #[.int .i64 0, .int .i64 0, .int .i64 0, .int .i64 0, .int .i64 0, .slice none 0 0, .int .i64 0, .slice none 0 0, .slice none 0 0, .slice none 0 0, .slice none 0 0, .int .i64 0, .int .i64 0], blk w.heap.size 45 #[.int .i64 r.f0, .int .i64 r.f1, .int .i64 r.f2, .int .i64 r.f3, .int .i64 r.f4, .slice A5 r.f5.length c5, .int .i64 r.f6, .slice A7 r.f7.length c7, .slice A8 r.f8.length c8, .slice A9 r.f9.length c9, .slice A10 r.f10.length c10, .int .i64 r.f11, .int .i64 r.f12]]) from Mem.sel (ps := [_, _, _, _, _, _, _, _, _]) (F := []) [1, 0, 2, 3, 4, 5, 6, 7, 8] 9 M12.out rfl rfl) hn1 hn5
        have HCALL := Aside0.mk CALL
        clear CALL
        have HA := Aside0.mk (show (∀ j : Nat, (wc.alloc (Obj.cells #[.int .i64 tm, .string data] 102)).drew.cell? ⟨w6.heap.size, j, none⟩ = wc.cell? ⟨w6.heap.size, j, none⟩) ∧ (∀ j : Nat, (wc.alloc (Obj.cells #[.int .i64 tm, .string data] 102)).drew.cell? ⟨w6.heap.size + 1, j, none⟩ = wc.cell? ⟨w6.heap.size + 1, j, none⟩) from ⟨fun j => drew_alloc_cell hbC, fun j => drew_alloc_cell hbE⟩)
        have H9 := HA
        have HF := HA
        have HS0 := Aside0.mk (show (∀ j : Nat, wc.drew.cell? ⟨w6.heap.size, j, none⟩ = wc.cell? ⟨w6.heap.size, j, none⟩) ∧ (∀ j : Nat, wc.drew.cell? ⟨w6.heap.size + 1, j, none⟩ = wc.cell? ⟨w6.heap.size + 1, j, none⟩) from ⟨fun _ => rfl, fun _ => rfl⟩)
        go_region_held3 (fun w' => (∀ j : Nat, w'.cell? ⟨w6.heap.size, j, none⟩ = wc.cell? ⟨w6.heap.size, j, none⟩) ∧ (∀ j : Nat, w'.cell? ⟨w6.heap.size + 1, j, none⟩ = wc.cell? ⟨w6.heap.size + 1, j, none⟩)) (first | with_reducible exact HS0.out | with_reducible exact H9.out | with_reducible exact HA.out | with_reducible exact HF.out | fail) ((go_at_call 77; refine HCALL.out.mono ?_; rintro e w9 ⟨Bo, co, rfl, hM⟩; have M13 := Aside0.mk hM; clear hM; have H9 := Aside0.mk (show (∀ j : Nat, w9.cell? ⟨w6.heap.size, j, none⟩ = wc.cell? ⟨w6.heap.size, j, none⟩) ∧ (∀ j : Nat, w9.cell? ⟨w6.heap.size + 1, j, none⟩ = wc.cell? ⟨w6.heap.size + 1, j, none⟩) from ⟨fun j => (blk_cell (M13.out.blk_at 2 rfl) j).trans (cC j).symm, fun j => (blk_cell (M13.out.blk_at 3 rfl) j).trans (cE j).symm⟩); have M14 := Aside0.mk (M13.out.setRow 9 rfl [.int .i64 r.f0, .int .i64 r.f1, .int .i64 r.f2, .int .i64 r.f3, .int .i64 r.f4, .slice C5 (r.f5.length + 1) d5', .int .i64 cm, .slice (some ⟨g7, 0, none⟩) r.f7.length d7, .slice B8 r.f8.length d8, .slice B9 r.f9.length d9, .slice B10 r.f10.length d10, .int .i64 r.f11, .int .i64 r.f12] rfl); have HF := Aside0.mk (show (∀ j : Nat, (((((((((((((w9.setCell ⟨w.heap.size + 1, 0, none⟩ (.int .i64 r.f0)).setCell ⟨w.heap.size + 1, 1, none⟩ (.int .i64 r.f1)).setCell ⟨w.heap.size + 1, 2, none⟩ (.int .i64 r.f2)).setCell ⟨w.heap.size + 1, 3, none⟩ (.int .i64 r.f3)).setCell ⟨w.heap.size + 1, 4, none⟩ (.int .i64 r.f4)).setCell ⟨w.heap.size + 1, 5, none⟩ (.slice C5 (r.f5.length + 1) d5')).setCell ⟨w.heap.size + 1, 6, none⟩ (.int .i64 cm)).setCell ⟨w.heap.size + 1, 7, none⟩ (.slice (some ⟨g7, 0, none⟩) r.f7.length d7)).setCell ⟨w.heap.size + 1, 8, none⟩ (.slice B8 r.f8.length d8)).setCell ⟨w.heap.size + 1, 9, none⟩ (.slice B9 r.f9.length d9)).setCell ⟨w.heap.size + 1, 10, none⟩ (.slice B10 r.f10.length d10)).setCell ⟨w.heap.size + 1, 11, none⟩ (.int .i64 r.f11)).setCell ⟨w.heap.size + 1, 12, none⟩ (.int .i64 r.f12)).cell? ⟨w6.heap.size, j, none⟩ = wc.cell? ⟨w6.heap.size, j, none⟩) ∧ (∀ j : Nat, (((((((((((((w9.setCell ⟨w.heap.size + 1, 0, none⟩ (.int .i64 r.f0)).setCell ⟨w.heap.size + 1, 1, none⟩ (.int .i64 r.f1)).setCell ⟨w.heap.size + 1, 2, none⟩ (.int .i64 r.f2)).setCell ⟨w.heap.size + 1, 3, none⟩ (.int .i64 r.f3)).setCell ⟨w.heap.size + 1, 4, none⟩ (.int .i64 r.f4)).setCell ⟨w.heap.size + 1, 5, none⟩ (.slice C5 (r.f5.length + 1) d5')).setCell ⟨w.heap.size + 1, 6, none⟩ (.int .i64 cm)).setCell ⟨w.heap.size + 1, 7, none⟩ (.slice (some ⟨g7, 0, none⟩) r.f7.length d7)).setCell ⟨w.heap.size + 1, 8, none⟩ (.slice B8 r.f8.length d8)).setCell ⟨w.heap.size + 1, 9, none⟩ (.slice B9 r.f9.length d9)).setCell ⟨w.heap.size + 1, 10, none⟩ (.slice B10 r.f10.length d10)).setCell ⟨w.heap.size + 1, 11, none⟩ (.int .i64 r.f11)).setCell ⟨w.heap.size + 1, 12, none⟩ (.int .i64 r.f12)).cell? ⟨w6.heap.size + 1, j, none⟩ = wc.cell? ⟨w6.heap.size + 1, j, none⟩) from ⟨fun j => (blk_cell (M14.out.blk_at 2 rfl) j).trans (cC j).symm, fun j => (blk_cell (M14.out.blk_at 3 rfl) j).trans (cE j).symm⟩); have cZ' := blk_cell (M13.out.blk_at 9 rfl); have fZ' := blk_frozen (M13.out.blk_at 9 rfl)))
        go_wp2
        have hgF := M14.out.blk_at 9 rfl
        refine bodyPost_ret (results_list (rs := [.cell 6 45, .tmp 7, .tmp 8, .tmp 9]) rfl (by simp) (.cell (w.heap.size + 1) 45 #[.int .i64 r.f0, .int .i64 r.f1, .int .i64 r.f2, .int .i64 r.f3, .int .i64 r.f4, .slice C5 (r.f5.length + 1) d5', .int .i64 cm, .slice (some ⟨g7, 0, none⟩) r.f7.length d7, .slice B8 r.f8.length d8, .slice B9 r.f9.length d9, .slice B10 r.f10.length d10, .int .i64 r.f11, .int .i64 r.f12] (0, 0) _ rfl hgF Try.underlying45 rfl (by kernel_rfl) (.tmp (.tmp (.tmp .nil))))) rfl ?_
        have hcm := HCM.out
        subst hcm
        exact Out_of (s := proposed r ⟨tm, data⟩) (Mem.sel (ps := [_, _, _, _, _, _, _, _, _, _, _]) (F := []) [4, 5, 6, 7, 8, 0] 11 M14.out rfl rfl)
end Go.Proofs.Ytggbjokhniigkaa.Re
