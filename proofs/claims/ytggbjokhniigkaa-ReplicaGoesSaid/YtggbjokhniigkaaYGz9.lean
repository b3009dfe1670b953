/- Texts laid together: Wh, Wi, Wk, Vc. No condition. -/
import Derived.Deep.RegionWith
import Derived.Test.YtggbjokhniigkaaYGz8
set_option linter.unusedVariables false
set_option linter.unusedSimpArgs false
set_option maxRecDepth 100000
set_option maxHeartbeats 8000000
namespace Go.Proofs.Ytggbjokhniigkaa.Wh
open Ty Go.RowKit YtggbjokhniigkaaW.PrintWords YtggbjokhniigkaaW.PrintLast YtggbjokhniigkaaW.PrintMore Mx Kx Wa Wb Wc Wd We Wh0
theorem lastTime_rd {l : List Entry} (h : 0 < l.length) : lastTime l = (rd_Entry l ((l.length : Int) - 1)).f0 := by
  have e : l.getLast? = some l[l.length - 1] := by rw [List.getLast?_eq_getElem?]; simp
  unfold lastTime
  rw [e]
  unfold rd_Entry
  rw [show ((l.length : Int) - 1).toNat = l.length - 1 by omega]
  simp [List.getD, show l.length - 1 < l.length by omega]
theorem rises_mem : ∀ {l : List Entry} {last : Int}, rises last l = true → ∀ e ∈ l, last < e.f0 ∧ e.f0 < maxTime ∧ e.f1.size ≤ 20000
  | [], _, _, _, h => by cases h
  | a :: l, last, h, e, he => by
    simp only [rises, Bool.and_eq_true, decide_eq_true_eq] at h
    rcases List.mem_cons.1 he with rfl | he
    · exact ⟨h.1.1.1, h.1.1.2, h.1.2⟩
    · have := rises_mem h.2 e he
      exact ⟨by omega, this.2⟩
theorem rd_time {l : List Entry} (hl : log l = true) (h : 0 < l.length) : 0 < (rd_Entry l ((l.length : Int) - 1)).f0 ∧ (rd_Entry l ((l.length : Int) - 1)).f0 < 1099511627776 := by
  unfold log at hl
  simp only [Bool.and_eq_true] at hl
  have hm : rd_Entry l ((l.length : Int) - 1) ∈ l := by
    unfold rd_Entry
    rw [show ((l.length : Int) - 1).toNat = l.length - 1 by omega]
    simp [List.getD, show l.length - 1 < l.length by omega]
  have := rises_mem hl.1 _ hm
  unfold maxTime at this
  exact ⟨this.1, this.2.1⟩
theorem Propose_in (r : Rep) (A5 A7 A8 A9 A10 : Option Addr) (c5 c7 c8 c9 c10 : Nat) (w : World) (h : RdRep w r A5 A7 A8 A9 A10) (hn : Small r) (time : Int) (data : ByteArray) (hs : data.size ≤ 20000) (h1 : may r = true) (h2 : below time = true) (h4 : r.f4 = 0) (h5 : r.f2 % r.f1 = r.f0) (s : Rep) (msgs : List Msg) (kk code : Int) (hpp : propose r time data = (s, msgs, kk, code)) :
    Calls Try.prog 34 #[.agg (rc r (.slice A5 r.f5.length c5) (.slice A7 r.f7.length c7) (.slice A8 r.f8.length c8) (.slice A9 r.f9.length c9) (.slice A10 r.f10.length c10)), .int .i64 time, .string data] w fun e w' => ∃ v5 v7 v8 v9 v10 vout : Value, e = .returned (.tuple #[.agg (rc s v5 v7 v8 v9 v10), vout, .int .i64 kk, .int .i64 code]) ∧ Mem w w' (rows s v5 v7 v8 v9 v10 ++ [row kM 29 vout msgs]) := by
  have hp := (may_iff r).1 h1
  have hn0 : 0 < r.f1 ∧ r.f1 ≤ 5 := by
    have := hp.1
    unfold size at this
    simp at this
    omega
  have hv : 0 ≤ r.f2 ∧ r.f2 < 1099511627776 := by
    have := hp.2.2.2.1
    unfold below maxTime at this
    simpa using this
  have ht : 0 ≤ time ∧ time < 1099511627776 := by
    unfold below maxTime at h2
    simpa using h2
  have HP := Aside0.mk hp
  clear hp
  obtain ⟨hn1, hn5⟩ := hn0
  obtain ⟨hv1, hv2⟩ := hv
  obtain ⟨ht1, ht2⟩ := ht
  have H := Aside0.mk h
  have HN := Aside0.mk hn
  have M0 := Aside0.mk (Mem.nil w)
  have M1 := Aside0.mk ((M0.out.alloc (Kx.rA r A5 A7 A8 A9 A10 c5 c7 c8 c9 c10) 45).allocAt #[.int .i64 0, .int .i64 0, .int .i64 0, .int .i64 0, .int .i64 0, .slice none 0 0, .int .i64 0, .slice none 0 0, .slice none 0 0, .slice none 0 0, .slice none 0 0, .int .i64 0, .int .i64 0] 45 (w.heap.size + 1) (by simp))
  clear h hn
  unfold rc
  unfold propose at hpp
  rw [if_pos (show (may r && below time && decide (data.size ≤ 20000)) = true by rw [h1, h2]; simpa using hs), if_pos ⟨h4, h5⟩] at hpp
  have HPP := Aside0.mk hpp
  clear hpp
  have H4 := Aside0.mk h4
  have H5 := Aside0.mk h5
  have e4 : (r.f4 == 0) = true := by simpa using h4
  have e4' : (r.f4 != 0) = false := by simpa using h4
  have e5 : (r.f2 % r.f1 == r.f0) = true := by simpa using h5
  have e5' : (r.f2 % r.f1 != r.f0) = false := by simpa using h5
  clear h4 h5
  go_enter Try.func34, Try.ntmps34
  go_wp2_with fail
  refine (May_calls r A5 A7 A8 A9 A10 c5 c7 c8 c9 c10 _ (Kd.C_below H.out.h5 M1.out.below) (Kd.C_below H.out.h7 M1.out.below) (Kd.C_below H.out.h8 M1.out.below) (Kd.C_below H.out.h9 M1.out.below) (Kd.C_below H.out.h10 M1.out.below) HN.out).mono ?_
  rintro e w1 ⟨rfl, hM⟩
  have M2 := Aside0.mk (M1.out.trans hM)
  clear hM
  have cB := blk_cell (M2.out.blk_at 1 rfl)
  go_wp2_with (go_at_call 67; refine (below_calls _ _).mono ?_; rintro e w' ⟨rfl, rfl⟩)
  refine (copied_calls r A5 A7 A8 A9 A10 c5 c7 c8 c9 c10 _ (H.out.below M2.out.below) HN.out).mono ?_
  rintro e w2 ⟨v5, v7, v8, v9, v10, rfl, hM⟩
  unfold rc
  obtain ⟨B5, d5, rfl, _, _⟩ := hM.row_at 0 rfl
  obtain ⟨B7, d7, rfl, _, _⟩ := hM.row_at 1 rfl
  obtain ⟨B8, d8, rfl, _, _⟩ := hM.row_at 2 rfl
  obtain ⟨B9, d9, rfl, _, _⟩ := hM.row_at 3 rfl
  obtain ⟨B10, d10, rfl, _, _⟩ := hM.row_at 4 rfl
  have M3 := Aside0.mk (Mem.sel (ps := [_, _, _, _, _, _, _]) (F := []) [5, 6, 0, 1, 2, 3, 4] 7 (M2.out.trans hM) rfl rfl)
  clear hM
  obtain ⟨g7, k7, he7, hg7⟩ := M3.out.int_form 3 rfl (by have := HP.out.2.2.2.2.2.2.2.2.2.2.2.2.1; omega)
  injection he7 with q1 _ q3
  subst q1
  subst q3
  clear cB
  have hb0 := blk_lt (M3.out.blk_at 1 rfl)
  have hb1 := blk_lt (M3.out.blk_at 0 rfl)
  have M4 := Aside0.mk (M3.out.alloc #[.int .i64 r.f0, .int .i64 r.f1, .int .i64 r.f2, .int .i64 r.f3, .int .i64 r.f4, .slice B5 r.f5.length d5, .int .i64 r.f6, .slice (some ⟨g7, 0, none⟩) r.f7.length d7, .slice B8 r.f8.length d8, .slice B9 r.f9.length d9, .slice B10 r.f10.length d10, .int .i64 r.f11, .int .i64 r.f12, .slice none 0 0] 99)
  have cR := fun j => blk_cell (M3.out.blk_at 1 rfl) j
  have cC := fun j => blk_cell (M3.out.blk_at 0 rfl) j
  have fC := fun j => blk_frozen (M3.out.blk_at 0 rfl) j
  go_wp2_with fail
  have hW := M4.out.blk_at 0 rfl
  go_quiet ((go_at_call 74; exact primary_quiet _ _ w2.heap.size r.f0 r.f1 r.f2 r.f3 r.f4 _ r.f6 _ _ _ _ r.f11 r.f12 _ r.f2 hW hv1 (by omega) hn1 hn5))
  clear hW
  go_upto_if 56 with (fail)
  go_cut [11] (fun s11 wx => s11 = .int .i64 (nextTime r.f5 time) ∧ Aside0 (Mem w wx [blk w2.heap.size 99 #[.int .i64 r.f0, .int .i64 r.f1, .int .i64 r.f2, .int .i64 r.f3, .int .i64 r.f4, .slice B5 r.f5.length d5, .int .i64 r.f6, .slice (some ⟨g7, 0, none⟩) r.f7.length d7, .slice B8 r.f8.length d8, .slice B9 r.f9.length d9, .slice B10 r.f10.length d10, .int .i64 r.f11, .int .i64 r.f12, .slice none 0 0], blk (w.heap.size + 1) 45 #[.int .i64 0, .int .i64 0, .int .i64 0, .int .i64 0, .int .i64 0, .slice none 0 0, .int .i64 0, .slice none 0 0, .slice none 0 0, .slice none 0 0, .slice none 0 0, .int .i64 0, .int .i64 0], blk w.heap.size 45 (Kx.rA r A5 A7 A8 A9 A10 c5 c7 c8 c9 c10), row kE 102 (.slice B5 r.f5.length d5) r.f5, row (Kd.int .i64) 3 (.slice (some ⟨g7, 0, none⟩) r.f7.length d7) r.f7, row (Kd.int .i64) 3 (.slice B8 r.f8.length d8) r.f8, row (Kd.int .i64) 3 (.slice B9 r.f9.length d9) r.f9, row kE 102 (.slice B10 r.f10.length d10) r.f10]))
  case first =>
    by_cases hz : 0 < r.f5.length
    · have hz1 : decide (0 < (r.f5.length : Int)) = true := decide_eq_true (by omega)
      obtain ⟨ad, e, hx0, hx1⟩ := at_Entry H.out.h5 ((r.f5.length : Int) - 1) (by omega) (by omega)
      cases e
      clear hx1
      have hbl := World.block_lt_of_cell? w _ hx0
      have hx2 := (M3.out.below.cell hbl).trans hx0
      have hbl2 := World.block_lt_of_cell? w2 _ hx2
      have hbl3 : ¬ (ad.add (((r.f5.length : Int) - 1).toNat * 2)).block = w2.heap.size := by omega
      clear hx0 hbl
      rw [show ((r.f5.length : Int) - 1).toNat = r.f5.length - 1 by omega] at hx2 hbl2 hbl3
      have n5 := HN.out.1
      have HT := Aside0.mk (lastTime_rd hz)
      have hb := rd_time HP.out.2.2.2.2.2.2.2.2.2.1 hz
      generalize (rd_Entry r.f5 ((r.f5.length : Int) - 1)).f0 = lt at *
      obtain ⟨hb1', hb2'⟩ := hb
      obtain ⟨t1, ht1⟩ : ∃ t1, (if time < 1 then 1 else time) = t1 := ⟨_, rfl⟩
      have ht1b : 0 < t1 := by rw [← ht1]; split <;> omega
      have HT1 := Aside0.mk ht1
      obtain ⟨tm, htm⟩ : ∃ tm, (if t1 < lt + 1 then lt + 1 else t1) = tm := ⟨_, rfl⟩
      have HTM := Aside0.mk (show nextTime r.f5 time = tm by
        unfold nextTime
        rw [if_neg (by omega), HT.out, ← htm, ← HT1.out]
        split <;> split <;> omega)
      go_wp2_with fail
      all_goals
        go_meet
        case rel => exact ⟨by rw [HTM.out], ⟨M4.out.drewN nq⟩⟩
    · have hz1 : decide (0 < (r.f5.length : Int)) = false := decide_eq_false (by omega)
      have HTM := Aside0.mk (show nextTime r.f5 time = (if time < 1 then 1 else time) by
        unfold nextTime
        rw [if_pos (by omega)]
        split <;> omega)
      go_wp2_with fail
      all_goals
        go_meet
        case rel => exact ⟨by rw [HTM.out]; first | rfl | (rw [if_pos (by omega)]; done) | (rw [if_neg (by omega)]; done), ⟨M4.out.drewN nq⟩⟩
  case rest =>
    obtain ⟨rfl, M5⟩ := hcut
    clear M4 M2 M1 M0 cC fC cR hb0 hb1 e4 e4' e5 e5' ht1 ht2
    have n5 := HN.out.1
    obtain ⟨tm, htm⟩ : ∃ tm, nextTime r.f5 time = tm := ⟨_, rfl⟩
    have hpp := HPP.out
    rw [htm] at hpp
    rw [htm]
    clear HPP htm
    have cR := blk_cell (M5.out.blk_at 2 rfl)
    have cW := blk_cell (M5.out.blk_at 0 rfl)
    have cZ := blk_cell (M5.out.blk_at 1 rfl)
    have hbW := blk_lt (M5.out.blk_at 0 rfl)
    have hbZ := blk_lt (M5.out.blk_at 1 rfl)
    have hbR := blk_lt (M5.out.blk_at 2 rfl)
    have fZ := blk_frozen (M5.out.blk_at 1 rfl)
    by_cases hf : r.f5.length = 1000 ∨ maxTime ≤ tm
    · rw [if_pos hf] at hpp
      cases hpp
      have hf2 : ((r.f5.length : Int) == 1000) = true ∨ (((r.f5.length : Int) == 1000) = false ∧ decide (1099511627776 ≤ tm) = true) := by
        by_cases h : r.f5.length = 1000
        · left
          simp
          omega
        · right
          refine ⟨by simp; omega, decide_eq_true ?_⟩
          have := hf.resolve_left h
          unfold maxTime at this
          exact this
      clear hf
      rcases hf2 with hf1 | ⟨hf1, hf2⟩
      all_goals
        go_wp2
        have M6 := M5.out.setRow 1 rfl [.int .i64 r.f0, .int .i64 r.f1, .int .i64 r.f2, .int .i64 r.f3, .int .i64 r.f4, .slice B5 r.f5.length d5, .int .i64 r.f6, .slice (some ⟨g7, 0, none⟩) r.f7.length d7, .slice B8 r.f8.length d8, .slice B9 r.f9.length d9, .slice B10 r.f10.length d10, .int .i64 r.f11, .int .i64 r.f12] rfl
        have hg6 := M6.blk_at 1 rfl
        refine bodyPost_ret (results_list (rs := [.cell 6 45, .tmp 7, .tmp 8, .tmp 9]) rfl (by simp) (.cell (w.heap.size + 1) 45 #[.int .i64 r.f0, .int .i64 r.f1, .int .i64 r.f2, .int .i64 r.f3, .int .i64 r.f4, .slice B5 r.f5.length d5, .int .i64 r.f6, .slice (some ⟨g7, 0, none⟩) r.f7.length d7, .slice B8 r.f8.length d8, .slice B9 r.f9.length d9, .slice B10 r.f10.length d10, .int .i64 r.f11, .int .i64 r.f12] (0, 0) _ rfl hg6 Try.underlying45 rfl (by kernel_rfl) (.tmp (.tmp (.tmp .nil))))) rfl ?_
        exact ⟨_, _, _, _, _, _, rfl, Mem.sel (ps := [_, _, _, _, _, _, _, _, _]) (F := []) [4, 5, 6, 7, 8, 0] 9 (Mem.row_nil M6 kM 29) rfl rfl⟩
    rw [if_neg hf] at hpp
    cases hpp
    have f1 : ¬ r.f5.length = 1000 := fun h => hf (.inl h)
    have f2 : tm < 1099511627776 := by
      have : ¬ maxTime ≤ tm := fun h => hf (.inr h)
      unfold maxTime at this
      omega
    have e10 : ((r.f5.length : Int) == 1000) = false := by simp; omega
    have e11 : decide (1099511627776 ≤ tm) = false := decide_eq_false (by omega)
    clear hf f1 f2
    go_upto_region 13 with (fail)
    go_cut [] (fun wx => ∃ (C5 : Option Addr) (d5' ge : Nat), Aside0 (ge = wc.heap.size) ∧ Aside0 (Mem w wx [blk ge 102 #[.int .i64 tm, .string data], blk w2.heap.size 99 #[.int .i64 r.f0, .int .i64 r.f1, .int .i64 r.f2, .int .i64 r.f3, .int .i64 r.f4, .slice C5 (r.f5.length + 1) d5', .int .i64 r.f6, .slice (some ⟨g7, 0, none⟩) r.f7.length d7, .slice B8 r.f8.length d8, .slice B9 r.f9.length d9, .slice B10 r.f10.length d10, .int .i64 r.f11, .int .i64 r.f12, .slice none 0 0], blk (w.heap.size + 1) 45 #[.int .i64 0, .int .i64 0, .int .i64 0, .int .i64 0, .int .i64 0, .slice none 0 0, .int .i64 0, .slice none 0 0, .slice none 0 0, .slice none 0 0, .slice none 0 0, .int .i64 0, .int .i64 0], blk w.heap.size 45 (Kx.rA r A5 A7 A8 A9 A10 c5 c7 c8 c9 c10), row kE 102 (.slice C5 (r.f5.length + 1) d5') (r.f5 ++ [⟨tm, data⟩]), row (Kd.int .i64) 3 (.slice (some ⟨g7, 0, none⟩) r.f7.length d7) r.f7, row (Kd.int .i64) 3 (.slice B8 r.f8.length d8) r.f8, row (Kd.int .i64) 3 (.slice B9 r.f9.length d9) r.f9, row kE 102 (.slice B10 r.f10.length d10) r.f10]))
    case first =>
      have A5 := Aside0.mk ((M5.out.allocAt #[.int .i64 tm, .string data] 102 wc.heap.size rfl).drew)
      have A6 := Aside0.mk (A5.out.allocAt #[.int .i64 tm, .string data] 102 (wc.heap.size + 1) (by simp))
      have cE := blk_cell (A5.out.blk_at 0 rfl)
      go_region_law (refine Mem.app_step kE (Rr := fun x c => x = (⟨tm, data⟩ : Entry) ∧ c = [.int .i64 tm, .string data]) A6.out 5 _ r.f5 [⟨tm, data⟩] (by rfl) (.tmp 87) (.tmp 89) 27 102 _ _ rfl Try.underlying27 infoEntry rfl (by decide) (by omega) (some ⟨wc.heap.size + 1, 0, none⟩) 1 1 (by simp [Act.eval, Act.put]) (by simp [Act.eval, Act.put]) rfl (reads_one (⟨tm, data⟩ : Entry) (A6.out.blk_at 0 rfl) rfl) (fun x c h => by obtain ⟨rfl, rfl⟩ := h; exact kE_mkM _ _ _ ⟨tm, data⟩) (by omega) ?_; intro v1 w3 hM; have M7 := Aside0.mk hM; clear hM; obtain ⟨C5, d5', he, hc3, _⟩ := M7.out.row_at 5 rfl; rw [List.length_append, List.length_singleton] at he; subst he; have cG3 := blk_cell (M7.out.blk_at 2 rfl); have fG3 := blk_frozen (M7.out.blk_at 2 rfl); clear hc3)
      all_goals
        go_wp2_with fail
        go_meet
        case rel => exact ⟨C5, d5', wc.heap.size, ⟨rfl⟩, ⟨Mem.sel (ps := [_, _, _, _, _, _, _, _, _, _]) (F := []) [1, 2, 3, 4, 5, 6, 7, 8, 9] 10 (M7.out.set 2 rfl 5 (.slice C5 (r.f5.length + 1) d5')) rfl rfl⟩⟩
    case rest =>
      obtain ⟨C5, d5', ge, hge, M6⟩ := hcut
      clear M5 cR cW cZ fZ hbW hbZ hbR
      rw [← hge.out]
      clear hge
      have cR := blk_cell (M6.out.blk_at 3 rfl)
      have cW := blk_cell (M6.out.blk_at 1 rfl)
      have fW := blk_frozen (M6.out.blk_at 1 rfl)
      have hi0 : 0 ≤ r.f0 := HP.out.2.1
      have hi1 : r.f0 < (r.f7.length : Int) := by have := HP.out.2.2.1; have := HP.out.2.2.2.2.2.2.2.2.2.2.2.2.1; omega
      have x7 := (M6.out.int_cell 5 rfl r.f0 hi0 hi1).1
      have y7 := (M6.out.int_cell 5 rfl r.f0 hi0 hi1).2
      have hi2 : (r.f0 < (r.f7.length : Int)) = True := eq_true hi1
      go_upto_region 15 with (fail)
      go_cut [] (fun wx => Aside0 (Mem w wx [blk ge 102 #[.int .i64 tm, .string data], blk w2.heap.size 99 #[.int .i64 r.f0, .int .i64 r.f1, .int .i64 r.f2, .int .i64 r.f3, .int .i64 r.f4, .slice C5 (r.f5.length + 1) d5', .int .i64 r.f6, .slice (some ⟨g7, 0, none⟩) r.f7.length d7, .slice B8 r.f8.length d8, .slice B9 r.f9.length d9, .slice B10 r.f10.length d10, .int .i64 r.f11, .int .i64 r.f12, .slice none 0 0], blk (w.heap.size + 1) 45 #[.int .i64 0, .int .i64 0, .int .i64 0, .int .i64 0, .int .i64 0, .slice none 0 0, .int .i64 0, .slice none 0 0, .slice none 0 0, .slice none 0 0, .slice none 0 0, .int .i64 0, .int .i64 0], blk w.heap.size 45 (Kx.rA r A5 A7 A8 A9 A10 c5 c7 c8 c9 c10), row kE 102 (.slice C5 (r.f5.length + 1) d5') (r.f5 ++ [⟨tm, data⟩]), row (Kd.int .i64) 3 (.slice (some ⟨g7, 0, none⟩) r.f7.length d7) (r.f7.set r.f0.toNat ((r.f5.length : Int) + 1)), row (Kd.int .i64) 3 (.slice B8 r.f8.length d8) r.f8, row (Kd.int .i64) 3 (.slice B9 r.f9.length d9) r.f9, row kE 102 (.slice B10 r.f10.length d10) r.f10]))
      case first =>
        go_region
        all_goals
          go_wp2_with fail
          go_meet
          case rel => exact ⟨M6.out.drew.int_put 5 rfl r.f0 ((r.f5.length : Int) + 1)⟩
      case rest =>
        have M7 := hcut
        clear hcut M6 cR cW fW x7 y7 hi2
        have cR := blk_cell (M7.out.blk_at 3 rfl)
        have cW := blk_cell (M7.out.blk_at 1 rfl)
        have fW := blk_frozen (M7.out.blk_at 1 rfl)
        go_upto_if 111 with (fail)
        go_cut [] (fun wx => ∃ cm : Int, cm = (if r.f1 = 1 then (r.f5.length : Int) + 1 else r.f6) ∧ Aside0 (Mem w wx [blk ge 102 #[.int .i64 tm, .string data], blk w2.heap.size 99 #[.int .i64 r.f0, .int .i64 r.f1, .int .i64 r.f2, .int .i64 r.f3, .int .i64 r.f4, .slice C5 (r.f5.length + 1) d5', .int .i64 cm, .slice (some ⟨g7, 0, none⟩) r.f7.length d7, .slice B8 r.f8.length d8, .slice B9 r.f9.length d9, .slice B10 r.f10.length d10, .int .i64 r.f11, .int .i64 r.f12, .slice none 0 0], blk (w.heap.size + 1) 45 #[.int .i64 0, .int .i64 0, .int .i64 0, .int .i64 0, .int .i64 0, .slice none 0 0, .int .i64 0, .slice none 0 0, .slice none 0 0, .slice none 0 0, .slice none 0 0, .int .i64 0, .int .i64 0], blk w.heap.size 45 (Kx.rA r A5 A7 A8 A9 A10 c5 c7 c8 c9 c10), row kE 102 (.slice C5 (r.f5.length + 1) d5') (r.f5 ++ [⟨tm, data⟩]), row (Kd.int .i64) 3 (.slice (some ⟨g7, 0, none⟩) r.f7.length d7) (r.f7.set r.f0.toNat ((r.f5.length : Int) + 1)), row (Kd.int .i64) 3 (.slice B8 r.f8.length d8) r.f8, row (Kd.int .i64) 3 (.slice B9 r.f9.length d9) r.f9, row kE 102 (.slice B10 r.f10.length d10) r.f10]))
        case first =>
          by_cases h1f : r.f1 = 1
          · have hq : (r.f1 == 1) = true := by simpa using h1f
            go_wp2_with fail
            go_meet
            case rel => exact ⟨(r.f5.length : Int) + 1, by rw [if_pos h1f], ⟨M7.out.set 1 rfl 6 (.int .i64 ((r.f5.length : Int) + 1))⟩⟩
          · have hq : (r.f1 == 1) = false := by simpa using h1f
            go_wp2_with fail
            go_meet
            case rel => exact ⟨r.f6, by rw [if_neg h1f], M7⟩
        case rest =>
          obtain ⟨cm, hcm, M8⟩ := hcut
          have HCM := Aside0.mk hcm
          clear hcm M7 cR cW fW
          have cE := blk_cell (M8.out.blk_at 0 rfl)
          have cW := blk_cell (M8.out.blk_at 1 rfl)
          have hbE := blk_lt (M8.out.blk_at 0 rfl)
          have hbW := blk_lt (M8.out.blk_at 1 rfl)
          have nE : ¬ ge = w2.heap.size := blk_ne M8.out 0 1 rfl rfl (by decide)
          go_upto_region 18 with (fail)
          go_cut [] (fun wx => ∃ vo : Value, Aside0 (Mem w wx [blk ge 102 #[.int .i64 tm, .string data], blk w2.heap.size 99 #[.int .i64 r.f0, .int .i64 r.f1, .int .i64 r.f2, .int .i64 r.f3, .int .i64 r.f4, .slice C5 (r.f5.length + 1) d5', .int .i64 cm, .slice (some ⟨g7, 0, none⟩) r.f7.length d7, .slice B8 r.f8.length d8, .slice B9 r.f9.length d9, .slice B10 r.f10.length d10, .int .i64 r.f11, .int .i64 r.f12, vo], row kM 29 vo (toAll r ⟨1, 0, 0, 0, (r.f5.length : Int) + 1, cm, 0, [⟨tm, data⟩]⟩), blk (w.heap.size + 1) 45 #[.int .i64 0, .int .i64 0, .int .i64 0, .int .i64 0, .int .i64 0, .slice none 0 0, .int .i64 0, .slice none 0 0, .slice none 0 0, .slice none 0 0, .slice none 0 0, .int .i64 0, .int .i64 0], blk w.heap.size 45 (Kx.rA r A5 A7 A8 A9 A10 c5 c7 c8 c9 c10), row kE 102 (.slice C5 (r.f5.length + 1) d5') (r.f5 ++ [⟨tm, data⟩]), row (Kd.int .i64) 3 (.slice (some ⟨g7, 0, none⟩) r.f7.length d7) (r.f7.set r.f0.toNat ((r.f5.length : Int) + 1)), row (Kd.int .i64) 3 (.slice B8 r.f8.length d8) r.f8, row (Kd.int .i64) 3 (.slice B9 r.f9.length d9) r.f9, row kE 102 (.slice B10 r.f10.length d10) r.f10]))
          case first =>
            have CALL := prop_all r B8 B9 B10 C5 d7 d8 d9 d10 d5' g7 ge w2.heap.size w wc tm cm data A5 A7 A8 A9 A10 c5 c7 c8 c9 c10 M8.out hn1 hn5
            go_region_with (go_at_call 75; refine CALL.mono ?_; rintro e w9 ⟨vo, rfl, hM⟩; have M9 := Aside0.mk hM; clear hM)
            all_goals
              go_wp2_with fail
              go_meet
              case rel => exact ⟨vo, ⟨Mem.sel (ps := [_, _, _, _, _, _, _, _, _, _, _]) (F := []) [3, 1, 2, 4, 5, 6, 7, 8, 9, 10] 11 M9.out rfl rfl⟩⟩
          case rest =>
            obtain ⟨vo, M9⟩ := hcut
            clear M8 cE cW hbE hbW nE
            have cW := blk_cell (M9.out.blk_at 1 rfl)
            have cZ := blk_cell (M9.out.blk_at 3 rfl)
            have fZ := blk_frozen (M9.out.blk_at 3 rfl)
            have nWZ := blk_ne M9.out 1 3 rfl rfl (by decide)
            go_upto_region 19 with (fail)
            go_region
            all_goals
              go_wp2
              have M10 := (M9.out.setRow 3 rfl [.int .i64 r.f0, .int .i64 r.f1, .int .i64 r.f2, .int .i64 r.f3, .int .i64 r.f4, .slice C5 (r.f5.length + 1) d5', .int .i64 cm, .slice (some ⟨g7, 0, none⟩) r.f7.length d7, .slice B8 r.f8.length d8, .slice B9 r.f9.length d9, .slice B10 r.f10.length d10, .int .i64 r.f11, .int .i64 r.f12] rfl).drew
              have hg10 := M10.blk_at 3 rfl
              refine bodyPost_ret (results_list (rs := [.cell 6 45, .tmp 7, .tmp 8, .tmp 9]) rfl (by simp) (.cell (w.heap.size + 1) 45 #[.int .i64 r.f0, .int .i64 r.f1, .int .i64 r.f2, .int .i64 r.f3, .int .i64 r.f4, .slice C5 (r.f5.length + 1) d5', .int .i64 cm, .slice (some ⟨g7, 0, none⟩) r.f7.length d7, .slice B8 r.f8.length d8, .slice B9 r.f9.length d9, .slice B10 r.f10.length d10, .int .i64 r.f11, .int .i64 r.f12] (0, 0) _ rfl hg10 Try.underlying45 rfl (by kernel_rfl) (.tmp (.tmp (.tmp .nil))))) rfl ?_
              have hcm := HCM.out
              subst hcm
              exact ⟨_, _, _, _, _, _, rfl, Mem.sel (ps := [_, _, _, _, _, _, _, _, _, _]) (F := []) [5, 6, 7, 8, 9, 2] 10 M10 rfl rfl⟩
end Go.Proofs.Ytggbjokhniigkaa.Wh
namespace Go.Proofs.Ytggbjokhniigkaa.Wi
open Ty Go.RowKit YtggbjokhniigkaaW.PrintWords YtggbjokhniigkaaW.PrintLast YtggbjokhniigkaaW.PrintMore Mx Kx Wa Wb Wc Wd We Wf Wh
theorem Propose_calls (r : Rep) (A5 A7 A8 A9 A10 : Option Addr) (c5 c7 c8 c9 c10 : Nat) (w : World) (h : RdRep w r A5 A7 A8 A9 A10) (hn : Small r) (time : Int) (data : ByteArray) (hs : data.size ≤ 1000000) (s : Rep) (msgs : List Msg) (kk code : Int) (hp : propose r time data = (s, msgs, kk, code)) :
    Calls Try.prog 34 #[.agg (rc r (.slice A5 r.f5.length c5) (.slice A7 r.f7.length c7) (.slice A8 r.f8.length c8) (.slice A9 r.f9.length c9) (.slice A10 r.f10.length c10)), .int .i64 time, .string data] w fun e w' => ∃ v5 v7 v8 v9 v10 vout : Value, e = .returned (.tuple #[.agg (rc s v5 v7 v8 v9 v10), vout, .int .i64 kk, .int .i64 code]) ∧ Mem w w' (rows s v5 v7 v8 v9 v10 ++ [row kM 29 vout msgs]) := by
  cases hx : (may r && below time && decide (data.size ≤ 20000)) with
  | false =>
    have hp1 := hp
    unfold propose at hp1
    rw [if_neg (by rw [hx]; simp)] at hp1
    cases hp1
    exact Propose_e1 r A5 A7 A8 A9 A10 c5 c7 c8 c9 c10 w h hn time data hs hx
  | true =>
    have hx1 := hx
    simp only [Bool.and_eq_true, decide_eq_true_eq] at hx1
    obtain ⟨⟨h1, h2⟩, h3⟩ := hx1
    by_cases hq : r.f4 = 0 ∧ r.f2 % r.f1 = r.f0
    · exact Propose_in r A5 A7 A8 A9 A10 c5 c7 c8 c9 c10 w h hn time data h3 h1 h2 hq.1 hq.2 s msgs kk code hp
    · have hp1 := hp
      unfold propose at hp1
      rw [if_pos hx, if_neg hq] at hp1
      cases hp1
      exact Propose_e17 r A5 A7 A8 A9 A10 c5 c7 c8 c9 c10 w h hn time data h3 h1 h2 hq
end Go.Proofs.Ytggbjokhniigkaa.Wi
namespace Go.Proofs.Ytggbjokhniigkaa.Wk
open Ty Go.RowKit YtggbjokhniigkaaW.PrintWords YtggbjokhniigkaaW.PrintLast YtggbjokhniigkaaW.PrintMore Mx Kx Wa Wb Wc Wd We Wf Wh Wi Wj PReplicaProposes
def dx : ByteArray := ⟨#[120]⟩
def r03 : Rep := ⟨0, 3, 0, 0, 0, [], 0, [0, 0, 0], [], [], [], -1, 0⟩
def s03 : Rep := ⟨0, 3, 0, 0, 0, [⟨5, dx⟩], 0, [1, 0, 0], [], [], [], -1, 0⟩
def l03 : List Msg := [⟨1, 0, 1, 0, 1, 0, 0, [⟨5, dx⟩]⟩, ⟨1, 0, 2, 0, 1, 0, 0, [⟨5, dx⟩]⟩]
theorem New03_calls (w : World) : Calls Try.prog 25 #[.int .i64 0, .int .i64 3] w fun e w' => ∃ (A7 : Option Addr) (c7 : Nat), e = .returned (.tuple #[.agg #[.int .i64 0, .int .i64 3, .int .i64 0, .int .i64 0, .int .i64 0, .slice none 0 0, .int .i64 0, .slice A7 3 c7, .slice none 0 0, .slice none 0 0, .slice none 0 0, .int .i64 (-1), .int .i64 0], .int .i64 0]) ∧ Kd.C (Kd.int .i64) w' A7 3 [0, 0, 0] ∧ Below w.heap.size w w' := by
  have M0 := Aside0.mk ((Mem.nil w).allocAt #[.int .i64 0, .int .i64 0, .int .i64 0, .int .i64 0, .int .i64 0, .slice none 0 0, .int .i64 0, .slice none 0 0, .slice none 0 0, .slice none 0 0, .slice none 0 0, .int .i64 0, .int .i64 0] 45 w.heap.size rfl)
  go_enter Try.func25, Try.ntmps25
  go_wp2_with (first | (go_at_call 64; refine (size_calls _ _).mono ?_; rintro e w' ⟨rfl, rfl⟩) | ((with_reducible refine gate_dst (N := 22) rfl ?_); refine Sa.Mem.make (Kd.int .i64) M0.out 3 rfl (N := 22) rfl 43 (.tmp 21) (.tmp 21) rfl 3 rfl rfl Try.underlying43 (.int .i64 0) 8 infoInt rfl (by decide) (by omega) 0 (fun _ _ => rfl) (by omega) (by decide) [0, 0, 0] rfl ?_; intro v1 w1 hM1; obtain ⟨g7, k7, he, hg7⟩ := hM1.int_form 0 rfl (by decide); simp only [List.length_cons, List.length_nil, Nat.zero_add, Nat.reduceAdd] at he; subst he; have M2 := Aside0.mk hM1; clear hM1; have cG := blk_cell (M2.out.blk_at 1 rfl); have fG := blk_frozen (M2.out.blk_at 1 rfl); have gG := blk_lt (M2.out.blk_at 1 rfl)))
  have MF := M2.out.setRow 1 rfl [.int .i64 0, .int .i64 3, .int .i64 0, .int .i64 0, .int .i64 0, .slice none 0 0, .int .i64 0, .slice (some ⟨g7, 0, none⟩) 3 k7, .slice none 0 0, .slice none 0 0, .slice none 0 0, .int .i64 (-1), .int .i64 0] rfl
  have hgF := MF.blk_at 1 rfl
  refine bodyPost_ret (results_list (rs := [.cell 4 45, .tmp 5]) rfl (by simp) (.cell w.heap.size 45 #[.int .i64 0, .int .i64 3, .int .i64 0, .int .i64 0, .int .i64 0, .slice none 0 0, .int .i64 0, .slice (some ⟨g7, 0, none⟩) 3 k7, .slice none 0 0, .slice none 0 0, .slice none 0 0, .int .i64 (-1), .int .i64 0] (0, 0) _ rfl hgF Try.underlying45 rfl (by kernel_rfl) (.tmp .nil))) rfl ?_
  exact ⟨_, _, rfl, MF.row_C 0 rfl, MF.below⟩
theorem propose03 : propose r03 5 dx = (s03, l03, 1, 0) := by rfl
theorem Propose03 (A5 A7 A8 A9 A10 : Option Addr) (c5 c7 c8 c9 c10 : Nat) (w : World) (h7 : Kd.C (Kd.int .i64) w A7 3 [0, 0, 0]) :
    Calls Try.prog 34 #[.agg #[.int .i64 0, .int .i64 3, .int .i64 0, .int .i64 0, .int .i64 0, .slice A5 0 c5, .int .i64 0, .slice A7 3 c7, .slice A8 0 c8, .slice A9 0 c9, .slice A10 0 c10, .int .i64 (-1), .int .i64 0], .int .i64 5, .string dx] w fun e w' => ∃ (B5 B7 B8 B9 B10 Bo : Option Addr) (d5 d7 d8 d9 d10 co : Nat), e = .returned (.tuple #[.agg #[.int .i64 0, .int .i64 3, .int .i64 0, .int .i64 0, .int .i64 0, .slice B5 1 d5, .int .i64 0, .slice B7 3 d7, .slice B8 0 d8, .slice B9 0 d9, .slice B10 0 d10, .int .i64 (-1), .int .i64 0], .slice Bo 2 co, .int .i64 1, .int .i64 0]) ∧ Below w.heap.size w w' := by
  refine (Propose_calls r03 A5 A7 A8 A9 A10 c5 c7 c8 c9 c10 w ⟨C_zero _, h7, C_zero _, C_zero _, C_zero _⟩ ⟨by decide, by decide, by decide, by decide, by decide⟩ 5 dx (by decide) s03 l03 1 0 propose03).mono ?_
  rintro e w' ⟨v5, v7, v8, v9, v10, vo, rfl, hM⟩
  obtain ⟨B5, d5, rfl, _, _⟩ := hM.row_at 0 rfl
  obtain ⟨B7, d7, rfl, _, _⟩ := hM.row_at 1 rfl
  obtain ⟨B8, d8, rfl, _, _⟩ := hM.row_at 2 rfl
  obtain ⟨B9, d9, rfl, _, _⟩ := hM.row_at 3 rfl
  obtain ⟨B10, d10, rfl, _, _⟩ := hM.row_at 4 rfl
  obtain ⟨Bo, co, rfl, _, _⟩ := hM.row_at 5 rfl
  exact ⟨B5, B7, B8, B9, B10, Bo, d5, d7, d8, d9, d10, co, rfl, hM.below⟩
theorem awake_calls (w : World) : Calls Try.prog 29 #[] w fun e w' => e = .returned (.bool true) ∧ Mem w w' [] := by
  have M0 := Aside0.mk (Mem.nil w)
  go_enter Try.func29, Try.ntmps29
  go_wp2_with fail
  refine (New03_calls _).mono ?_
  rintro e w1 ⟨A7, c7, rfl, h7, hb⟩
  have M1 := Aside0.mk (M0.out.grow hb)
  have H7 := Aside0.mk h7
  clear h7 hb
  go_wp2_with fail
  have M2 := Aside0.mk (M1.out.alloc #[.int .i64 0, .int .i64 3, .int .i64 0, .int .i64 0, .int .i64 0, .slice none 0 0, .int .i64 0, .slice A7 3 c7, .slice none 0 0, .slice none 0 0, .slice none 0 0, .int .i64 (-1), .int .i64 0] 45)
  refine (Propose03 none A7 none none none 0 c7 0 0 0 _ (Kd.C_below H7.out (below_alloc (Below.refl _ _) _))).mono ?_
  rintro e w2 ⟨B5, B7, B8, B9, B10, Bo, d5, d7, d8, d9, d10, co, rfl, hb⟩
  have M3 := Aside0.mk (M2.out.grow hb)
  clear hb
  go_wp2_with fail
  refine (falseworklaw11_num.calls 0 0 _ rfl).mono ?_
  rintro e w3 ⟨rfl, hD⟩
  have M4 := Aside0.mk ((M3.out.allocAt #[.int .i64 0, .int .i64 3, .int .i64 0, .int .i64 0, .int .i64 0, .slice B5 1 d5, .int .i64 0, .slice B7 3 d7, .slice B8 0 d8, .slice B9 0 d9, .slice B10 0 d10, .int .i64 (-1), .int .i64 0] 45 _ rfl).drawn hD)
  clear hD
  go_wp2_with fail
  refine (falseworklaw11_num.calls 0 0 _ rfl).mono ?_
  rintro e w4 ⟨rfl, hD⟩
  have M5 := Aside0.mk (M4.out.drawn hD)
  clear hD
  have cS := blk_cell (M5.out.blk_at 0 rfl)
  go_wp2
  go_ret
  exact ⟨rfl, Mem.sel (ps := [_, _]) (F := []) [] 2 M5.out rfl rfl⟩
end Go.Proofs.Ytggbjokhniigkaa.Wk
namespace Go.Proofs.Ytggbjokhniigkaa.Vc
open Ty Go.RowKit YtggbjokhniigkaaW.PrintWords YtggbjokhniigkaaW.PrintLast YtggbjokhniigkaaW.PrintMore Mx Kx Wa Wb Wc Wd Wj Wk Va Vb PReplicaProposes
/-- The lengths lie within the capacities. -/
structure Fit (r : Rep) (c5 c7 c8 c9 c10 : Nat) : Prop where
  h5 : r.f5.length ≤ c5
  h7 : r.f7.length ≤ c7
  h8 : r.f8.length ≤ c8
  h9 : r.f9.length ≤ c9
  h10 : r.f10.length ≤ c10
end Go.Proofs.Ytggbjokhniigkaa.Vc
