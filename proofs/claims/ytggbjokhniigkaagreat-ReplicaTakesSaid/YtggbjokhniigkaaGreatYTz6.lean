/- Texts laid together: Wj, Va, Vb, Wh, Wi, Ra, Rb. No condition. -/
import Derived.Test.YtggbjokhniigkaaGreatYTz5
set_option linter.unusedVariables false
set_option linter.unusedSimpArgs false
set_option maxRecDepth 100000
set_option maxHeartbeats 8000000
namespace Go.Proofs.YtggbjokhniigkaaGreat.Wj
open Ty Go.RowKit YtggbjokhniigkaaGreatW.PrintWords YtggbjokhniigkaaGreatW.PrintLast YtggbjokhniigkaaGreatW.PrintMore Mx Kx Wa Wb Wc Wd We Wf PReplicaTakes
abbrev SE := S68
def toS (e : Entry) : SE := ⟨e.f0, e.f1⟩
theorem C_toS {w : World} {A : Option Addr} {n : Nat} {l : List Entry} (h : Kd.C kE w A n l) : Kd.C k68 w A n (l.map toS) := by
  obtain ⟨h1, h2, h3⟩ := h
  refine ⟨by rw [List.length_map]; exact h1, by first | exact h2 | (rw [List.length_map]; exact h2), fun hp => ?_⟩
  obtain ⟨ad, e, hc⟩ := h3 hp
  refine ⟨ad, e, fun j p hj => ?_⟩
  rw [List.getElem?_map] at hj
  cases hl : l[j]? with
  | none => rw [hl] at hj; cases hj
  | some x =>
    rw [hl] at hj
    obtain rfl : toS x = p := by simpa using hj
    obtain ⟨c, g1, g2, g3⟩ := hc j x hl
    refine ⟨c, g1, ?_, g3⟩
    obtain rfl := kE_open g2
    exact k68_mk w (toS x)
theorem C_zero {α : Type} {w : World} {A : Option Addr} (d : Kd α) : Kd.C d w A 0 [] := ⟨rfl, by decide, fun h => absurd h (by decide)⟩
theorem R_form {α : Type} {d : Kd α} {e : Nat} {w w' : World} {v : Value} {xs : List α} {ok : Nat → Prop} (hb : Below w.heap.size w w') (h : d.R e w' w.heap.size ok v xs) : ∃ A c, v = .slice A xs.length c ∧ xs.length ≤ c ∧ d.C w' A xs.length xs :=
  ((Mem.nil w).fresh hb h).row_at 0 rfl
theorem wrap64_id {x : Int} (h : -9000000000000000000 ≤ x) (h2 : x ≤ 9000000000000000000) : wrap64 x = x := by
  unfold wrap64
  go_num
theorem wrap1 (j : Nat) (h : j ≤ 100000000) : wrap64 ((j : Int) + 1) = ((j + 1 : Nat) : Int) := by
  rw [wrap64_id (by omega) (by omega)]
  push_cast
  rfl
end Go.Proofs.YtggbjokhniigkaaGreat.Wj
namespace Go.Proofs.YtggbjokhniigkaaGreat.Va
open Ty Go.RowKit YtggbjokhniigkaaGreatW.PrintWords YtggbjokhniigkaaGreatW.PrintLast YtggbjokhniigkaaGreatW.PrintMore Mx Kx Wa Wb Wc Wj PReplicaTakes
/-! ### Great -/
theorem entries_l (l : List SE) : ∀ (n j : Nat) (x : Int), n = l.length - j → j ≤ l.length → (j : Int) ≤ x → x ≤ 200001 → ∃ b, falseworklaw11_entries.l0 (n + 1) l x j = some b ∧ (b = false → l.length ≤ 1200)
  | 0, j, x, h, hj, hx, hx2 => by
    unfold falseworklaw11_entries.l0
    rw [if_neg (by omega)]
    by_cases g : x > 100000
    · rw [if_pos g]
      exact ⟨true, rfl, fun h => by cases h⟩
    · rw [if_neg g]
      exact ⟨_, rfl, fun h => by have := of_decide_eq_false h; omega⟩
  | n + 1, j, x, h, hj, hx, hx2 => by
    unfold falseworklaw11_entries.l0
    rw [if_pos (show (j : Int) < (l.length : Int) by omega)]
    by_cases g : x ≤ 100000
    · obtain ⟨y, hy⟩ : ∃ y, mn (((rd_T68 l (j : Int)).f1).size : Int) 100000 = y := ⟨_, rfl⟩
      have hy1 : 0 ≤ y ∧ y ≤ 100000 := by
        rw [← hy]
        unfold mn
        split <;> omega
      rw [if_pos g, if_pos (by omega), hy, wrap64_id (x := x + 1) (by omega) (by omega), wrap64_id (x := x + 1 + y) (by omega) (by omega), wrap1 j (by omega)]
      exact entries_l l n (j + 1) (x + 1 + y) (by omega) (by omega) (by push_cast; omega) (by omega)
    · rw [if_neg g, if_pos (by omega)]
      exact ⟨true, rfl, fun h => by cases h⟩
theorem entries_f (l : List SE) : ∃ b, (∀ k, l.length < k → falseworklaw11_entries.f k l = some b) ∧ (b = false → l.length ≤ 1200) := by
  obtain ⟨b, h1, h2⟩ := entries_l l l.length 0 0 (by omega) (by omega) (by omega) (by omega)
  refine ⟨b, fun k hk => ?_, h2⟩
  have hm : ∀ d, falseworklaw11_entries.f (l.length + 1 + d) l = some b := by
    intro d
    induction d with
    | zero => exact h1
    | succ d ih => exact falseworklaw11_entries.mono l (l.length + 1 + d) b ih
  obtain ⟨d, rfl⟩ : ∃ d, k = l.length + 1 + d := ⟨k - (l.length + 1), by omega⟩
  exact hm d
/-! ### Entries -/
/-! ### rising -/
end Go.Proofs.YtggbjokhniigkaaGreat.Va
namespace Go.Proofs.YtggbjokhniigkaaGreat.Vb
end Go.Proofs.YtggbjokhniigkaaGreat.Vb
namespace Go.Proofs.YtggbjokhniigkaaGreat.Wh
open Ty Go.RowKit YtggbjokhniigkaaGreatW.PrintWords YtggbjokhniigkaaGreatW.PrintLast YtggbjokhniigkaaGreatW.PrintMore Mx Kx Wa Wb Wc Wd We Wh0
theorem lastTime_rd {l : List Entry} (h : 0 < l.length) : lastTime l = (rd_Entry l ((l.length : Int) - 1)).f0 := by
  have e : l.getLast? = some l[l.length - 1] := by rw [List.getLast?_eq_getElem?]; simp
  unfold lastTime
  rw [e]
  unfold rd_Entry
  rw [show ((l.length : Int) - 1).toNat = l.length - 1 by omega]
  simp [List.getD, show l.length - 1 < l.length by omega]
theorem rises_mem : ∀ {l : List Entry} {last : Int}, rises last l = true → ∀ e ∈ l, last < e.f0 ∧ e.f0 < maxTime ∧ e.f1.size ≤ 20000
  | [], _, _, _, h => by cases h
  | a :: l, last, h, e, he => by
    simp only [rises, Bool.and_eq_true, decide_eq_true_eq] at h
    rcases List.mem_cons.1 he with rfl | he
    · exact ⟨h.1.1.1, h.1.1.2, h.1.2⟩
    · have := rises_mem h.2 e he
      exact ⟨by omega, this.2⟩
theorem rd_time {l : List Entry} (hl : log l = true) (h : 0 < l.length) : 0 < (rd_Entry l ((l.length : Int) - 1)).f0 ∧ (rd_Entry l ((l.length : Int) - 1)).f0 < 1099511627776 := by
  unfold log at hl
  simp only [Bool.and_eq_true] at hl
  have hm : rd_Entry l ((l.length : Int) - 1) ∈ l := by
    unfold rd_Entry
    rw [show ((l.length : Int) - 1).toNat = l.length - 1 by omega]
    simp [List.getD, show l.length - 1 < l.length by omega]
  have := rises_mem hl.1 _ hm
  unfold maxTime at this
  exact ⟨this.1, this.2.1⟩
theorem Propose_in (r : Rep) (A5 A7 A8 A9 A10 : Option Addr) (c5 c7 c8 c9 c10 : Nat) (w : World) (h : RdRep w r A5 A7 A8 A9 A10) (hn : Small r) (time : Int) (data : ByteArray) (hs : data.size ≤ 20000) (h1 : may r = true) (h2 : below time = true) (h4 : r.f4 = 0) (h5 : r.f2 % r.f1 = r.f0) (s : Rep) (msgs : List Msg) (kk code : Int) (hpp : propose r time data = (s, msgs, kk, code)) :
    Calls Tryz.prog 62 #[.agg (rc r (.slice A5 r.f5.length c5) (.slice A7 r.f7.length c7) (.slice A8 r.f8.length c8) (.slice A9 r.f9.length c9) (.slice A10 r.f10.length c10)), .int .i64 time, .string data] w fun e w' => ∃ v5 v7 v8 v9 v10 vout : Value, e = .returned (.tuple #[.agg (rc s v5 v7 v8 v9 v10), vout, .int .i64 kk, .int .i64 code]) ∧ Mem w w' (rows s v5 v7 v8 v9 v10 ++ [row kM 27 vout msgs]) := by
  have hp := (may_iff r).1 h1
  have hn0 : 0 < r.f1 ∧ r.f1 ≤ 5 := by
    have := hp.1
    unfold size at this
    simp at this
    omega
  have hv : 0 ≤ r.f2 ∧ r.f2 < 1099511627776 := by
    have := hp.2.2.2.1
    unfold below maxTime at this
    simpa using this
  have ht : 0 ≤ time ∧ time < 1099511627776 := by
    unfold below maxTime at h2
    simpa using h2
  have HP := Aside0.mk hp
  clear hp
  obtain ⟨hn1, hn5⟩ := hn0
  obtain ⟨hv1, hv2⟩ := hv
  obtain ⟨ht1, ht2⟩ := ht
  have H := Aside0.mk h
  have HN := Aside0.mk hn
  have M0 := Aside0.mk (Mem.nil w)
  have M1 := Aside0.mk ((M0.out.alloc (Kx.rA r A5 A7 A8 A9 A10 c5 c7 c8 c9 c10) 25).allocAt #[.int .i64 0, .int .i64 0, .int .i64 0, .int .i64 0, .int .i64 0, .slice none 0 0, .int .i64 0, .slice none 0 0, .slice none 0 0, .slice none 0 0, .slice none 0 0, .int .i64 0, .int .i64 0] 25 (w.heap.size + 1) (by simp))
  clear h hn
  unfold rc
  unfold propose at hpp
  rw [if_pos (show (may r && below time && decide (data.size ≤ 20000)) = true by rw [h1, h2]; simpa using hs), if_pos ⟨h4, h5⟩] at hpp
  have HPP := Aside0.mk hpp
  clear hpp
  have H4 := Aside0.mk h4
  have H5 := Aside0.mk h5
  have e4 : (r.f4 == 0) = true := by simpa using h4
  have e4' : (r.f4 != 0) = false := by simpa using h4
  have e5 : (r.f2 % r.f1 == r.f0) = true := by simpa using h5
  have e5' : (r.f2 % r.f1 != r.f0) = false := by simpa using h5
  clear h4 h5
  go_enter Tryz.func62, Tryz.ntmps62
  go_wp2_with fail
  refine (May_calls r A5 A7 A8 A9 A10 c5 c7 c8 c9 c10 _ (Kd.C_below H.out.h5 M1.out.below) (Kd.C_below H.out.h7 M1.out.below) (Kd.C_below H.out.h8 M1.out.below) (Kd.C_below H.out.h9 M1.out.below) (Kd.C_below H.out.h10 M1.out.below) HN.out).mono ?_
  rintro e w1 ⟨rfl, hM⟩
  have M2 := Aside0.mk (M1.out.trans hM)
  clear hM
  have cB := blk_cell (M2.out.blk_at 1 rfl)
  go_wp2_with (go_at_call 96; refine (below_calls _ _).mono ?_; rintro e w' ⟨rfl, rfl⟩)
  refine (copied_calls r A5 A7 A8 A9 A10 c5 c7 c8 c9 c10 _ (H.out.below M2.out.below) HN.out).mono ?_
  rintro e w2 ⟨v5, v7, v8, v9, v10, rfl, hM⟩
  unfold rc
  obtain ⟨B5, d5, rfl, _, _⟩ := hM.row_at 0 rfl
  obtain ⟨B7, d7, rfl, _, _⟩ := hM.row_at 1 rfl
  obtain ⟨B8, d8, rfl, _, _⟩ := hM.row_at 2 rfl
  obtain ⟨B9, d9, rfl, _, _⟩ := hM.row_at 3 rfl
  obtain ⟨B10, d10, rfl, _, _⟩ := hM.row_at 4 rfl
  have M3 := Aside0.mk (Mem.sel (ps := [_, _, _, _, _, _, _]) (F := []) [5, 6, 0, 1, 2, 3, 4] 7 (M2.out.trans hM) rfl rfl)
  clear hM
  obtain ⟨g7, k7, he7, hg7⟩ := M3.out.int_form 3 rfl (by have := HP.out.2.2.2.2.2.2.2.2.2.2.2.2.1; omega)
  injection he7 with q1 _ q3
  subst q1
  subst q3
  clear cB
  have hb0 := blk_lt (M3.out.blk_at 1 rfl)
  have hb1 := blk_lt (M3.out.blk_at 0 rfl)
  have M4 := Aside0.mk (M3.out.alloc #[.int .i64 r.f0, .int .i64 r.f1, .int .i64 r.f2, .int .i64 r.f3, .int .i64 r.f4, .slice B5 r.f5.length d5, .int .i64 r.f6, .slice (some ⟨g7, 0, none⟩) r.f7.length d7, .slice B8 r.f8.length d8, .slice B9 r.f9.length d9, .slice B10 r.f10.length d10, .int .i64 r.f11, .int .i64 r.f12, .slice none 0 0] 95)
  have cR := fun j => blk_cell (M3.out.blk_at 1 rfl) j
  have cC := fun j => blk_cell (M3.out.blk_at 0 rfl) j
  have fC := fun j => blk_frozen (M3.out.blk_at 0 rfl) j
  go_wp2_with fail
  have hW := M4.out.blk_at 0 rfl
  go_quiet ((go_at_call 97; exact primary_quiet _ _ w2.heap.size r.f0 r.f1 r.f2 r.f3 r.f4 _ r.f6 _ _ _ _ r.f11 r.f12 _ r.f2 hW hv1 (by omega) hn1 hn5))
  clear hW
  go_upto_if 56 with (fail)
  go_cut [11] (fun s11 wx => s11 = .int .i64 (nextTime r.f5 time) ∧ Aside0 (Mem w wx [blk w2.heap.size 95 #[.int .i64 r.f0, .int .i64 r.f1, .int .i64 r.f2, .int .i64 r.f3, .int .i64 r.f4, .slice B5 r.f5.length d5, .int .i64 r.f6, .slice (some ⟨g7, 0, none⟩) r.f7.length d7, .slice B8 r.f8.length d8, .slice B9 r.f9.length d9, .slice B10 r.f10.length d10, .int .i64 r.f11, .int .i64 r.f12, .slice none 0 0], blk (w.heap.size + 1) 25 #[.int .i64 0, .int .i64 0, .int .i64 0, .int .i64 0, .int .i64 0, .slice none 0 0, .int .i64 0, .slice none 0 0, .slice none 0 0, .slice none 0 0, .slice none 0 0, .int .i64 0, .int .i64 0], blk w.heap.size 25 (Kx.rA r A5 A7 A8 A9 A10 c5 c7 c8 c9 c10), row kE 68 (.slice B5 r.f5.length d5) r.f5, row (Kd.int .i64) 3 (.slice (some ⟨g7, 0, none⟩) r.f7.length d7) r.f7, row (Kd.int .i64) 3 (.slice B8 r.f8.length d8) r.f8, row (Kd.int .i64) 3 (.slice B9 r.f9.length d9) r.f9, row kE 68 (.slice B10 r.f10.length d10) r.f10]))
  case first =>
    by_cases hz : 0 < r.f5.length
    · have hz1 : decide (0 < (r.f5.length : Int)) = true := decide_eq_true (by omega)
      obtain ⟨ad, e, hx0, hx1⟩ := at_Entry H.out.h5 ((r.f5.length : Int) - 1) (by omega) (by omega)
      cases e
      clear hx1
      have hbl := World.block_lt_of_cell? w _ hx0
      have hx2 := (M3.out.below.cell hbl).trans hx0
      have hbl2 := World.block_lt_of_cell? w2 _ hx2
      have hbl3 : ¬ (ad.add (((r.f5.length : Int) - 1).toNat * 2)).block = w2.heap.size := by omega
      clear hx0 hbl
      rw [show ((r.f5.length : Int) - 1).toNat = r.f5.length - 1 by omega] at hx2 hbl2 hbl3
      have n5 := HN.out.1
      have HT := Aside0.mk (lastTime_rd hz)
      have hb := rd_time HP.out.2.2.2.2.2.2.2.2.2.1 hz
      generalize (rd_Entry r.f5 ((r.f5.length : Int) - 1)).f0 = lt at *
      obtain ⟨hb1', hb2'⟩ := hb
      obtain ⟨t1, ht1⟩ : ∃ t1, (if time < 1 then 1 else time) = t1 := ⟨_, rfl⟩
      have ht1b : 0 < t1 := by rw [← ht1]; split <;> omega
      have HT1 := Aside0.mk ht1
      obtain ⟨tm, htm⟩ : ∃ tm, (if t1 < lt + 1 then lt + 1 else t1) = tm := ⟨_, rfl⟩
      have HTM := Aside0.mk (show nextTime r.f5 time = tm by
        unfold nextTime
        rw [if_neg (by omega), HT.out, ← htm, ← HT1.out]
        split <;> split <;> omega)
      go_wp2_with fail
      all_goals
        go_meet
        case rel => exact ⟨by rw [HTM.out], ⟨M4.out.drewN nq⟩⟩
    · have hz1 : decide (0 < (r.f5.length : Int)) = false := decide_eq_false (by omega)
      have HTM := Aside0.mk (show nextTime r.f5 time = (if time < 1 then 1 else time) by
        unfold nextTime
        rw [if_pos (by omega)]
        split <;> omega)
      go_wp2_with fail
      all_goals
        go_meet
        case rel => exact ⟨by rw [HTM.out]; first | rfl | (rw [if_pos (by omega)]; done) | (rw [if_neg (by omega)]; done), ⟨M4.out.drewN nq⟩⟩
  case rest =>
    obtain ⟨rfl, M5⟩ := hcut
    clear M4 M2 M1 M0 cC fC cR hb0 hb1 e4 e4' e5 e5' ht1 ht2
    have n5 := HN.out.1
    obtain ⟨tm, htm⟩ : ∃ tm, nextTime r.f5 time = tm := ⟨_, rfl⟩
    have hpp := HPP.out
    rw [htm] at hpp
    rw [htm]
    clear HPP htm
    have cR := blk_cell (M5.out.blk_at 2 rfl)
    have cW := blk_cell (M5.out.blk_at 0 rfl)
    have cZ := blk_cell (M5.out.blk_at 1 rfl)
    have hbW := blk_lt (M5.out.blk_at 0 rfl)
    have hbZ := blk_lt (M5.out.blk_at 1 rfl)
    have hbR := blk_lt (M5.out.blk_at 2 rfl)
    have fZ := blk_frozen (M5.out.blk_at 1 rfl)
    by_cases hf : r.f5.length = 1000 ∨ maxTime ≤ tm
    · rw [if_pos hf] at hpp
      cases hpp
      have hf2 : ((r.f5.length : Int) == 1000) = true ∨ (((r.f5.length : Int) == 1000) = false ∧ decide (1099511627776 ≤ tm) = true) := by
        by_cases h : r.f5.length = 1000
        · left
          simp
          omega
        · right
          refine ⟨by simp; omega, decide_eq_true ?_⟩
          have := hf.resolve_left h
          unfold maxTime at this
          exact this
      clear hf
      rcases hf2 with hf1 | ⟨hf1, hf2⟩
      all_goals
        go_wp2
        have M6 := M5.out.setRow 1 rfl [.int .i64 r.f0, .int .i64 r.f1, .int .i64 r.f2, .int .i64 r.f3, .int .i64 r.f4, .slice B5 r.f5.length d5, .int .i64 r.f6, .slice (some ⟨g7, 0, none⟩) r.f7.length d7, .slice B8 r.f8.length d8, .slice B9 r.f9.length d9, .slice B10 r.f10.length d10, .int .i64 r.f11, .int .i64 r.f12] rfl
        have hg6 := M6.blk_at 1 rfl
        refine bodyPost_ret (results_list (rs := [.cell 6 25, .tmp 7, .tmp 8, .tmp 9]) rfl (by simp) (.cell (w.heap.size + 1) 25 #[.int .i64 r.f0, .int .i64 r.f1, .int .i64 r.f2, .int .i64 r.f3, .int .i64 r.f4, .slice B5 r.f5.length d5, .int .i64 r.f6, .slice (some ⟨g7, 0, none⟩) r.f7.length d7, .slice B8 r.f8.length d8, .slice B9 r.f9.length d9, .slice B10 r.f10.length d10, .int .i64 r.f11, .int .i64 r.f12] (0, 0) _ rfl hg6 Tryz.underlying25 rfl (by kernel_rfl) (.tmp (.tmp (.tmp .nil))))) rfl ?_
        exact ⟨_, _, _, _, _, _, rfl, Mem.sel (ps := [_, _, _, _, _, _, _, _, _]) (F := []) [4, 5, 6, 7, 8, 0] 9 (Mem.row_nil M6 kM 27) rfl rfl⟩
    rw [if_neg hf] at hpp
    cases hpp
    have f1 : ¬ r.f5.length = 1000 := fun h => hf (.inl h)
    have f2 : tm < 1099511627776 := by
      have : ¬ maxTime ≤ tm := fun h => hf (.inr h)
      unfold maxTime at this
      omega
    have e10 : ((r.f5.length : Int) == 1000) = false := by simp; omega
    have e11 : decide (1099511627776 ≤ tm) = false := decide_eq_false (by omega)
    clear hf f1 f2
    go_upto_region 13 with (fail)
    go_cut [] (fun wx => ∃ (C5 : Option Addr) (d5' ge : Nat), Aside0 (ge = wc.heap.size) ∧ Aside0 (Mem w wx [blk ge 68 #[.int .i64 tm, .string data], blk w2.heap.size 95 #[.int .i64 r.f0, .int .i64 r.f1, .int .i64 r.f2, .int .i64 r.f3, .int .i64 r.f4, .slice C5 (r.f5.length + 1) d5', .int .i64 r.f6, .slice (some ⟨g7, 0, none⟩) r.f7.length d7, .slice B8 r.f8.length d8, .slice B9 r.f9.length d9, .slice B10 r.f10.length d10, .int .i64 r.f11, .int .i64 r.f12, .slice none 0 0], blk (w.heap.size + 1) 25 #[.int .i64 0, .int .i64 0, .int .i64 0, .int .i64 0, .int .i64 0, .slice none 0 0, .int .i64 0, .slice none 0 0, .slice none 0 0, .slice none 0 0, .slice none 0 0, .int .i64 0, .int .i64 0], blk w.heap.size 25 (Kx.rA r A5 A7 A8 A9 A10 c5 c7 c8 c9 c10), row kE 68 (.slice C5 (r.f5.length + 1) d5') (r.f5 ++ [⟨tm, data⟩]), row (Kd.int .i64) 3 (.slice (some ⟨g7, 0, none⟩) r.f7.length d7) r.f7, row (Kd.int .i64) 3 (.slice B8 r.f8.length d8) r.f8, row (Kd.int .i64) 3 (.slice B9 r.f9.length d9) r.f9, row kE 68 (.slice B10 r.f10.length d10) r.f10]))
    case first =>
      have A5 := Aside0.mk ((M5.out.allocAt #[.int .i64 tm, .string data] 68 wc.heap.size rfl).drew)
      have A6 := Aside0.mk (A5.out.allocAt #[.int .i64 tm, .string data] 68 (wc.heap.size + 1) (by simp))
      have cE := blk_cell (A5.out.blk_at 0 rfl)
      go_region_law (refine Mem.app_step kE (Rr := fun x c => x = (⟨tm, data⟩ : Entry) ∧ c = [.int .i64 tm, .string data]) A6.out 5 _ r.f5 [⟨tm, data⟩] (by rfl) (.tmp 87) (.tmp 89) 22 68 _ _ rfl Tryz.underlying22 infoEntry rfl (by decide) (by omega) (some ⟨wc.heap.size + 1, 0, none⟩) 1 1 (by simp [Act.eval, Act.put]) (by simp [Act.eval, Act.put]) rfl (reads_one (⟨tm, data⟩ : Entry) (A6.out.blk_at 0 rfl) rfl) (fun x c h => by obtain ⟨rfl, rfl⟩ := h; exact kE_mkM _ _ _ ⟨tm, data⟩) (by omega) ?_; intro v1 w3 hM; have M7 := Aside0.mk hM; clear hM; obtain ⟨C5, d5', he, hc3, _⟩ := M7.out.row_at 5 rfl; rw [List.length_append, List.length_singleton] at he; subst he; have cG3 := blk_cell (M7.out.blk_at 2 rfl); have fG3 := blk_frozen (M7.out.blk_at 2 rfl); clear hc3)
      all_goals
        go_wp2_with fail
        go_meet
        case rel => exact ⟨C5, d5', wc.heap.size, ⟨rfl⟩, ⟨Mem.sel (ps := [_, _, _, _, _, _, _, _, _, _]) (F := []) [1, 2, 3, 4, 5, 6, 7, 8, 9] 10 (M7.out.set 2 rfl 5 (.slice C5 (r.f5.length + 1) d5')) rfl rfl⟩⟩
    case rest =>
      obtain ⟨C5, d5', ge, hge, M6⟩ := hcut
      clear M5 cR cW cZ fZ hbW hbZ hbR
      rw [← hge.out]
      clear hge
      have cR := blk_cell (M6.out.blk_at 3 rfl)
      have cW := blk_cell (M6.out.blk_at 1 rfl)
      have fW := blk_frozen (M6.out.blk_at 1 rfl)
      have hi0 : 0 ≤ r.f0 := HP.out.2.1
      have hi1 : r.f0 < (r.f7.length : Int) := by have := HP.out.2.2.1; have := HP.out.2.2.2.2.2.2.2.2.2.2.2.2.1; omega
      have x7 := (M6.out.int_cell 5 rfl r.f0 hi0 hi1).1
      have y7 := (M6.out.int_cell 5 rfl r.f0 hi0 hi1).2
      have hi2 : (r.f0 < (r.f7.length : Int)) = True := eq_true hi1
      go_upto_region 15 with (fail)
      go_cut [] (fun wx => Aside0 (Mem w wx [blk ge 68 #[.int .i64 tm, .string data], blk w2.heap.size 95 #[.int .i64 r.f0, .int .i64 r.f1, .int .i64 r.f2, .int .i64 r.f3, .int .i64 r.f4, .slice C5 (r.f5.length + 1) d5', .int .i64 r.f6, .slice (some ⟨g7, 0, none⟩) r.f7.length d7, .slice B8 r.f8.length d8, .slice B9 r.f9.length d9, .slice B10 r.f10.length d10, .int .i64 r.f11, .int .i64 r.f12, .slice none 0 0], blk (w.heap.size + 1) 25 #[.int .i64 0, .int .i64 0, .int .i64 0, .int .i64 0, .int .i64 0, .slice none 0 0, .int .i64 0, .slice none 0 0, .slice none 0 0, .slice none 0 0, .slice none 0 0, .int .i64 0, .int .i64 0], blk w.heap.size 25 (Kx.rA r A5 A7 A8 A9 A10 c5 c7 c8 c9 c10), row kE 68 (.slice C5 (r.f5.length + 1) d5') (r.f5 ++ [⟨tm, data⟩]), row (Kd.int .i64) 3 (.slice (some ⟨g7, 0, none⟩) r.f7.length d7) (r.f7.set r.f0.toNat ((r.f5.length : Int) + 1)), row (Kd.int .i64) 3 (.slice B8 r.f8.length d8) r.f8, row (Kd.int .i64) 3 (.slice B9 r.f9.length d9) r.f9, row kE 68 (.slice B10 r.f10.length d10) r.f10]))
      case first =>
        go_region
        all_goals
          go_wp2_with fail
          go_meet
          case rel => exact ⟨M6.out.drew.int_put 5 rfl r.f0 ((r.f5.length : Int) + 1)⟩
      case rest =>
        have M7 := hcut
        clear hcut M6 cR cW fW x7 y7 hi2
        have cR := blk_cell (M7.out.blk_at 3 rfl)
        have cW := blk_cell (M7.out.blk_at 1 rfl)
        have fW := blk_frozen (M7.out.blk_at 1 rfl)
        go_upto_if 111 with (fail)
        go_cut [] (fun wx => ∃ cm : Int, cm = (if r.f1 = 1 then (r.f5.length : Int) + 1 else r.f6) ∧ Aside0 (Mem w wx [blk ge 68 #[.int .i64 tm, .string data], blk w2.heap.size 95 #[.int .i64 r.f0, .int .i64 r.f1, .int .i64 r.f2, .int .i64 r.f3, .int .i64 r.f4, .slice C5 (r.f5.length + 1) d5', .int .i64 cm, .slice (some ⟨g7, 0, none⟩) r.f7.length d7, .slice B8 r.f8.length d8, .slice B9 r.f9.length d9, .slice B10 r.f10.length d10, .int .i64 r.f11, .int .i64 r.f12, .slice none 0 0], blk (w.heap.size + 1) 25 #[.int .i64 0, .int .i64 0, .int .i64 0, .int .i64 0, .int .i64 0, .slice none 0 0, .int .i64 0, .slice none 0 0, .slice none 0 0, .slice none 0 0, .slice none 0 0, .int .i64 0, .int .i64 0], blk w.heap.size 25 (Kx.rA r A5 A7 A8 A9 A10 c5 c7 c8 c9 c10), row kE 68 (.slice C5 (r.f5.length + 1) d5') (r.f5 ++ [⟨tm, data⟩]), row (Kd.int .i64) 3 (.slice (some ⟨g7, 0, none⟩) r.f7.length d7) (r.f7.set r.f0.toNat ((r.f5.length : Int) + 1)), row (Kd.int .i64) 3 (.slice B8 r.f8.length d8) r.f8, row (Kd.int .i64) 3 (.slice B9 r.f9.length d9) r.f9, row kE 68 (.slice B10 r.f10.length d10) r.f10]))
        case first =>
          by_cases h1f : r.f1 = 1
          · have hq : (r.f1 == 1) = true := by simpa using h1f
            go_wp2_with fail
            go_meet
            case rel => exact ⟨(r.f5.length : Int) + 1, by rw [if_pos h1f], ⟨M7.out.set 1 rfl 6 (.int .i64 ((r.f5.length : Int) + 1))⟩⟩
          · have hq : (r.f1 == 1) = false := by simpa using h1f
            go_wp2_with fail
            go_meet
            case rel => exact ⟨r.f6, by rw [if_neg h1f], M7⟩
        case rest =>
          obtain ⟨cm, hcm, M8⟩ := hcut
          have HCM := Aside0.mk hcm
          clear hcm M7 cR cW fW
          have cE := blk_cell (M8.out.blk_at 0 rfl)
          have cW := blk_cell (M8.out.blk_at 1 rfl)
          have hbE := blk_lt (M8.out.blk_at 0 rfl)
          have hbW := blk_lt (M8.out.blk_at 1 rfl)
          have nE : ¬ ge = w2.heap.size := blk_ne M8.out 0 1 rfl rfl (by decide)
          go_upto_region 18 with (fail)
          go_cut [] (fun wx => ∃ vo : Value, Aside0 (Mem w wx [blk ge 68 #[.int .i64 tm, .string data], blk w2.heap.size 95 #[.int .i64 r.f0, .int .i64 r.f1, .int .i64 r.f2, .int .i64 r.f3, .int .i64 r.f4, .slice C5 (r.f5.length + 1) d5', .int .i64 cm, .slice (some ⟨g7, 0, none⟩) r.f7.length d7, .slice B8 r.f8.length d8, .slice B9 r.f9.length d9, .slice B10 r.f10.length d10, .int .i64 r.f11, .int .i64 r.f12, vo], row kM 27 vo (toAll r ⟨1, 0, 0, 0, (r.f5.length : Int) + 1, cm, 0, [⟨tm, data⟩]⟩), blk (w.heap.size + 1) 25 #[.int .i64 0, .int .i64 0, .int .i64 0, .int .i64 0, .int .i64 0, .slice none 0 0, .int .i64 0, .slice none 0 0, .slice none 0 0, .slice none 0 0, .slice none 0 0, .int .i64 0, .int .i64 0], blk w.heap.size 25 (Kx.rA r A5 A7 A8 A9 A10 c5 c7 c8 c9 c10), row kE 68 (.slice C5 (r.f5.length + 1) d5') (r.f5 ++ [⟨tm, data⟩]), row (Kd.int .i64) 3 (.slice (some ⟨g7, 0, none⟩) r.f7.length d7) (r.f7.set r.f0.toNat ((r.f5.length : Int) + 1)), row (Kd.int .i64) 3 (.slice B8 r.f8.length d8) r.f8, row (Kd.int .i64) 3 (.slice B9 r.f9.length d9) r.f9, row kE 68 (.slice B10 r.f10.length d10) r.f10]))
          case first =>
            have CALL := prop_all r B8 B9 B10 C5 d7 d8 d9 d10 d5' g7 ge w2.heap.size w wc tm cm data A5 A7 A8 A9 A10 c5 c7 c8 c9 c10 M8.out hn1 hn5
            go_region_with (go_at_call 98; refine CALL.mono ?_; rintro e w9 ⟨vo, rfl, hM⟩; have M9 := Aside0.mk hM; clear hM)
            all_goals
              go_wp2_with fail
              go_meet
              case rel => exact ⟨vo, ⟨Mem.sel (ps := [_, _, _, _, _, _, _, _, _, _, _]) (F := []) [3, 1, 2, 4, 5, 6, 7, 8, 9, 10] 11 M9.out rfl rfl⟩⟩
          case rest =>
            obtain ⟨vo, M9⟩ := hcut
            clear M8 cE cW hbE hbW nE
            have cW := blk_cell (M9.out.blk_at 1 rfl)
            have cZ := blk_cell (M9.out.blk_at 3 rfl)
            have fZ := blk_frozen (M9.out.blk_at 3 rfl)
            have nWZ := blk_ne M9.out 1 3 rfl rfl (by decide)
            go_upto_region 19 with (fail)
            go_region
            all_goals
              go_wp2
              have M10 := (M9.out.setRow 3 rfl [.int .i64 r.f0, .int .i64 r.f1, .int .i64 r.f2, .int .i64 r.f3, .int .i64 r.f4, .slice C5 (r.f5.length + 1) d5', .int .i64 cm, .slice (some ⟨g7, 0, none⟩) r.f7.length d7, .slice B8 r.f8.length d8, .slice B9 r.f9.length d9, .slice B10 r.f10.length d10, .int .i64 r.f11, .int .i64 r.f12] rfl).drew
              have hg10 := M10.blk_at 3 rfl
              refine bodyPost_ret (results_list (rs := [.cell 6 25, .tmp 7, .tmp 8, .tmp 9]) rfl (by simp) (.cell (w.heap.size + 1) 25 #[.int .i64 r.f0, .int .i64 r.f1, .int .i64 r.f2, .int .i64 r.f3, .int .i64 r.f4, .slice C5 (r.f5.length + 1) d5', .int .i64 cm, .slice (some ⟨g7, 0, none⟩) r.f7.length d7, .slice B8 r.f8.length d8, .slice B9 r.f9.length d9, .slice B10 r.f10.length d10, .int .i64 r.f11, .int .i64 r.f12] (0, 0) _ rfl hg10 Tryz.underlying25 rfl (by kernel_rfl) (.tmp (.tmp (.tmp .nil))))) rfl ?_
              have hcm := HCM.out
              subst hcm
              exact ⟨_, _, _, _, _, _, rfl, Mem.sel (ps := [_, _, _, _, _, _, _, _, _, _]) (F := []) [5, 6, 7, 8, 9, 2] 10 M10 rfl rfl⟩
end Go.Proofs.YtggbjokhniigkaaGreat.Wh
namespace Go.Proofs.YtggbjokhniigkaaGreat.Wi
open Ty Go.RowKit YtggbjokhniigkaaGreatW.PrintWords YtggbjokhniigkaaGreatW.PrintLast YtggbjokhniigkaaGreatW.PrintMore Mx Kx Wa Wb Wc Wd We Wf Wh
theorem Propose_calls (r : Rep) (A5 A7 A8 A9 A10 : Option Addr) (c5 c7 c8 c9 c10 : Nat) (w : World) (h : RdRep w r A5 A7 A8 A9 A10) (hn : Small r) (time : Int) (data : ByteArray) (hs : data.size ≤ 1000000) (s : Rep) (msgs : List Msg) (kk code : Int) (hp : propose r time data = (s, msgs, kk, code)) :
    Calls Tryz.prog 62 #[.agg (rc r (.slice A5 r.f5.length c5) (.slice A7 r.f7.length c7) (.slice A8 r.f8.length c8) (.slice A9 r.f9.length c9) (.slice A10 r.f10.length c10)), .int .i64 time, .string data] w fun e w' => ∃ v5 v7 v8 v9 v10 vout : Value, e = .returned (.tuple #[.agg (rc s v5 v7 v8 v9 v10), vout, .int .i64 kk, .int .i64 code]) ∧ Mem w w' (rows s v5 v7 v8 v9 v10 ++ [row kM 27 vout msgs]) := by
  cases hx : (may r && below time && decide (data.size ≤ 20000)) with
  | false =>
    have hp1 := hp
    unfold propose at hp1
    rw [if_neg (by rw [hx]; simp)] at hp1
    cases hp1
    exact Propose_e1 r A5 A7 A8 A9 A10 c5 c7 c8 c9 c10 w h hn time data hs hx
  | true =>
    have hx1 := hx
    simp only [Bool.and_eq_true, decide_eq_true_eq] at hx1
    obtain ⟨⟨h1, h2⟩, h3⟩ := hx1
    by_cases hq : r.f4 = 0 ∧ r.f2 % r.f1 = r.f0
    · exact Propose_in r A5 A7 A8 A9 A10 c5 c7 c8 c9 c10 w h hn time data h3 h1 h2 hq.1 hq.2 s msgs kk code hp
    · have hp1 := hp
      unfold propose at hp1
      rw [if_pos hx, if_neg hq] at hp1
      cases hp1
      exact Propose_e17 r A5 A7 A8 A9 A10 c5 c7 c8 c9 c10 w h hn time data h3 h1 h2 hq
end Go.Proofs.YtggbjokhniigkaaGreat.Wi
namespace Go.Proofs.YtggbjokhniigkaaGreat.Ra
open Go.RowKit YtggbjokhniigkaaGreatW.PrintWords YtggbjokhniigkaaGreatW.PrintLast YtggbjokhniigkaaGreatW.PrintMore Mx
theorem lt_kept {w w' : World} {k : Nat} (h : w'.heap[k]? = w.heap[k]?) (hk : k < w.heap.size) : k < w'.heap.size := by
  rcases Nat.lt_or_ge k w'.heap.size with g | g
  · exact g
  · rw [Array.getElem?_eq_none g, Array.getElem?_eq_getElem hk] at h
    cases h
def andF {β : Type} (r : Res) (d : Kd β) (A : Option Addr) (n : Nat) (ys : List β) : Res where
  holds w fp := r.holds w fp ∧ Kd.F d w fp A n ys
  move hm h := ⟨r.move hm h.1, fun W' hW => h.2 W' (fun k hk hl => (hW k hk (lt_kept (hm k hk) hl)).trans (hm k hk))⟩
  mono hm h := ⟨r.mono hm h.1, fun W' hW => h.2 W' (fun k hk hl => hW k (hm k hk) hl)⟩
theorem F_row {β : Type} {d : Kd β} {e : Nat} {A : Option Addr} {n c : Nat} {ys : List β} {w : World} {f : Nat → Prop} (h : (row d e (.slice A n c) ys).holds w f) : Kd.F d w f A ys.length ys :=
  fun W' hW => (Kd.R_reads' (Kd.R_move (Kd.R_bound h) (fun k hk => hW k hk.1 hk.2.2.1))).2.2
theorem Mem.andF_C {w0 w : World} {rs : List Res} {β : Type} {r : Res} {d : Kd β} {A : Option Addr} {n : Nat} {ys : List β} (h : Mem w0 w rs) (i : Nat) (hi : rs[i]? = some (andF r d A n ys)) : d.C w A n ys :=
  (h.hold hi).2 w (fun _ _ _ => rfl)
section
variable {P : Program} {ops : Array Oper} {rest : List Oper} {o : Oper} {a : Act} {Q : Exit → Act → World → Prop} {Kc : Act → World → Prop} {α β : Type}
theorem app1F (d : Kd α) (dd : Kd β) {w0 W : World} {rs : List Res} (hM : Mem w0 W rs) (i j b : Nat) (v : Value) (xs : List α) (p : α) (cs : List Value) (A : Option Addr) (n : Nat) (ys : List β) (g c : Nat) (hij : i ≠ j) (hgd : o.guard = none) (s x : Operand) (t e : TypeId) (z : Value) (bytes : Nat)
    (ho : o.op = .call { callee := .builtin .append, args := #[s, x], argTypes := #[t, t] })
    (ht : P.underlying t = some (.slice e)) (hinfo : (P.info? e).map (fun i => (i.zero, i.size, i.bytes)) = some (some z, d.sz, bytes)) (hz : z.cells.size = d.sz) (hs0 : 0 < d.sz) (hb0 : 0 < bytes)
    (hs : a.eval s = v) (hx : a.eval x = .slice (some ⟨g, 0, none⟩) 1 c)
    (hi : rs[i]? = some (Mx.row d e v xs)) (hj : rs[j]? = some (andF (Mx.el d p cs) dd A n ys)) (hb : rs[b]? = some (Mx.blk g e cs.toArray)) (hl : (xs.length + 1) * bytes ≤ 140737488355328)
    (h : ∀ v1 w1, Mem w0 w1 ((rs.set i (andF (Mx.row d e v1 (xs ++ [p])) dd A n ys)).set j emp) → wpList P ops Q rest (a.put o.dst v1) w1) : wpList P ops Q (o :: rest) a W := by
  have hblk := hM.blk_at b hb
  obtain ⟨f, q, h1, ⟨hq, hF⟩, h2, h2q, hd, h3⟩ := hM.take2 hi hj hij
  have hK := d.K_of_M hq
  refine Kd.R_append_rows d (w0 := W) 0 hgd s x t e z bytes ho ht hinfo hz hs0 hb0 v xs [p] (some ⟨g, 0, none⟩) 1 c (fun k => f k ∨ q k ∨ W.heap.size ≤ k) q hs hx (Kd.R_mono h1 (fun _ hk => .inl hk)) (reads_one p hblk (d.K_len hK)) (fun x' cs' hx' => by obtain ⟨rfl, rfl⟩ := hx'; exact hq) (fun k hk => ⟨.inr (.inl hk), fun he => hd k (h1.1 k he.symm) hk⟩) (fun _ hk => .inr (.inr hk)) (Below.refl _ _) (Nat.zero_le _) hl ?_
  intro v1 w1 hr hb1 hg _
  refine h v1 w1 (h3 w1 _ hg.os hg.tape hg.output hg.size (fun k hk hf _ => hg.block k hk (fun he => hf (h1.1 k he.symm))) ⟨?_, ?_⟩)
  · exact Kd.R_mono (Kd.R_bound hr) (fun k hk => hk.1.imp id (fun hh => hh.imp id (fun hh => ⟨hh, hk.2.2.1⟩)))
  · intro W' hW
    have hk1 := fun k hk => hg.block k (h2q k hk).2 (fun he => hd k (h1.1 k he.symm) hk)
    exact hF W' (fun k hk hlt => (hW k (.inr (.inl hk)) (lt_kept (hk1 k hk) hlt)).trans (hk1 k hk))
end
end Go.Proofs.YtggbjokhniigkaaGreat.Ra
namespace Go.Proofs.YtggbjokhniigkaaGreat.Rb
open Ty Go.RowKit YtggbjokhniigkaaGreatW.PrintWords YtggbjokhniigkaaGreatW.PrintLast YtggbjokhniigkaaGreatW.PrintMore Mx Kx Wa We Ra
theorem all11_calls (w0 w : World) (Rm : Res) (F : List Res) (g : Nat) (i n vw nr hw : Int) (vl : Value) (cm : Int) (va vv vo vb : Value) (bv bd : Int) (m0 m1 m2 m3 m4 m5 m6 : Int) (A : Option Addr) (c : Nat) (l : List Entry)
    (hM : Mem w0 w (Rm :: blk g 25 #[.int .i64 i, .int .i64 n, .int .i64 vw, .int .i64 nr, .int .i64 hw, vl, .int .i64 cm, va, vv, vo, vb, .int .i64 bv, .int .i64 bd] :: F)) (hl : Rd w0 Rm kE A l) (hn : l.length ≤ 1000000000) (hc : l.length ≤ c) (hn0 : 0 < n) (hn5 : n ≤ 5) :
    Calls Tryz.prog 118 #[.pointer (some ⟨g, 0, none⟩), .agg #[.int .i64 m0, .int .i64 m1, .int .i64 m2, .int .i64 m3, .int .i64 m4, .int .i64 m5, .int .i64 m6, .slice A l.length c]] w fun e w' =>
      ∃ vout : Value, e = .returned vout ∧ Mem w0 w' (row kM 27 vout (allFrom i n vw ⟨m0, m1, m2, m3, m4, m5, m6, l⟩ n.toNat 0) :: Rm :: blk g 25 #[.int .i64 i, .int .i64 n, .int .i64 vw, .int .i64 nr, .int .i64 hw, vl, .int .i64 cm, va, vv, vo, vb, .int .i64 bv, .int .i64 bd] :: F) := by
  have HN := Aside0.mk hn
  have HC := Aside0.mk hc
  have HL := Aside0.mk (show ∀ (w : World) (rs : List Res), Mem w0 w rs → rs[0]? = some (row kM 27 (.slice none 0 0) []) → rs[2]? = some Rm → kE.C w A l.length l from fun w rs h1 _ h3 => hl w rs 2 h1 h3)
  have M0 := Aside0.mk (hM.allocAt #[.int .i64 m0, .int .i64 m1, .int .i64 m2, .int .i64 m3, .int .i64 m4, .int .i64 m5, .int .i64 m6, .slice A l.length c] 27 _ rfl)
  have M1 := Aside0.mk (M0.out.cons (r := row kM 27 (.slice none 0 0) []) (Below.refl _ _) (Kd.R_nil _ _ _ _ _))
  have hg : g < w.heap.size := blk_lt (hM.blk_at 1 rfl)
  clear hM hl hn hc
  go_enter Tryz.func118, Tryz.ntmps118
  go_wp2_with fail
  go_loopg [5, 6] (n.toNat + 1) (fun kq v5 v6 w' => ∃ (k : Nat) (X : Res) (out : List Msg) (x1 x2 x3 : Int) (A' : Option Addr) (c' : Nat), v6 = .int .i64 k ∧ Aside0 ((k : Int) ≤ n ∧ kq = n.toNat + 1 - k ∧ out.length ≤ k ∧ out ++ allFrom i n vw ⟨m0, m1, m2, m3, m4, m5, m6, l⟩ (n.toNat - k) k = allFrom i n vw ⟨m0, m1, m2, m3, m4, m5, m6, l⟩ n.toNat 0) ∧ Aside0 (l.length ≤ c') ∧ Aside0 (∀ w f, X.holds w f → (row kM 27 v5 out).holds w f) ∧ Aside0 (∀ (w : World) (rs : List Res), Mem w0 w rs → rs[0]? = some X → rs[2]? = some Rm → kE.C w A' l.length l) ∧ Aside0 (Mem w0 w' (X :: blk w.heap.size 27 #[.int .i64 m0, .int .i64 x1, .int .i64 x2, .int .i64 x3, .int .i64 m4, .int .i64 m5, .int .i64 m6, .slice A' l.length c'] :: Rm :: blk g 25 #[.int .i64 i, .int .i64 n, .int .i64 vw, .int .i64 nr, .int .i64 hw, vl, .int .i64 cm, va, vv, vo, vb, .int .i64 bv, .int .i64 bd] :: F)))
  case atStart => exact ⟨0, _, [], m1, m2, m3, A, c, rfl, ⟨by omega, by omega, by simp, by simp⟩, HC, ⟨fun _ _ h => h⟩, HL, M1⟩
  case round =>
    obtain ⟨k, X, out, x1, x2, x3, A', c', rfl, HK, HC', HX, HL', M2⟩ := hrel
    clear M0 M1
    have cG := blk_cell (M2.out.blk_at 3 rfl)
    have cB := blk_cell (M2.out.blk_at 1 rfl)
    have fB := blk_frozen (M2.out.blk_at 1 rfl)
    have hgr := blk_lt (M2.out.blk_at 3 rfl)
    have hbr := blk_lt (M2.out.blk_at 1 rfl)
    have ngb : ¬ g = w.heap.size := by omega
    have nbg : ¬ w.heap.size = g := by omega
    by_cases hlt : (k : Int) < n
    · have HS := Aside0.mk (allFrom_step i n vw ⟨m0, m1, m2, m3, m4, m5, m6, l⟩ k hlt)
      by_cases hid : (k : Int) = i
      · have HI := Aside0.mk hid
        have e1 : ((k : Int) == i) = true := by simpa using hid
        have e2 : ((k : Int) != i) = false := by simpa using hid
        clear hid
        go_wp2_with fail
        go_roundg (n.toNat - k)
        case measure => have := HK.out; omega
        case rel =>
          refine ⟨k + 1, X, out, x1, x2, x3, A', c', by go_num, ⟨by omega, by omega, by have := HK.out; omega, ?_⟩, HC', HX, HL', M2⟩
          have h1 := HK.out.2.2.2
          rw [HS.out, if_pos HI.out] at h1
          exact h1
      · have HI := Aside0.mk hid
        have e1 : ((k : Int) == i) = false := by simpa using hid
        have e2 : ((k : Int) != i) = true := by simpa using hid
        clear hid
        go_upto_region 9 with (fail)
        have M3 := Aside0.mk (((M2.out.set 1 rfl 1 (.int .i64 i)).set 1 rfl 2 (.int .i64 k)).set 1 rfl 3 (.int .i64 vw))
        have hCC := HL'.out _ _ M3.out rfl rfl
        have HCC := Aside0.mk hCC
        clear hCC
        go_cut [] (fun wx => ∃ (A2 : Option Addr) (c2 : Nat), Aside0 (l.length ≤ c2) ∧ Aside0 (Mem w0 wx (row kE 68 (.slice A2 l.length c2) l :: X :: blk w.heap.size 27 #[.int .i64 m0, .int .i64 i, .int .i64 k, .int .i64 vw, .int .i64 m4, .int .i64 m5, .int .i64 m6, .slice A2 l.length c2] :: Rm :: blk g 25 #[.int .i64 i, .int .i64 n, .int .i64 vw, .int .i64 nr, .int .i64 hw, vl, .int .i64 cm, va, vv, vo, vb, .int .i64 bv, .int .i64 bd] :: F)))
        case first =>
          go_wp2_with (((with_reducible refine gate_builtin (b := .append) (xs := #[.tmp 33, .tmp 35]) rfl ?_); at_builtin; refine Mem.app kE ((M3.out.allocAt #[] 68 wr.heap.size (by simp)).lit 0 kE [] rfl (Reps.none _ _) (by decide)) 0 _ [] l rfl (.tmp 33) (.tmp 35) 22 68 _ _ rfl Tryz.underlying22 infoEntry rfl (by decide) (by omega) A' _ c' rfl rfl rfl (Kd.C_alloc HCC.out _) (fun x cs h => h) (by have := HN.out; simp; omega) ?_; intro v1 w1 hM1; have M4 := Aside0.mk (show Mem _ _ (row kE _ v1 l :: _) from hM1); clear hM1; obtain ⟨A2, c2, he, hc2, _⟩ := M4.out.row_at 0 rfl; subst he; have cB4 := blk_cell (M4.out.blk_at 2 rfl); have fB4 := blk_frozen (M4.out.blk_at 2 rfl)))
          go_meet
          case rel => exact ⟨A2, c2, ⟨hc2⟩, ⟨M4.out.set 2 rfl 7 (.slice A2 l.length c2)⟩⟩
        case rest =>
          obtain ⟨A2, c2, HC2, M5⟩ := hcut
          clear M2 M3 HCC cB fB cG hgr hbr
          have cB := blk_cell (M5.out.blk_at 2 rfl)
          have hbr := blk_lt (M5.out.blk_at 2 rfl)
          have M6 := Aside0.mk (((M5.out.imp (i := 1) rfl _ (fun f hf => HX.out _ f hf)).imp (i := 0) rfl (andF (el kM ⟨m0, i, k, vw, m4, m5, m6, l⟩ [.int .i64 m0, .int .i64 i, .int .i64 k, .int .i64 vw, .int .i64 m4, .int .i64 m5, .int .i64 m6, .slice A2 l.length c2]) kE A2 l.length l) (fun f hf => ⟨kM_mkM _ _ _ ⟨m0, i, k, vw, m4, m5, m6, l⟩ hf, F_row hf⟩)).alloc #[.int .i64 m0, .int .i64 i, .int .i64 k, .int .i64 vw, .int .i64 m4, .int .i64 m5, .int .i64 m6, .slice A2 l.length c2] 27)
          go_wp2_with (((with_reducible refine gate_builtin (b := .append) (xs := #[.tmp 38, .tmp 40]) rfl ?_); at_builtin; refine app1F kM kE M6.out 2 1 0 _ out _ _ A2 l.length l _ 1 (by decide) rfl (.tmp 38) (.tmp 40) 60 27 _ _ rfl Tryz.underlying60 infoMsg rfl (by decide) (by omega) rfl rfl rfl rfl rfl (by have := HK.out; omega) ?_; intro v1 w1 hM1; have M7 := Aside0.mk hM1; clear hM1))
          go_roundg (n.toNat - k)
          case measure => have := HK.out; omega
          case rel =>
            have M8 := Aside0.mk (Mem.sel (ps := [_, _, _, _, _, _]) (F := F) [2, 3, 4, 5] 6 M7.out rfl rfl)
            refine ⟨k + 1, andF (row kM 27 v1 (out ++ [(⟨m0, i, (k : Int), vw, m4, m5, m6, l⟩ : Msg)])) kE A2 l.length l, out ++ [(⟨m0, i, (k : Int), vw, m4, m5, m6, l⟩ : Msg)], i, k, vw, A2, c2, by go_num, ⟨by omega, by omega, ?_, ?_⟩, HC2, ⟨fun w f h => h.1⟩, ⟨fun w rs hM h0 _ => Mem.andF_C hM 0 h0⟩, M8⟩
            · have := HK.out
              rw [List.length_append, List.length_singleton]
              omega
            · have h1 := HK.out.2.2.2
              rw [HS.out, if_neg HI.out] at h1
              rw [List.append_assoc]
              exact h1
    · have hk : (k : Int) = n := by have := HK.out.1; omega
      have HE := Aside0.mk hk
      clear hk
      go_wp2_with fail
      go_ret
      refine ⟨_, rfl, ?_⟩
      have h1 := HK.out.2.2.2
      have h2 : n.toNat - k = 0 := by have := HE.out; omega
      rw [h2] at h1
      simp only [allFrom, List.append_nil] at h1
      rw [← h1]
      exact Mem.sel (ps := [_, _, _, _]) (F := F) [0, 2, 3] 4 (M2.out.imp (i := 0) rfl _ (fun f hf => HX.out _ f hf)) rfl rfl
end Go.Proofs.YtggbjokhniigkaaGreat.Rb
