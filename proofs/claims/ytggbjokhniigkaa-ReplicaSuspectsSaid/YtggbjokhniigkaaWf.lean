/- Walks: something new is laid behind the log. -/
import Derived.Test.YtggbjokhniigkaaWc
import Derived.Test.YtggbjokhniigkaaWd
import Derived.Test.YtggbjokhniigkaaWe
namespace Go.Proofs.Ytggbjokhniigkaa.Wf
open Go.Proofs.Ytggbjokhniigkaa.Ty Go.RowKit Go.Proofs.YtggbjokhniigkaaW.PrintWords Go.Proofs.YtggbjokhniigkaaW.PrintLast Go.Proofs.YtggbjokhniigkaaW.PrintMore Go.Proofs.Ytggbjokhniigkaa.Mx Go.Proofs.Ytggbjokhniigkaa.Kx Go.Proofs.Ytggbjokhniigkaa.Wa Go.Proofs.Ytggbjokhniigkaa.Wb Go.Proofs.Ytggbjokhniigkaa.Wc Go.Proofs.Ytggbjokhniigkaa.Wd Go.Proofs.Ytggbjokhniigkaa.We
set_option linter.unusedVariables false
set_option linter.unusedSimpArgs false

set_option maxRecDepth 100000 in
set_option maxHeartbeats 4000000 in
theorem Propose_e1 (r : Rep) (A5 A7 A8 A9 A10 : Option Addr) (c5 c7 c8 c9 c10 : Nat) (w : World) (h : RdRep w r A5 A7 A8 A9 A10) (hn : Small r) (time : Int) (data : ByteArray) (hs : data.size ≤ 1000000) (hx : (may r && below time && decide (data.size ≤ 20000)) = false) :
    Calls Try.prog 34 #[.agg (rc r (.slice A5 r.f5.length c5) (.slice A7 r.f7.length c7) (.slice A8 r.f8.length c8) (.slice A9 r.f9.length c9) (.slice A10 r.f10.length c10)), .int .i64 time, .string data] w fun e w' => ∃ v5 v7 v8 v9 v10 vout : Value, e = .returned (.tuple #[.agg (rc r v5 v7 v8 v9 v10), vout, .int .i64 0, .int .i64 1]) ∧ Mem w w' (rows r v5 v7 v8 v9 v10 ++ [row kM 29 vout []]) := by
  have H := Aside0.mk h
  have HN := Aside0.mk hn
  have M0 := Aside0.mk (Mem.nil w)
  have M1 := Aside0.mk ((M0.out.alloc #[.int .i64 r.f0, .int .i64 r.f1, .int .i64 r.f2, .int .i64 r.f3, .int .i64 r.f4, .slice A5 r.f5.length c5, .int .i64 r.f6, .slice A7 r.f7.length c7, .slice A8 r.f8.length c8, .slice A9 r.f9.length c9, .slice A10 r.f10.length c10, .int .i64 r.f11, .int .i64 r.f12] 45).allocAt #[.int .i64 0, .int .i64 0, .int .i64 0, .int .i64 0, .int .i64 0, .slice none 0 0, .int .i64 0, .slice none 0 0, .slice none 0 0, .slice none 0 0, .slice none 0 0, .int .i64 0, .int .i64 0] 45 (w.heap.size + 1) (by simp))
  clear h hn
  unfold rc
  obtain ⟨b1, e1⟩ : ∃ b, may r = b := ⟨_, rfl⟩
  obtain ⟨b2, e2⟩ : ∃ b, below time = b := ⟨_, rfl⟩
  rw [e1, e2] at hx
  have hw : b1 = false ∨ (b1 = true ∧ b2 = false) ∨ (b1 = true ∧ b2 = true ∧ 20000 < data.size) := by
    cases b1
    · exact .inl rfl
    · cases b2
      · exact .inr (.inl ⟨rfl, rfl⟩)
      · exact .inr (.inr ⟨rfl, rfl, by simpa using hx⟩)
  clear hx
  rcases hw with rfl | ⟨rfl, rfl⟩ | ⟨rfl, rfl, hsz⟩
  all_goals
    go_enter Try.func34, Try.ntmps34
    go_wp2_with fail
    refine (May_calls r A5 A7 A8 A9 A10 c5 c7 c8 c9 c10 _ (Kd.C_below H.out.h5 M1.out.below) (Kd.C_below H.out.h7 M1.out.below) (Kd.C_below H.out.h8 M1.out.below) (Kd.C_below H.out.h9 M1.out.below) (Kd.C_below H.out.h10 M1.out.below) HN.out).mono ?_
    rintro e w1 ⟨rfl, hM⟩
    have M2 := Aside0.mk (M1.out.trans hM)
    clear hM
    have cB := blk_cell (M2.out.blk_at 1 rfl)
    go_wp2_with (go_at_call 67; refine (below_calls _ _).mono ?_; rintro e w' ⟨rfl, rfl⟩)
    refine (copied_calls r A5 A7 A8 A9 A10 c5 c7 c8 c9 c10 _ (H.out.below M2.out.below) HN.out).mono ?_
    rintro e w2 ⟨v5, v7, v8, v9, v10, rfl, hM⟩
    unfold rc
    obtain ⟨B5, d5, rfl, _, _⟩ := hM.row_at 0 rfl
    obtain ⟨B7, d7, rfl, _, _⟩ := hM.row_at 1 rfl
    obtain ⟨B8, d8, rfl, _, _⟩ := hM.row_at 2 rfl
    obtain ⟨B9, d9, rfl, _, _⟩ := hM.row_at 3 rfl
    obtain ⟨B10, d10, rfl, _, _⟩ := hM.row_at 4 rfl
    have M3 := Aside0.mk (Mem.sel (ps := [_, _, _, _, _, _, _]) (F := []) [5, 6, 0, 1, 2, 3, 4] 7 (M2.out.trans hM) rfl rfl)
    clear hM
    clear cB
    have cC := blk_cell (M3.out.blk_at 0 rfl)
    have fC := blk_frozen (M3.out.blk_at 0 rfl)
    go_wp2
    have M4 := M3.out.setRow 0 rfl [(.int .i64 r.f0), (.int .i64 r.f1), (.int .i64 r.f2), (.int .i64 r.f3), (.int .i64 r.f4), (.slice B5 r.f5.length d5), (.int .i64 r.f6), (.slice B7 r.f7.length d7), (.slice B8 r.f8.length d8), (.slice B9 r.f9.length d9), (.slice B10 r.f10.length d10), (.int .i64 r.f11), (.int .i64 r.f12)] rfl
    have hg4 := M4.blk_at 0 rfl
    refine bodyPost_ret (results_list (rs := [.cell 6 45, .tmp 7, .tmp 8, .tmp 9]) rfl (by simp) (.cell (w.heap.size + 1) 45 #[.int .i64 r.f0, .int .i64 r.f1, .int .i64 r.f2, .int .i64 r.f3, .int .i64 r.f4, .slice B5 r.f5.length d5, .int .i64 r.f6, .slice B7 r.f7.length d7, .slice B8 r.f8.length d8, .slice B9 r.f9.length d9, .slice B10 r.f10.length d10, .int .i64 r.f11, .int .i64 r.f12] (0, 0) _ rfl hg4 Try.underlying45 rfl (by kernel_rfl) (.tmp (.tmp (.tmp .nil))))) rfl ?_
    exact ⟨_, _, _, _, _, _, rfl, Mem.sel (ps := [_, _, _, _, _, _, _, _]) (F := []) [3, 4, 5, 6, 7, 0] 8 (Mem.row_nil M4 kM 29) rfl rfl⟩

set_option maxRecDepth 100000 in
set_option maxHeartbeats 8000000 in
theorem Propose_e17 (r : Rep) (A5 A7 A8 A9 A10 : Option Addr) (c5 c7 c8 c9 c10 : Nat) (w : World) (h : RdRep w r A5 A7 A8 A9 A10) (hn : Small r) (time : Int) (data : ByteArray) (hs : data.size ≤ 20000) (h1 : may r = true) (h2 : below time = true) (hx : ¬ (r.f4 = 0 ∧ r.f2 % r.f1 = r.f0)) :
    Calls Try.prog 34 #[.agg (rc r (.slice A5 r.f5.length c5) (.slice A7 r.f7.length c7) (.slice A8 r.f8.length c8) (.slice A9 r.f9.length c9) (.slice A10 r.f10.length c10)), .int .i64 time, .string data] w fun e w' => ∃ v5 v7 v8 v9 v10 vout : Value, e = .returned (.tuple #[.agg (rc r v5 v7 v8 v9 v10), vout, .int .i64 0, .int .i64 17]) ∧ Mem w w' (rows r v5 v7 v8 v9 v10 ++ [row kM 29 vout []]) := by
  have hp := (may_iff r).1 h1
  have hn0 : 0 < r.f1 ∧ r.f1 ≤ 5 := by
    have := hp.1
    unfold size at this
    simp at this
    omega
  have hv : 0 ≤ r.f2 ∧ r.f2 < 1099511627776 := by
    have := hp.2.2.2.1
    unfold below maxTime at this
    simpa using this
  clear hp
  obtain ⟨hn1, hn5⟩ := hn0
  obtain ⟨hv1, hv2⟩ := hv
  have H := Aside0.mk h
  have HN := Aside0.mk hn
  have M0 := Aside0.mk (Mem.nil w)
  have M1 := Aside0.mk ((M0.out.alloc #[.int .i64 r.f0, .int .i64 r.f1, .int .i64 r.f2, .int .i64 r.f3, .int .i64 r.f4, .slice A5 r.f5.length c5, .int .i64 r.f6, .slice A7 r.f7.length c7, .slice A8 r.f8.length c8, .slice A9 r.f9.length c9, .slice A10 r.f10.length c10, .int .i64 r.f11, .int .i64 r.f12] 45).allocAt #[.int .i64 0, .int .i64 0, .int .i64 0, .int .i64 0, .int .i64 0, .slice none 0 0, .int .i64 0, .slice none 0 0, .slice none 0 0, .slice none 0 0, .slice none 0 0, .int .i64 0, .int .i64 0] 45 (w.heap.size + 1) (by simp))
  clear h hn
  unfold rc
  by_cases h4 : r.f4 = 0
  · have h5 : ¬ r.f2 % r.f1 = r.f0 := fun q => hx ⟨h4, q⟩
    have H4 := Aside0.mk h4
    have e4 : (r.f4 == 0) = true := by simpa using h4
    have e4' : (r.f4 != 0) = false := by simpa using h4
    have e5 : (r.f2 % r.f1 == r.f0) = false := by simpa using h5
    have e5' : (r.f2 % r.f1 != r.f0) = true := by simpa using h5
    clear hx h4 h5
    go_enter Try.func34, Try.ntmps34
    go_wp2_with fail
    refine (May_calls r A5 A7 A8 A9 A10 c5 c7 c8 c9 c10 _ (Kd.C_below H.out.h5 M1.out.below) (Kd.C_below H.out.h7 M1.out.below) (Kd.C_below H.out.h8 M1.out.below) (Kd.C_below H.out.h9 M1.out.below) (Kd.C_below H.out.h10 M1.out.below) HN.out).mono ?_
    rintro e w1 ⟨rfl, hM⟩
    have M2 := Aside0.mk (M1.out.trans hM)
    clear hM
    have cB := blk_cell (M2.out.blk_at 1 rfl)
    go_wp2_with (go_at_call 67; refine (below_calls _ _).mono ?_; rintro e w' ⟨rfl, rfl⟩)
    refine (copied_calls r A5 A7 A8 A9 A10 c5 c7 c8 c9 c10 _ (H.out.below M2.out.below) HN.out).mono ?_
    rintro e w2 ⟨v5, v7, v8, v9, v10, rfl, hM⟩
    unfold rc
    obtain ⟨B5, d5, rfl, _, _⟩ := hM.row_at 0 rfl
    obtain ⟨B7, d7, rfl, _, _⟩ := hM.row_at 1 rfl
    obtain ⟨B8, d8, rfl, _, _⟩ := hM.row_at 2 rfl
    obtain ⟨B9, d9, rfl, _, _⟩ := hM.row_at 3 rfl
    obtain ⟨B10, d10, rfl, _, _⟩ := hM.row_at 4 rfl
    have M3 := Aside0.mk (Mem.sel (ps := [_, _, _, _, _, _, _]) (F := []) [5, 6, 0, 1, 2, 3, 4] 7 (M2.out.trans hM) rfl rfl)
    clear hM
    clear cB
    have hb0 := blk_lt (M3.out.blk_at 1 rfl)
    have hb1 := blk_lt (M3.out.blk_at 0 rfl)
    have M4 := Aside0.mk (M3.out.alloc #[.int .i64 r.f0, .int .i64 r.f1, .int .i64 r.f2, .int .i64 r.f3, .int .i64 r.f4, .slice B5 r.f5.length d5, .int .i64 r.f6, .slice B7 r.f7.length d7, .slice B8 r.f8.length d8, .slice B9 r.f9.length d9, .slice B10 r.f10.length d10, .int .i64 r.f11, .int .i64 r.f12, .slice none 0 0] 99)
    have cR := fun j => blk_cell (M3.out.blk_at 1 rfl) j
    have cC := fun j => blk_cell (M3.out.blk_at 0 rfl) j
    have fC := fun j => blk_frozen (M3.out.blk_at 0 rfl) j
    go_wp2_with fail
    have hW := M4.out.blk_at 0 rfl
    go_quiet ((go_at_call 74; exact primary_quiet _ _ w2.heap.size r.f0 r.f1 r.f2 r.f3 r.f4 _ r.f6 _ _ _ _ r.f11 r.f12 _ r.f2 hW hv1 (by omega) hn1 hn5))
    clear hW
    go_wp2
    have M5 := fun n => (M4.out.drewN n).setRow 1 rfl [(.int .i64 r.f0), (.int .i64 r.f1), (.int .i64 r.f2), (.int .i64 r.f3), (.int .i64 r.f4), (.slice B5 r.f5.length d5), (.int .i64 r.f6), (.slice B7 r.f7.length d7), (.slice B8 r.f8.length d8), (.slice B9 r.f9.length d9), (.slice B10 r.f10.length d10), (.int .i64 r.f11), (.int .i64 r.f12)] rfl
    have hg5 := fun n => (M5 n).blk_at 1 rfl
    refine bodyPost_ret (results_list (rs := [.cell 6 45, .tmp 7, .tmp 8, .tmp 9]) rfl (by simp) (.cell (w.heap.size + 1) 45 #[.int .i64 r.f0, .int .i64 r.f1, .int .i64 r.f2, .int .i64 r.f3, .int .i64 r.f4, .slice B5 r.f5.length d5, .int .i64 r.f6, .slice B7 r.f7.length d7, .slice B8 r.f8.length d8, .slice B9 r.f9.length d9, .slice B10 r.f10.length d10, .int .i64 r.f11, .int .i64 r.f12] (0, 0) _ rfl (hg5 _) Try.underlying45 rfl (by kernel_rfl) (.tmp (.tmp (.tmp .nil))))) rfl ?_
    exact ⟨_, _, _, _, _, _, rfl, Mem.sel (ps := [_, _, _, _, _, _, _, _, _]) (F := []) [4, 5, 6, 7, 8, 0] 9 (Mem.row_nil (M5 _) kM 29) rfl rfl⟩
  · have h5 := h4
    have e4 : (r.f4 == 0) = false := by simpa using h4
    have e4' : (r.f4 != 0) = true := by simpa using h4
    clear hx h4 h5
    go_enter Try.func34, Try.ntmps34
    go_wp2_with fail
    refine (May_calls r A5 A7 A8 A9 A10 c5 c7 c8 c9 c10 _ (Kd.C_below H.out.h5 M1.out.below) (Kd.C_below H.out.h7 M1.out.below) (Kd.C_below H.out.h8 M1.out.below) (Kd.C_below H.out.h9 M1.out.below) (Kd.C_below H.out.h10 M1.out.below) HN.out).mono ?_
    rintro e w1 ⟨rfl, hM⟩
    have M2 := Aside0.mk (M1.out.trans hM)
    clear hM
    have cB := blk_cell (M2.out.blk_at 1 rfl)
    go_wp2_with (go_at_call 67; refine (below_calls _ _).mono ?_; rintro e w' ⟨rfl, rfl⟩)
    refine (copied_calls r A5 A7 A8 A9 A10 c5 c7 c8 c9 c10 _ (H.out.below M2.out.below) HN.out).mono ?_
    rintro e w2 ⟨v5, v7, v8, v9, v10, rfl, hM⟩
    unfold rc
    obtain ⟨B5, d5, rfl, _, _⟩ := hM.row_at 0 rfl
    obtain ⟨B7, d7, rfl, _, _⟩ := hM.row_at 1 rfl
    obtain ⟨B8, d8, rfl, _, _⟩ := hM.row_at 2 rfl
    obtain ⟨B9, d9, rfl, _, _⟩ := hM.row_at 3 rfl
    obtain ⟨B10, d10, rfl, _, _⟩ := hM.row_at 4 rfl
    have M3 := Aside0.mk (Mem.sel (ps := [_, _, _, _, _, _, _]) (F := []) [5, 6, 0, 1, 2, 3, 4] 7 (M2.out.trans hM) rfl rfl)
    clear hM
    clear cB
    have hb0 := blk_lt (M3.out.blk_at 1 rfl)
    have hb1 := blk_lt (M3.out.blk_at 0 rfl)
    have M4 := Aside0.mk (M3.out.alloc #[.int .i64 r.f0, .int .i64 r.f1, .int .i64 r.f2, .int .i64 r.f3, .int .i64 r.f4, .slice B5 r.f5.length d5, .int .i64 r.f6, .slice B7 r.f7.length d7, .slice B8 r.f8.length d8, .slice B9 r.f9.length d9, .slice B10 r.f10.length d10, .int .i64 r.f11, .int .i64 r.f12, .slice none 0 0] 99)
    have cR := fun j => blk_cell (M3.out.blk_at 1 rfl) j
    have cC := fun j => blk_cell (M3.out.blk_at 0 rfl) j
    have fC := fun j => blk_frozen (M3.out.blk_at 0 rfl) j
    go_wp2_with fail
    go_quiet (fail)
    go_wp2
    have M5 := fun n => (M4.out.drewN n).setRow 1 rfl [(.int .i64 r.f0), (.int .i64 r.f1), (.int .i64 r.f2), (.int .i64 r.f3), (.int .i64 r.f4), (.slice B5 r.f5.length d5), (.int .i64 r.f6), (.slice B7 r.f7.length d7), (.slice B8 r.f8.length d8), (.slice B9 r.f9.length d9), (.slice B10 r.f10.length d10), (.int .i64 r.f11), (.int .i64 r.f12)] rfl
    have hg5 := fun n => (M5 n).blk_at 1 rfl
    refine bodyPost_ret (results_list (rs := [.cell 6 45, .tmp 7, .tmp 8, .tmp 9]) rfl (by simp) (.cell (w.heap.size + 1) 45 #[.int .i64 r.f0, .int .i64 r.f1, .int .i64 r.f2, .int .i64 r.f3, .int .i64 r.f4, .slice B5 r.f5.length d5, .int .i64 r.f6, .slice B7 r.f7.length d7, .slice B8 r.f8.length d8, .slice B9 r.f9.length d9, .slice B10 r.f10.length d10, .int .i64 r.f11, .int .i64 r.f12] (0, 0) _ rfl (hg5 _) Try.underlying45 rfl (by kernel_rfl) (.tmp (.tmp (.tmp .nil))))) rfl ?_
    exact ⟨_, _, _, _, _, _, rfl, Mem.sel (ps := [_, _, _, _, _, _, _, _, _]) (F := []) [4, 5, 6, 7, 8, 0] 9 (Mem.row_nil (M5 _) kM 29) rfl rfl⟩
end Go.Proofs.Ytggbjokhniigkaa.Wf
