/- Texts laid together: Wf, Wh0, WFootNe, WAt, WEqStruct, WRepsOne, WInv, WInvWords, WGuard, PReplicaTakesx0, PReplicaTakesx1, Pr0, Pr1, Pr2. No condition. -/
import Derived.Laws.StructEq
import Derived.Test.YtggbjokhniigkaaGreatProg
import Derived.Below
import Derived.Deep.Draws
import Derived.Deep.AppendLies
import Derived.Maps.AppendAt
import Derived.OwnWalk
import Derived.Laws.BytesArg
import Derived.Laws.MakeOwn
import Derived.Laws.OwnMore
import Derived.Deep.OwnRows
import Derived.Tactics
import Derived.Lib.ConvBytes
import Derived.Laws.Slices
import Derived.WalkKit
import Derived.KernelRfl
import Derived.RowKit3
import Derived.Deep.LoopGhost
import Derived.Deep.QuietTactic
import Derived.BigQuiet
import Derived.WideLaws
import Derived.Deep.DeepCutAuto
import Derived.Deep.CutBlock
import Derived.Deep.RegionHeld3
import Derived.Laws.Rows
import Derived.Lib.AppendStr
import Derived.ArgAppend
import Derived.Laws.IdiomCopy
import Derived.OrdersHeld
import Derived.Laws.BitsLemmas
import Derived.RowKit
import Derived.Test.YtggbjokhniigkaaGreatYTz4
set_option linter.unusedVariables false
set_option linter.unusedSimpArgs false
set_option maxRecDepth 100000
set_option maxHeartbeats 8000000
namespace Go.Proofs.YtggbjokhniigkaaGreat.Wf
open Ty Go.RowKit YtggbjokhniigkaaGreatW.PrintWords YtggbjokhniigkaaGreatW.PrintLast YtggbjokhniigkaaGreatW.PrintMore Mx Kx Wa Wb Wc Wd We
theorem Propose_e1 (r : Rep) (A5 A7 A8 A9 A10 : Option Addr) (c5 c7 c8 c9 c10 : Nat) (w : World) (h : RdRep w r A5 A7 A8 A9 A10) (hn : Small r) (time : Int) (data : ByteArray) (hs : data.size ≤ 1000000) (hx : (may r && below time && decide (data.size ≤ 20000)) = false) :
    Calls Tryz.prog 62 #[.agg (rc r (.slice A5 r.f5.length c5) (.slice A7 r.f7.length c7) (.slice A8 r.f8.length c8) (.slice A9 r.f9.length c9) (.slice A10 r.f10.length c10)), .int .i64 time, .string data] w fun e w' => ∃ v5 v7 v8 v9 v10 vout : Value, e = .returned (.tuple #[.agg (rc r v5 v7 v8 v9 v10), vout, .int .i64 0, .int .i64 1]) ∧ Mem w w' (rows r v5 v7 v8 v9 v10 ++ [row kM 27 vout []]) := by
  have H := Aside0.mk h
  have HN := Aside0.mk hn
  have M0 := Aside0.mk (Mem.nil w)
  have M1 := Aside0.mk ((M0.out.alloc (Kx.rA r A5 A7 A8 A9 A10 c5 c7 c8 c9 c10) 25).allocAt #[.int .i64 0, .int .i64 0, .int .i64 0, .int .i64 0, .int .i64 0, .slice none 0 0, .int .i64 0, .slice none 0 0, .slice none 0 0, .slice none 0 0, .slice none 0 0, .int .i64 0, .int .i64 0] 25 (w.heap.size + 1) (by simp))
  clear h hn
  unfold rc
  obtain ⟨b1, e1⟩ : ∃ b, may r = b := ⟨_, rfl⟩
  obtain ⟨b2, e2⟩ : ∃ b, below time = b := ⟨_, rfl⟩
  rw [e1, e2] at hx
  have hw : b1 = false ∨ (b1 = true ∧ b2 = false) ∨ (b1 = true ∧ b2 = true ∧ 20000 < data.size) := by
    cases b1
    · exact .inl rfl
    · cases b2
      · exact .inr (.inl ⟨rfl, rfl⟩)
      · exact .inr (.inr ⟨rfl, rfl, by simpa using hx⟩)
  clear hx
  rcases hw with rfl | ⟨rfl, rfl⟩ | ⟨rfl, rfl, hsz⟩
  all_goals
    go_enter Tryz.func62, Tryz.ntmps62
    go_wp2_with fail
    refine (May_calls r A5 A7 A8 A9 A10 c5 c7 c8 c9 c10 _ (Kd.C_below H.out.h5 M1.out.below) (Kd.C_below H.out.h7 M1.out.below) (Kd.C_below H.out.h8 M1.out.below) (Kd.C_below H.out.h9 M1.out.below) (Kd.C_below H.out.h10 M1.out.below) HN.out).mono ?_
    rintro e w1 ⟨rfl, hM⟩
    have M2 := Aside0.mk (M1.out.trans hM)
    clear hM
    have cB := blk_cell (M2.out.blk_at 1 rfl)
    go_wp2_with (go_at_call 96; refine (below_calls _ _).mono ?_; rintro e w' ⟨rfl, rfl⟩)
    refine (copied_calls r A5 A7 A8 A9 A10 c5 c7 c8 c9 c10 _ (H.out.below M2.out.below) HN.out).mono ?_
    rintro e w2 ⟨v5, v7, v8, v9, v10, rfl, hM⟩
    unfold rc
    obtain ⟨B5, d5, rfl, _, _⟩ := hM.row_at 0 rfl
    obtain ⟨B7, d7, rfl, _, _⟩ := hM.row_at 1 rfl
    obtain ⟨B8, d8, rfl, _, _⟩ := hM.row_at 2 rfl
    obtain ⟨B9, d9, rfl, _, _⟩ := hM.row_at 3 rfl
    obtain ⟨B10, d10, rfl, _, _⟩ := hM.row_at 4 rfl
    have M3 := Aside0.mk (Mem.sel (ps := [_, _, _, _, _, _, _]) (F := []) [5, 6, 0, 1, 2, 3, 4] 7 (M2.out.trans hM) rfl rfl)
    clear hM
    clear cB
    have cC := blk_cell (M3.out.blk_at 0 rfl)
    have fC := blk_frozen (M3.out.blk_at 0 rfl)
    go_wp2
    have M4 := M3.out.setRow 0 rfl [(.int .i64 r.f0), (.int .i64 r.f1), (.int .i64 r.f2), (.int .i64 r.f3), (.int .i64 r.f4), (.slice B5 r.f5.length d5), (.int .i64 r.f6), (.slice B7 r.f7.length d7), (.slice B8 r.f8.length d8), (.slice B9 r.f9.length d9), (.slice B10 r.f10.length d10), (.int .i64 r.f11), (.int .i64 r.f12)] rfl
    have hg4 := M4.blk_at 0 rfl
    refine bodyPost_ret (results_list (rs := [.cell 6 25, .tmp 7, .tmp 8, .tmp 9]) rfl (by simp) (.cell (w.heap.size + 1) 25 #[.int .i64 r.f0, .int .i64 r.f1, .int .i64 r.f2, .int .i64 r.f3, .int .i64 r.f4, .slice B5 r.f5.length d5, .int .i64 r.f6, .slice B7 r.f7.length d7, .slice B8 r.f8.length d8, .slice B9 r.f9.length d9, .slice B10 r.f10.length d10, .int .i64 r.f11, .int .i64 r.f12] (0, 0) _ rfl hg4 Tryz.underlying25 rfl (by kernel_rfl) (.tmp (.tmp (.tmp .nil))))) rfl ?_
    exact ⟨_, _, _, _, _, _, rfl, Mem.sel (ps := [_, _, _, _, _, _, _, _]) (F := []) [3, 4, 5, 6, 7, 0] 8 (Mem.row_nil M4 kM 27) rfl rfl⟩
theorem Propose_e17 (r : Rep) (A5 A7 A8 A9 A10 : Option Addr) (c5 c7 c8 c9 c10 : Nat) (w : World) (h : RdRep w r A5 A7 A8 A9 A10) (hn : Small r) (time : Int) (data : ByteArray) (hs : data.size ≤ 20000) (h1 : may r = true) (h2 : below time = true) (hx : ¬ (r.f4 = 0 ∧ r.f2 % r.f1 = r.f0)) :
    Calls Tryz.prog 62 #[.agg (rc r (.slice A5 r.f5.length c5) (.slice A7 r.f7.length c7) (.slice A8 r.f8.length c8) (.slice A9 r.f9.length c9) (.slice A10 r.f10.length c10)), .int .i64 time, .string data] w fun e w' => ∃ v5 v7 v8 v9 v10 vout : Value, e = .returned (.tuple #[.agg (rc r v5 v7 v8 v9 v10), vout, .int .i64 0, .int .i64 17]) ∧ Mem w w' (rows r v5 v7 v8 v9 v10 ++ [row kM 27 vout []]) := by
  have hp := (may_iff r).1 h1
  have hn0 : 0 < r.f1 ∧ r.f1 ≤ 5 := by
    have := hp.1
    unfold size at this
    simp at this
    omega
  have hv : 0 ≤ r.f2 ∧ r.f2 < 1099511627776 := by
    have := hp.2.2.2.1
    unfold below maxTime at this
    simpa using this
  clear hp
  obtain ⟨hn1, hn5⟩ := hn0
  obtain ⟨hv1, hv2⟩ := hv
  have H := Aside0.mk h
  have HN := Aside0.mk hn
  have M0 := Aside0.mk (Mem.nil w)
  have M1 := Aside0.mk ((M0.out.alloc (Kx.rA r A5 A7 A8 A9 A10 c5 c7 c8 c9 c10) 25).allocAt #[.int .i64 0, .int .i64 0, .int .i64 0, .int .i64 0, .int .i64 0, .slice none 0 0, .int .i64 0, .slice none 0 0, .slice none 0 0, .slice none 0 0, .slice none 0 0, .int .i64 0, .int .i64 0] 25 (w.heap.size + 1) (by simp))
  clear h hn
  unfold rc
  by_cases h4 : r.f4 = 0
  · have h5 : ¬ r.f2 % r.f1 = r.f0 := fun q => hx ⟨h4, q⟩
    have H4 := Aside0.mk h4
    have e4 : (r.f4 == 0) = true := by simpa using h4
    have e4' : (r.f4 != 0) = false := by simpa using h4
    have e5 : (r.f2 % r.f1 == r.f0) = false := by simpa using h5
    have e5' : (r.f2 % r.f1 != r.f0) = true := by simpa using h5
    clear hx h4 h5
    go_enter Tryz.func62, Tryz.ntmps62
    go_wp2_with fail
    refine (May_calls r A5 A7 A8 A9 A10 c5 c7 c8 c9 c10 _ (Kd.C_below H.out.h5 M1.out.below) (Kd.C_below H.out.h7 M1.out.below) (Kd.C_below H.out.h8 M1.out.below) (Kd.C_below H.out.h9 M1.out.below) (Kd.C_below H.out.h10 M1.out.below) HN.out).mono ?_
    rintro e w1 ⟨rfl, hM⟩
    have M2 := Aside0.mk (M1.out.trans hM)
    clear hM
    have cB := blk_cell (M2.out.blk_at 1 rfl)
    go_wp2_with (go_at_call 96; refine (below_calls _ _).mono ?_; rintro e w' ⟨rfl, rfl⟩)
    refine (copied_calls r A5 A7 A8 A9 A10 c5 c7 c8 c9 c10 _ (H.out.below M2.out.below) HN.out).mono ?_
    rintro e w2 ⟨v5, v7, v8, v9, v10, rfl, hM⟩
    unfold rc
    obtain ⟨B5, d5, rfl, _, _⟩ := hM.row_at 0 rfl
    obtain ⟨B7, d7, rfl, _, _⟩ := hM.row_at 1 rfl
    obtain ⟨B8, d8, rfl, _, _⟩ := hM.row_at 2 rfl
    obtain ⟨B9, d9, rfl, _, _⟩ := hM.row_at 3 rfl
    obtain ⟨B10, d10, rfl, _, _⟩ := hM.row_at 4 rfl
    have M3 := Aside0.mk (Mem.sel (ps := [_, _, _, _, _, _, _]) (F := []) [5, 6, 0, 1, 2, 3, 4] 7 (M2.out.trans hM) rfl rfl)
    clear hM
    clear cB
    have hb0 := blk_lt (M3.out.blk_at 1 rfl)
    have hb1 := blk_lt (M3.out.blk_at 0 rfl)
    have M4 := Aside0.mk (M3.out.alloc #[.int .i64 r.f0, .int .i64 r.f1, .int .i64 r.f2, .int .i64 r.f3, .int .i64 r.f4, .slice B5 r.f5.length d5, .int .i64 r.f6, .slice B7 r.f7.length d7, .slice B8 r.f8.length d8, .slice B9 r.f9.length d9, .slice B10 r.f10.length d10, .int .i64 r.f11, .int .i64 r.f12, .slice none 0 0] 95)
    have cR := fun j => blk_cell (M3.out.blk_at 1 rfl) j
    have cC := fun j => blk_cell (M3.out.blk_at 0 rfl) j
    have fC := fun j => blk_frozen (M3.out.blk_at 0 rfl) j
    go_wp2_with fail
    have hW := M4.out.blk_at 0 rfl
    go_quiet ((go_at_call 97; exact primary_quiet _ _ w2.heap.size r.f0 r.f1 r.f2 r.f3 r.f4 _ r.f6 _ _ _ _ r.f11 r.f12 _ r.f2 hW hv1 (by omega) hn1 hn5))
    clear hW
    go_wp2
    have M5 := fun n => (M4.out.drewN n).setRow 1 rfl [(.int .i64 r.f0), (.int .i64 r.f1), (.int .i64 r.f2), (.int .i64 r.f3), (.int .i64 r.f4), (.slice B5 r.f5.length d5), (.int .i64 r.f6), (.slice B7 r.f7.length d7), (.slice B8 r.f8.length d8), (.slice B9 r.f9.length d9), (.slice B10 r.f10.length d10), (.int .i64 r.f11), (.int .i64 r.f12)] rfl
    have hg5 := fun n => (M5 n).blk_at 1 rfl
    refine bodyPost_ret (results_list (rs := [.cell 6 25, .tmp 7, .tmp 8, .tmp 9]) rfl (by simp) (.cell (w.heap.size + 1) 25 #[.int .i64 r.f0, .int .i64 r.f1, .int .i64 r.f2, .int .i64 r.f3, .int .i64 r.f4, .slice B5 r.f5.length d5, .int .i64 r.f6, .slice B7 r.f7.length d7, .slice B8 r.f8.length d8, .slice B9 r.f9.length d9, .slice B10 r.f10.length d10, .int .i64 r.f11, .int .i64 r.f12] (0, 0) _ rfl (hg5 _) Tryz.underlying25 rfl (by kernel_rfl) (.tmp (.tmp (.tmp .nil))))) rfl ?_
    exact ⟨_, _, _, _, _, _, rfl, Mem.sel (ps := [_, _, _, _, _, _, _, _, _]) (F := []) [4, 5, 6, 7, 8, 0] 9 (Mem.row_nil (M5 _) kM 27) rfl rfl⟩
  · have h5 := h4
    have e4 : (r.f4 == 0) = false := by simpa using h4
    have e4' : (r.f4 != 0) = true := by simpa using h4
    clear hx h4 h5
    go_enter Tryz.func62, Tryz.ntmps62
    go_wp2_with fail
    refine (May_calls r A5 A7 A8 A9 A10 c5 c7 c8 c9 c10 _ (Kd.C_below H.out.h5 M1.out.below) (Kd.C_below H.out.h7 M1.out.below) (Kd.C_below H.out.h8 M1.out.below) (Kd.C_below H.out.h9 M1.out.below) (Kd.C_below H.out.h10 M1.out.below) HN.out).mono ?_
    rintro e w1 ⟨rfl, hM⟩
    have M2 := Aside0.mk (M1.out.trans hM)
    clear hM
    have cB := blk_cell (M2.out.blk_at 1 rfl)
    go_wp2_with (go_at_call 96; refine (below_calls _ _).mono ?_; rintro e w' ⟨rfl, rfl⟩)
    refine (copied_calls r A5 A7 A8 A9 A10 c5 c7 c8 c9 c10 _ (H.out.below M2.out.below) HN.out).mono ?_
    rintro e w2 ⟨v5, v7, v8, v9, v10, rfl, hM⟩
    unfold rc
    obtain ⟨B5, d5, rfl, _, _⟩ := hM.row_at 0 rfl
    obtain ⟨B7, d7, rfl, _, _⟩ := hM.row_at 1 rfl
    obtain ⟨B8, d8, rfl, _, _⟩ := hM.row_at 2 rfl
    obtain ⟨B9, d9, rfl, _, _⟩ := hM.row_at 3 rfl
    obtain ⟨B10, d10, rfl, _, _⟩ := hM.row_at 4 rfl
    have M3 := Aside0.mk (Mem.sel (ps := [_, _, _, _, _, _, _]) (F := []) [5, 6, 0, 1, 2, 3, 4] 7 (M2.out.trans hM) rfl rfl)
    clear hM
    clear cB
    have hb0 := blk_lt (M3.out.blk_at 1 rfl)
    have hb1 := blk_lt (M3.out.blk_at 0 rfl)
    have M4 := Aside0.mk (M3.out.alloc #[.int .i64 r.f0, .int .i64 r.f1, .int .i64 r.f2, .int .i64 r.f3, .int .i64 r.f4, .slice B5 r.f5.length d5, .int .i64 r.f6, .slice B7 r.f7.length d7, .slice B8 r.f8.length d8, .slice B9 r.f9.length d9, .slice B10 r.f10.length d10, .int .i64 r.f11, .int .i64 r.f12, .slice none 0 0] 95)
    have cR := fun j => blk_cell (M3.out.blk_at 1 rfl) j
    have cC := fun j => blk_cell (M3.out.blk_at 0 rfl) j
    have fC := fun j => blk_frozen (M3.out.blk_at 0 rfl) j
    go_wp2_with fail
    go_quiet (fail)
    go_wp2
    have M5 := fun n => (M4.out.drewN n).setRow 1 rfl [(.int .i64 r.f0), (.int .i64 r.f1), (.int .i64 r.f2), (.int .i64 r.f3), (.int .i64 r.f4), (.slice B5 r.f5.length d5), (.int .i64 r.f6), (.slice B7 r.f7.length d7), (.slice B8 r.f8.length d8), (.slice B9 r.f9.length d9), (.slice B10 r.f10.length d10), (.int .i64 r.f11), (.int .i64 r.f12)] rfl
    have hg5 := fun n => (M5 n).blk_at 1 rfl
    refine bodyPost_ret (results_list (rs := [.cell 6 25, .tmp 7, .tmp 8, .tmp 9]) rfl (by simp) (.cell (w.heap.size + 1) 25 #[.int .i64 r.f0, .int .i64 r.f1, .int .i64 r.f2, .int .i64 r.f3, .int .i64 r.f4, .slice B5 r.f5.length d5, .int .i64 r.f6, .slice B7 r.f7.length d7, .slice B8 r.f8.length d8, .slice B9 r.f9.length d9, .slice B10 r.f10.length d10, .int .i64 r.f11, .int .i64 r.f12] (0, 0) _ rfl (hg5 _) Tryz.underlying25 rfl (by kernel_rfl) (.tmp (.tmp (.tmp .nil))))) rfl ?_
    exact ⟨_, _, _, _, _, _, rfl, Mem.sel (ps := [_, _, _, _, _, _, _, _, _]) (F := []) [4, 5, 6, 7, 8, 0] 9 (Mem.row_nil (M5 _) kM 27) rfl rfl⟩
end Go.Proofs.YtggbjokhniigkaaGreat.Wf
namespace Go.Proofs.YtggbjokhniigkaaGreat.Wh0
open Ty Go.RowKit YtggbjokhniigkaaGreatW.PrintWords YtggbjokhniigkaaGreatW.PrintLast YtggbjokhniigkaaGreatW.PrintMore Mx Kx Wa Wb Wd We
theorem blk_ne {w0 w : World} {rs : List Res} (h : Mem w0 w rs) (i j : Nat) {g T g' T' : Nat} {cs cs' : Array Value} (hi : rs[i]? = some (blk g T cs)) (hj : rs[j]? = some (blk g' T' cs')) (hij : i ≠ j) : ¬ g = g' := by
  obtain ⟨f, q, h1, h2, _, _, h5, _⟩ := h.take2 hi hj hij
  intro e
  subst e
  exact h5 _ h1.2 h2.2
theorem Rd.ent {w0 : World} {g : Nat} {x : Entry} : Rd w0 (blk g 68 #[.int .i64 x.f0, .string x.f1]) kE (some ⟨g, 0, none⟩) [x] := fun w rs i hM hi =>
  (reads_one (d := kE) x (hM.blk_at i hi) rfl).imp_ (Below.refl _ _) (fun y c hx => by obtain ⟨rfl, rfl⟩ := hx; exact kE_mk w y)
theorem prop_all (r : Rep) (B8 B9 B10 C5 : Option Addr) (d7 d8 d9 d10 d5' g7 ge gw : Nat) (w wx : World) (tm cm : Int) (data : ByteArray) (A5 A7 A8 A9 A10 : Option Addr) (c5 c7 c8 c9 c10 : Nat)
    (M8 : Mem w wx [blk ge 68 #[.int .i64 tm, .string data], blk gw 95 #[.int .i64 r.f0, .int .i64 r.f1, .int .i64 r.f2, .int .i64 r.f3, .int .i64 r.f4, .slice C5 (r.f5.length + 1) d5', .int .i64 cm, .slice (some ⟨g7, 0, none⟩) r.f7.length d7, .slice B8 r.f8.length d8, .slice B9 r.f9.length d9, .slice B10 r.f10.length d10, .int .i64 r.f11, .int .i64 r.f12, .slice none 0 0], blk (w.heap.size + 1) 25 #[.int .i64 0, .int .i64 0, .int .i64 0, .int .i64 0, .int .i64 0, .slice none 0 0, .int .i64 0, .slice none 0 0, .slice none 0 0, .slice none 0 0, .slice none 0 0, .int .i64 0, .int .i64 0], blk w.heap.size 25 (Kx.rA r A5 A7 A8 A9 A10 c5 c7 c8 c9 c10), row kE 68 (.slice C5 (r.f5.length + 1) d5') (r.f5 ++ [⟨tm, data⟩]), row (Kd.int .i64) 3 (.slice (some ⟨g7, 0, none⟩) r.f7.length d7) (r.f7.set r.f0.toNat ((r.f5.length : Int) + 1)), row (Kd.int .i64) 3 (.slice B8 r.f8.length d8) r.f8, row (Kd.int .i64) 3 (.slice B9 r.f9.length d9) r.f9, row kE 68 (.slice B10 r.f10.length d10) r.f10]) (hn1 : 0 < r.f1) (hn5 : r.f1 ≤ 5) :
    Calls Tryz.prog 98 #[.pointer (some ⟨gw, 0, none⟩), .agg #[.int .i64 1, .int .i64 0, .int .i64 0, .int .i64 0, .int .i64 ((r.f5.length : Int) + 1), .int .i64 cm, .int .i64 0, .slice (some ⟨wx.heap.size, 0, none⟩) 1 1]] (wx.alloc (Obj.cells #[.int .i64 tm, .string data] 68)).drew fun e w' => ∃ vo : Value, e = .returned (.tuple #[]) ∧ Mem w w' [blk wx.heap.size 68 #[.int .i64 tm, .string data], blk gw 95 #[.int .i64 r.f0, .int .i64 r.f1, .int .i64 r.f2, .int .i64 r.f3, .int .i64 r.f4, .slice C5 (r.f5.length + 1) d5', .int .i64 cm, .slice (some ⟨g7, 0, none⟩) r.f7.length d7, .slice B8 r.f8.length d8, .slice B9 r.f9.length d9, .slice B10 r.f10.length d10, .int .i64 r.f11, .int .i64 r.f12, vo], row kM 27 vo (toAll r ⟨1, 0, 0, 0, (r.f5.length : Int) + 1, cm, 0, [⟨tm, data⟩]⟩), blk ge 68 #[.int .i64 tm, .string data], blk (w.heap.size + 1) 25 #[.int .i64 0, .int .i64 0, .int .i64 0, .int .i64 0, .int .i64 0, .slice none 0 0, .int .i64 0, .slice none 0 0, .slice none 0 0, .slice none 0 0, .slice none 0 0, .int .i64 0, .int .i64 0], blk w.heap.size 25 (Kx.rA r A5 A7 A8 A9 A10 c5 c7 c8 c9 c10), row kE 68 (.slice C5 (r.f5.length + 1) d5') (r.f5 ++ [⟨tm, data⟩]), row (Kd.int .i64) 3 (.slice (some ⟨g7, 0, none⟩) r.f7.length d7) (r.f7.set r.f0.toNat ((r.f5.length : Int) + 1)), row (Kd.int .i64) 3 (.slice B8 r.f8.length d8) r.f8, row (Kd.int .i64) 3 (.slice B9 r.f9.length d9) r.f9, row kE 68 (.slice B10 r.f10.length d10) r.f10] := by
  have M9 := Mem.row_nil ((M8.allocAt #[.int .i64 tm, .string data] 68 wx.heap.size rfl).drew) kM 27
  have MA := Mem.sel (ps := [_, _, _, _, _, _, _, _, _, _, _]) (F := []) [1, 3, 0, 2, 4, 5, 6, 7, 8, 9, 10] 11 M9 rfl rfl
  refine (all_calls w _ (blk wx.heap.size 68 #[.int .i64 tm, .string data]) [blk ge 68 #[.int .i64 tm, .string data], blk (w.heap.size + 1) 25 #[.int .i64 0, .int .i64 0, .int .i64 0, .int .i64 0, .int .i64 0, .slice none 0 0, .int .i64 0, .slice none 0 0, .slice none 0 0, .slice none 0 0, .slice none 0 0, .int .i64 0, .int .i64 0], blk w.heap.size 25 (Kx.rA r A5 A7 A8 A9 A10 c5 c7 c8 c9 c10), row kE 68 (.slice C5 (r.f5.length + 1) d5') (r.f5 ++ [⟨tm, data⟩]), row (Kd.int .i64) 3 (.slice (some ⟨g7, 0, none⟩) r.f7.length d7) (r.f7.set r.f0.toNat ((r.f5.length : Int) + 1)), row (Kd.int .i64) 3 (.slice B8 r.f8.length d8) r.f8, row (Kd.int .i64) 3 (.slice B9 r.f9.length d9) r.f9, row kE 68 (.slice B10 r.f10.length d10) r.f10] gw r.f0 r.f1 r.f2 r.f3 r.f4 (.slice C5 (r.f5.length + 1) d5') cm (.slice (some ⟨g7, 0, none⟩) r.f7.length d7) (.slice B8 r.f8.length d8) (.slice B9 r.f9.length d9) (.slice B10 r.f10.length d10) r.f11 r.f12 (.slice none 0 0) [] 1 0 0 0 ((r.f5.length : Int) + 1) cm 0 (some ⟨wx.heap.size, 0, none⟩) 1 [⟨tm, data⟩] MA (Rd.ent (x := ⟨tm, data⟩)) (by simp) (by simp) (by decide) hn1 hn5).mono ?_
  rintro e w' ⟨vo, rfl, hM⟩
  exact ⟨vo, rfl, hM⟩
end Go.Proofs.YtggbjokhniigkaaGreat.Wh0
namespace Go.Proofs.YtggbjokhniigkaaGreatW.PrintWords
end Go.Proofs.YtggbjokhniigkaaGreatW.PrintWords
namespace Kd
end Kd
-- PRINTED BY print.sh 35421559b90ae4d0a3588c463048766b98c2df88dd9212a6774a882060cdf62d: not written by this session
/-! ### 54. Behind orders that were drawn quietly: the same facts at the world's new name; a flat row's foot -/
namespace Go.Proofs.YtggbjokhniigkaaGreatW.PrintWords
open Go.RowKit
section
variable {w w' u : World} {m B g : Nat} {o : Obj} {row : Option Nat} {S : Nat → Prop} {a : Addr} {v : Value}
theorem blk_at (hq : w.drewN m = w') (h : w.heap[g]? = some o) : w'.heap[g]? = some o := by subst hq; exact h
end
namespace Kd
section
variable {α : Type} {d : Kd α} {e base n m : Nat} {ok : Nat → Prop} {w w' : World} {v : Value} {A : Option Addr} {xs : List α}
end
end Kd
end Go.Proofs.YtggbjokhniigkaaGreatW.PrintWords
-- PRINTED BY print.sh 35421559b90ae4d0a3588c463048766b98c2df88dd9212a6774a882060cdf62d: not written by this session
/-! ### 53. '==' of structs as_ one Bool -/
namespace Go.Proofs.YtggbjokhniigkaaGreatW.PrintWords
open Go.RowKit
section
variable {P : Program} {d : Nat} {xs ys : Array Value} {f : Field} {fs : List Field} {a b : Value} {r s : Bool} {w : World}
/-- The last field that counts. -/
theorem eqf_last (hn : (f.name == "_") = false) (ha : (part f.type xs f.offset).run P w = .ok a w) (hb : (part f.type ys f.offset).run P w = .ok b w) (he : (Op.equalIn d f.type a b).run P w = .ok r w) : (Op.eqFields d xs ys [f]).run P w = .ok r w := by
  have hn' : f.name ≠ "_" := by simpa using hn
  simp only [Op.eqFields, if_pos hn', Sem.run_bind, ha, hb, he, Result.andThen_ok]
  cases r <;> simp
theorem eqf_cons (hn : (f.name == "_") = false) (ha : (part f.type xs f.offset).run P w = .ok a w) (hb : (part f.type ys f.offset).run P w = .ok b w) (he : (Op.equalIn d f.type a b).run P w = .ok r w) (hr : (Op.eqFields d xs ys fs).run P w = .ok s w) : (Op.eqFields d xs ys (f :: fs)).run P w = .ok (r && s) w := by
  have hn' : f.name ≠ "_" := by simpa using hn
  rw [Op.eqFields]
  simp only [if_pos hn', Sem.run_bind, ha, hb, he, Result.andThen_ok]
  cases r
  · simp
  · simpa using hr
theorem eqA_of {t : TypeId} {fs : Array Field} (hu : P.underlying t = some (.struct fs)) (hp : P.stoodInHeld t = false) (h : (Op.eqFields d xs ys fs.toList).run P w = .ok r w) : (Op.equalIn (d + 1) t (.agg xs) (.agg ys)).run P w = .ok r w := by
  have hf : P.fieldsOf t = fs := by simp [Program.fieldsOf, hu]
  rw [run_equalIn_struct (P := P) w d t xs ys (by rw [hf]; exact hu) hp, hf]
  exact h
end
end Go.Proofs.YtggbjokhniigkaaGreatW.PrintWords
-- PRINTED BY print.sh 35421559b90ae4d0a3588c463048766b98c2df88dd9212a6774a882060cdf62d: not written by this session
/-! ### 55. Reps told from the front, no append: for rows of one-cell elements and of wider ones -/
namespace Go.Proofs.YtggbjokhniigkaaGreatW.PrintWords
/-- One cell an element. -/
theorem Reps.one {α : Type} {R : α → List Value → Prop} {ps : List α} {cs : List Value} {p : α} {v : Value} (hp : R p [v]) (h : Reps R 1 ps cs) : Reps R 1 (p :: ps) (v :: cs) := by
  refine ⟨by simp [h.1], fun j q hq => ?_⟩
  cases j with
  | zero =>
    simp only [List.getElem?_cons_zero, Option.some.injEq] at hq
    subst hq
    simpa using hp
  | succ j =>
    simp only [List.getElem?_cons_succ] at hq
    have h1 := h.2 j q hq
    simpa [Nat.mul_one] using h1
/-- More cells an element: told apart by the cells' list. -/
theorem Reps.front {α : Type} {R : α → List Value → Prop} {size : Nat} {ps : List α} {cs c all : List Value} {p : α} (hp : R p c) (hc : c.length = size) (h : Reps R size ps cs) (ha : c ++ cs = all) : Reps R size (p :: ps) all := by
  subst ha
  refine ⟨by rw [List.length_append, hc, h.1, List.length_cons, Nat.succ_mul, Nat.add_comm], fun j q hq => ?_⟩
  cases j with
  | zero =>
    simp only [List.getElem?_cons_zero, Option.some.injEq] at hq
    subst hq
    rw [Nat.zero_mul, List.drop_zero, List.take_append_of_le_length (by omega), List.take_of_length_le (by omega)]
    exact hp
  | succ j =>
    simp only [List.getElem?_cons_succ] at hq
    have h1 := h.2 j q hq
    rw [Nat.succ_mul, List.drop_append, List.drop_of_length_le (by rw [hc]; exact Nat.le_add_left _ _), List.nil_append, hc, Nat.add_sub_cancel]
    exact h1
theorem Reps.c2 {α : Type} {R : α → List Value → Prop} {ps : List α} {cs : List Value} {p : α} {va vb : Value} (hp : R p [va, vb]) (h : Reps R 2 ps cs) : Reps R 2 (p :: ps) (va :: vb :: cs) := Reps.front hp rfl h rfl
theorem Reps.c3 {α : Type} {R : α → List Value → Prop} {ps : List α} {cs : List Value} {p : α} {va vb vc : Value} (hp : R p [va, vb, vc]) (h : Reps R 3 ps cs) : Reps R 3 (p :: ps) (va :: vb :: vc :: cs) := Reps.front hp rfl h rfl
theorem Reps.c4 {α : Type} {R : α → List Value → Prop} {ps : List α} {cs : List Value} {p : α} {va vb vc vd : Value} (hp : R p [va, vb, vc, vd]) (h : Reps R 4 ps cs) : Reps R 4 (p :: ps) (va :: vb :: vc :: vd :: cs) := Reps.front hp rfl h rfl
theorem Reps.c5 {α : Type} {R : α → List Value → Prop} {ps : List α} {cs : List Value} {p : α} {va vb vc vd ve : Value} (hp : R p [va, vb, vc, vd, ve]) (h : Reps R 5 ps cs) : Reps R 5 (p :: ps) (va :: vb :: vc :: vd :: ve :: cs) := Reps.front hp rfl h rfl
theorem Reps.c6 {α : Type} {R : α → List Value → Prop} {ps : List α} {cs : List Value} {p : α} {va vb vc vd ve vf : Value} (hp : R p [va, vb, vc, vd, ve, vf]) (h : Reps R 6 ps cs) : Reps R 6 (p :: ps) (va :: vb :: vc :: vd :: ve :: vf :: cs) := Reps.front hp rfl h rfl
theorem Reps.c7 {α : Type} {R : α → List Value → Prop} {ps : List α} {cs : List Value} {p : α} {va vb vc vd ve vf vg : Value} (hp : R p [va, vb, vc, vd, ve, vf, vg]) (h : Reps R 7 ps cs) : Reps R 7 (p :: ps) (va :: vb :: vc :: vd :: ve :: vf :: vg :: cs) := Reps.front hp rfl h rfl
theorem Reps.c8 {α : Type} {R : α → List Value → Prop} {ps : List α} {cs : List Value} {p : α} {va vb vc vd ve vf vg vh : Value} (hp : R p [va, vb, vc, vd, ve, vf, vg, vh]) (h : Reps R 8 ps cs) : Reps R 8 (p :: ps) (va :: vb :: vc :: vd :: ve :: vf :: vg :: vh :: cs) := Reps.front hp rfl h rfl
theorem Reps.c9 {α : Type} {R : α → List Value → Prop} {ps : List α} {cs : List Value} {p : α} {va vb vc vd ve vf vg vh vi : Value} (hp : R p [va, vb, vc, vd, ve, vf, vg, vh, vi]) (h : Reps R 9 ps cs) : Reps R 9 (p :: ps) (va :: vb :: vc :: vd :: ve :: vf :: vg :: vh :: vi :: cs) := Reps.front hp rfl h rfl
theorem Reps.c10 {α : Type} {R : α → List Value → Prop} {ps : List α} {cs : List Value} {p : α} {va vb vc vd ve vf vg vh vi vj : Value} (hp : R p [va, vb, vc, vd, ve, vf, vg, vh, vi, vj]) (h : Reps R 10 ps cs) : Reps R 10 (p :: ps) (va :: vb :: vc :: vd :: ve :: vf :: vg :: vh :: vi :: vj :: cs) := Reps.front hp rfl h rfl
end Go.Proofs.YtggbjokhniigkaaGreatW.PrintWords
-- PRINTED BY print.sh 35421559b90ae4d0a3588c463048766b98c2df88dd9212a6774a882060cdf62d: not written by this session
/-! ### 57. A region of open order by ONE relation over what is listed so far: each operation is shown once, whatever came up before it -/
namespace Go.Proofs.YtggbjokhniigkaaGreatW.PrintLast
/-- Number i is listed too. -/
def up (b : Nat → Bool) (i : Nat) : Nat → Bool := fun j => if j = i then true else b j
section
variable {P : Program} {ops : Array Oper} {Q : Exit → Act → World → Prop} {md : Region.Mode} {T : Bool × List (List Nat × List Nat)} {B : List Nat} {O : List Nat} {b : Nat → Bool} {i j n : Nat}
/-! The frame: what is listed has its destination filled. -/
end
end Go.Proofs.YtggbjokhniigkaaGreatW.PrintLast
namespace Go.Proofs.YtggbjokhniigkaaGreatW.PrintWords
end Go.Proofs.YtggbjokhniigkaaGreatW.PrintWords
namespace Go.Proofs.YtggbjokhniigkaaGreatW.PrintLast
end Go.Proofs.YtggbjokhniigkaaGreatW.PrintLast
namespace Go.Proofs.YtggbjokhniigkaaGreatW.PrintWords
end Go.Proofs.YtggbjokhniigkaaGreatW.PrintWords
-- PRINTED BY print.sh 35421559b90ae4d0a3588c463048766b98c2df88dd9212a6774a882060cdf62d: not written by this session
namespace Go.Proofs.YtggbjokhniigkaaGreat.PReplicaTakes
open Go.RowKit YtggbjokhniigkaaGreatW.PrintWords YtggbjokhniigkaaGreatW.PrintLast YtggbjokhniigkaaGreatW.PrintMore
attribute [local go_sem] max2_int min2_int max_two min_two max_three min_three max_four min_four   -- for this text's walks alone
def errW : Option Int → Value
  | none => .nilIface
  | some c => .iface 0 (.int .i64 c)
theorem errW_none : errW none = .nilIface := rfl
theorem errW_some (c : Int) : errW (some c) = .iface 0 (.int .i64 c) := rfl
-- the values' own types
/-! #### struct type 68 -/
structure S68 where
  f0 : Int
  f1 : ByteArray
def z68 : S68 := ⟨(0 : Int), (⟨#[]⟩ : ByteArray)⟩
def k68 : Kd S68 := Kd.iso (Kd.pair (Kd.int .i64) Kd.string) (fun x : S68 => (x.f0, x.f1))
theorem k68_open {w : World} {x : S68} {cs : List Value} (h : k68.K w x cs) : cs = [.int .i64 x.f0, .string x.f1] := by
  obtain ⟨_, _, rfl, rfl, rfl⟩ := h
  exact rfl
theorem k68_mk (w : World) (x : S68)  : k68.K w x [.int .i64 x.f0, .string x.f1] := ⟨[.int .i64 x.f0], [.string x.f1], rfl, rfl, rfl⟩
def rd_T68 (xs : List S68) (i : Int) : S68 := xs.getD i.toNat z68
theorem at_T68 {w : World} {A : Option Addr} {n : Nat} {xs : List S68} (h : Kd.C k68 w A n xs) (i : Int) (h0 : 0 ≤ i) (h1 : i < n) : ∃ ad , A = some ad ∧ w.cell? (ad.add (i.toNat * 2)) = some (.int .i64 (rd_T68 xs i).f0) ∧ w.cell? ⟨(ad.add (i.toNat * 2)).block, (ad.add (i.toNat * 2)).off + 1, none⟩ = some (.string (rd_T68 xs i).f1) := by
  obtain ⟨ad, c, e, _, hK, hc0⟩ := Kd.C_get h z68 i h0 h1
  have hc : ∀ j u, c[j]? = some u → w.cell? (ad.add (i.toNat * 2 + j)) = some u := hc0
  obtain rfl := k68_open hK
  exact ⟨ad, e, hc 0 _ rfl, by rw [← add_field _ _ 1 (by omega)]; exact hc 1 _ rfl⟩
/-! #### struct type 27 -/
end Go.Proofs.YtggbjokhniigkaaGreat.PReplicaTakes
-- PRINTED BY print.sh 35421559b90ae4d0a3588c463048766b98c2df88dd9212a6774a882060cdf62d: not written by this session
namespace Go.Proofs.YtggbjokhniigkaaGreat.PReplicaTakes
open Go.RowKit YtggbjokhniigkaaGreatW.PrintWords YtggbjokhniigkaaGreatW.PrintLast YtggbjokhniigkaaGreatW.PrintMore
attribute [local go_sem] max2_int min2_int max_two min_two max_three min_three max_four min_four   -- for this text's walks alone
theorem eqA68 (d : Nat) (w : World) (x0 y0 : Int) (x1 y1 : ByteArray) :
    (Op.equalIn (d + 2) 68 (.agg #[.int .i64 x0, .string x1]) (.agg #[.int .i64 y0, .string y1])).run Tryz.prog w = .ok (x0 == y0 && (x1.toList == y1.toList)) w := by
  refine eqA_of Tryz.underlying68 (by kernel_rfl) ?_
  refine eqf_cons (by rfl) (by go_simp; rfl) (by go_simp; rfl) (by go_simp) ?_
  exact eqf_last (by rfl) (by go_simp; rfl) (by go_simp; rfl) (by go_simp)
end Go.Proofs.YtggbjokhniigkaaGreat.PReplicaTakes
namespace Go.Proofs.YtggbjokhniigkaaGreat.PReplicaTakes
open Go.RowKit YtggbjokhniigkaaGreatW.PrintWords YtggbjokhniigkaaGreatW.PrintLast YtggbjokhniigkaaGreatW.PrintMore
attribute [local go_sem] max2_int min2_int max_two min_two max_three min_three max_four min_four   -- for this text's walks alone
attribute [local go_sem high] eqA68
/-! ### falseworklaw11_num: function 38 -/
def falseworklaw11_num.f (a0 : Int) : Option (Int) := some a0
theorem falseworklaw11_num.calls (a0 : Int) (r : Int) (w : World) (h : falseworklaw11_num.f a0 = some r) :
    Calls Tryz.prog 38 #[.int .i64 a0] w fun e w' => e = .returned (.int .i64 r) ∧ Drawn0 w w' := by
  have H : (some a0) = some r := h
  clear h
  obtain rfl := Option.some.inj H
  go_enter Tryz.func38, Tryz.ntmps38
  go_wp2
  go_ret
  exact ⟨by first | rfl | (simp; done) | (simp [*]; done), by repeat (first | exact Drawn0.refl _ | apply Drawn0.step)⟩
/-! ### falseworkref11_odd: function 44 -/
/-! ### falseworklaw11_entries: function 31 -/
def falseworklaw11_entries.l0 : Nat → List (S68) → Int → Int → Option (Bool)
  | 0, _, _, _ => none
  | k + 1, x0, x3, x4 => if x4 < (x0.length : Int) then (if x3 ≤ 100000 then (if 0 ≤ x4 then (falseworklaw11_entries.l0 k x0 (wrap64 ((wrap64 (x3 + 1)) + (mn (((rd_T68 x0 x4).f1).size : Int) 100000))) (wrap64 (x4 + 1))) else (none)) else (if x3 > 100000 then (some true) else (some (decide ((x0.length : Int) > 1200))))) else (if x3 > 100000 then (some true) else (some (decide ((x0.length : Int) > 1200))))
def falseworklaw11_entries.f (k : Nat) (l0 : List (S68)) : Option (Bool) := falseworklaw11_entries.l0 k l0 0 0
theorem falseworklaw11_entries.mono_l : ∀ k, (∀ y0 y1 y2, LeO (falseworklaw11_entries.l0 k y0 y1 y2) (falseworklaw11_entries.l0 (k + 1) y0 y1 y2))
  | 0 => fun _ _ _ r h => by simp [falseworklaw11_entries.l0] at h
  | k + 1 => by
    have ih0 := falseworklaw11_entries.mono_l k
    · intro y0 y1 y2
      unfold falseworklaw11_entries.l0
      repeat' first
      | (with_reducible exact ih0 _ _ _)
      | (with_reducible exact LeO.refl _)
      | (with_reducible exact LeO.none _)
      | (with_reducible refine LeO.ite ?_ ?_)
      | (with_reducible refine LeO.bind ?_ (fun _ => ?_))
      | exact ih0 _ _ _
      | exact LeO.none _
      | refine LeO.ite ?_ ?_
      | refine LeO.bind ?_ (fun _ => ?_)
theorem falseworklaw11_entries.mono : ∀ a0 k, LeO (falseworklaw11_entries.f k a0) (falseworklaw11_entries.f (k + 1) a0) := by
  intro a0 k
  have ih0 := falseworklaw11_entries.mono_l k
  unfold falseworklaw11_entries.f
  repeat' first
      | (with_reducible exact ih0 _ _ _)
      | (with_reducible exact LeO.refl _)
      | (with_reducible exact LeO.none _)
      | (with_reducible refine LeO.ite ?_ ?_)
      | (with_reducible refine LeO.bind ?_ (fun _ => ?_))
      | exact ih0 _ _ _
      | exact LeO.none _
      | refine LeO.ite ?_ ?_
      | refine LeO.bind ?_ (fun _ => ?_)
theorem falseworklaw11_entries.calls (k : Nat) (A0 : Option Addr) (c0 : Nat) (l0 : List (S68)) (r : Bool) (w : World) (hr0 : Kd.C k68 w A0 l0.length l0) (hc0 : l0.length ≤ c0) (h : falseworklaw11_entries.f k l0 = some r) :
    Calls Tryz.prog 31 #[.slice A0 l0.length c0] w fun e w' => e = .returned (.bool r) ∧ Below w.heap.size w w' := by
  have HR0 := Aside0.mk hr0
  have HC0 := Aside0.mk hc0
  clear hr0 hc0
  have HB := Aside0.mk (Below.refl w.heap.size w)
  have H : (falseworklaw11_entries.l0 k l0 0 0) = some r := h
  clear h
  have H' := Aside0.mk H
  clear H
  go_enter Tryz.func31, Tryz.ntmps31
  go_wp2
  go_loopg [3, 4] k (fun kq v3 v4 w' => ∃ (x3_1 : Int) (x4_1 : Int), v3 = .int .i64 x3_1 ∧ v4 = .int .i64 x4_1 ∧ Aside0 (falseworklaw11_entries.l0 kq l0 x3_1 x4_1 = some r) ∧ Aside0 (kq ≤ k) ∧ Aside0 (Below w.heap.size w w'))
  case atStart => exact ⟨(0), (0), (by first | rfl | (simp; done) | (simp [*]; done)), (by first | rfl | (simp; done) | (simp [*]; done)), H', ⟨Nat.le_refl _⟩, ⟨by repeat (first | (with_reducible first | exact HB.out | apply below_alloc | apply pw_below_drewN | apply below_drew1) | exact HB.out)⟩⟩
  case round =>
    clear H'
    obtain ⟨x3_1, x4_1, rfl, rfl, HA, HK1, HB⟩ := hrel
    cases gk with
    | zero => exact absurd HA.out (by simp [falseworklaw11_entries.l0])
    | succ k1 =>
      have H := HA.out
      clear HA
      simp only [falseworklaw11_entries.l0] at H
      by_cases c2 : x4_1 < (l0.length : Int)
      · rw [if_pos c2] at H
        have c2b0 : decide (x4_1 < (l0.length : Int)) = true := decide_eq_true c2
        clear c2
        by_cases c3 : x3_1 ≤ 100000
        · rw [if_pos c3] at H
          have c3b0 : decide (x3_1 ≤ 100000) = true := decide_eq_true c3
          clear c3
          by_cases c4 : 0 ≤ x4_1
          · rw [if_pos c4] at H
            have c4b0 : decide (0 ≤ x4_1) = true := decide_eq_true c4
            clear c4
            obtain ⟨ji5, hji5⟩ : ∃ j_ : Int, (mn (((rd_T68 l0 x4_1).f1).size : Int) 100000) = j_ := ⟨_, rfl⟩
            replace H : (falseworklaw11_entries.l0 k1 l0 (wrap64 ((wrap64 (x3_1 + 1)) + (ji5))) (wrap64 (x4_1 + 1))) = some r := by first | (rw [hji5] at H; exact H) | (simp only [hji5] at H ⊢; exact H)
            have hji5_ : (if 100000 < (((rd_T68 l0 x4_1).f1).size : Int) then 100000 else (((rd_T68 l0 x4_1).f1).size : Int)) = ji5 := hji5
            have H' := Aside0.mk H
            clear H
            have p101 : 0 ≤ (x4_1 : Int) := of_decide_eq_true (by first | (with_reducible assumption) | assumption)
            have q101 : x4_1 < (l0.length : Int) := of_decide_eq_true (by first | (with_reducible assumption) | assumption)
            obtain ⟨ad101, e101, hx101_0, hx101_1⟩ := at_T68 HR0.out x4_1 p101 q101
            cases e101
            replace hx101_0 := (HB.out.cell (World.block_lt_of_cell? w _ hx101_0)).trans hx101_0
            replace hx101_1 := (HB.out.cell (World.block_lt_of_cell? w _ hx101_1)).trans hx101_1
            replace p101 := eq_true p101
            replace q101 := eq_true q101
            go_wp2
            go_roundg k1
            case measure => have := HK1.out; omega
            case rel => exact ⟨(wrap64 ((wrap64 (x3_1 + 1)) + (ji5))), (wrap64 (x4_1 + 1)), (by first | rfl | (simp; done) | (simp only [← hji5] <;> (first | rfl | simp)) | (simp [*]; done)), (by first | rfl | (simp; done) | (simp [*]; done)), H', ⟨by have := HK1.out; omega⟩, ⟨by repeat (first | (with_reducible first | exact HB.out | apply below_alloc | apply pw_below_drewN | apply below_drew1) | exact HB.out)⟩⟩
          · rw [if_neg c4] at H
            exact absurd H (by simp)
        · rw [if_neg c3] at H
          have c3b0 : decide (x3_1 ≤ 100000) = false := decide_eq_false c3
          clear c3
          by_cases c6 : x3_1 > 100000
          · rw [if_pos c6] at H
            have c6b0 : decide (100000 < x3_1) = true := decide_eq_true c6
            clear c6
            obtain rfl := Option.some.inj H
            go_wp2
            go_ret
            exact ⟨by first | rfl | (simp [errW_none, errW_some] <;> rfl) | (simp [*, errW_none, errW_some] <;> rfl), by repeat (first | (with_reducible first | exact HB.out | apply below_alloc | apply pw_below_drewN | apply below_drew1) | exact HB.out)⟩
          · rw [if_neg c6] at H
            have c6b0 : decide (100000 < x3_1) = false := decide_eq_false c6
            clear c6
            obtain rfl := Option.some.inj H
            go_wp2
            go_ret
            exact ⟨by first | rfl | (simp [errW_none, errW_some] <;> rfl) | (simp [*, errW_none, errW_some] <;> rfl), by repeat (first | (with_reducible first | exact HB.out | apply below_alloc | apply pw_below_drewN | apply below_drew1) | exact HB.out)⟩
      · rw [if_neg c2] at H
        have c2b0 : decide (x4_1 < (l0.length : Int)) = false := decide_eq_false c2
        clear c2
        by_cases c7 : x3_1 > 100000
        · rw [if_pos c7] at H
          have c7b0 : decide (100000 < x3_1) = true := decide_eq_true c7
          clear c7
          obtain rfl := Option.some.inj H
          go_wp2
          go_ret
          exact ⟨by first | rfl | (simp [errW_none, errW_some] <;> rfl) | (simp [*, errW_none, errW_some] <;> rfl), by repeat (first | (with_reducible first | exact HB.out | apply below_alloc | apply pw_below_drewN | apply below_drew1) | exact HB.out)⟩
        · rw [if_neg c7] at H
          have c7b0 : decide (100000 < x3_1) = false := decide_eq_false c7
          clear c7
          obtain rfl := Option.some.inj H
          go_wp2
          go_ret
          exact ⟨by first | rfl | (simp [errW_none, errW_some] <;> rfl) | (simp [*, errW_none, errW_some] <;> rfl), by repeat (first | (with_reducible first | exact HB.out | apply below_alloc | apply pw_below_drewN | apply below_drew1) | exact HB.out)⟩
end Go.Proofs.YtggbjokhniigkaaGreat.PReplicaTakes
namespace Go.Proofs.YtggbjokhniigkaaGreat.PReplicaTakes
end Go.Proofs.YtggbjokhniigkaaGreat.PReplicaTakes
namespace Go.Proofs.YtggbjokhniigkaaGreat.PReplicaTakes
end Go.Proofs.YtggbjokhniigkaaGreat.PReplicaTakes
