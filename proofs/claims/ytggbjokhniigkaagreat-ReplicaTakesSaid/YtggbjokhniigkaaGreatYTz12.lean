/- Texts laid together: Tr, Ms, Sm, Jk. No condition. -/
import Derived.Deep.RegionHeld3
import Derived.Deep.LoopGhost
import Derived.OrdersHeld
import Derived.Test.YtggbjokhniigkaaGreatYTz11
set_option linter.unusedVariables false
set_option linter.unusedSimpArgs false
set_option maxRecDepth 100000
set_option maxHeartbeats 8000000
namespace Go.Proofs.YtggbjokhniigkaaGreat.Tr
open Ve Ty Go.RowKit YtggbjokhniigkaaGreatW.PrintWords YtggbjokhniigkaaGreatW.PrintLast YtggbjokhniigkaaGreatW.PrintMore Mx Kx Wa Wb Wc Wd Vc Rd Wj Tk Tn To
/-- What is handed back: it reads as s, and what was there stays. -/
def OutS (w w' : World) (e : Ending) (s : Rep) (msgs : List Msg) (code : Int) : Prop :=
  ∃ (B5 B7 B8 B9 B10 Bo : Option Addr) (d5 d7 d8 d9 d10 co : Nat), e = .returned (.tuple #[.agg #[.int .i64 s.f0, .int .i64 s.f1, .int .i64 s.f2, .int .i64 s.f3, .int .i64 s.f4, .slice B5 s.f5.length d5, .int .i64 s.f6, .slice B7 s.f7.length d7, .slice B8 s.f8.length d8, .slice B9 s.f9.length d9, .slice B10 s.f10.length d10, .int .i64 s.f11, .int .i64 s.f12], .slice Bo msgs.length co, .int .i64 code]) ∧ RdRep w' s B5 B7 B8 B9 B10 ∧ Fit s d5 d7 d8 d9 d10 ∧ Kd.C kM w' Bo msgs.length msgs ∧ msgs.length ≤ co ∧ Below w.heap.size w w'
theorem OutS_of {w w' : World} {s : Rep} {msgs : List Msg} {code : Int} {v5 v7 v8 v9 v10 vo : Value} {F : List Res} (hM : Mem w w' (row kE 68 v5 s.f5 :: row (Kd.int .i64) 3 v7 s.f7 :: row (Kd.int .i64) 3 v8 s.f8 :: row (Kd.int .i64) 3 v9 s.f9 :: row kE 68 v10 s.f10 :: row kM 27 vo msgs :: F)) :
    OutS w w' (.returned (.tuple #[.agg #[.int .i64 s.f0, .int .i64 s.f1, .int .i64 s.f2, .int .i64 s.f3, .int .i64 s.f4, v5, .int .i64 s.f6, v7, v8, v9, v10, .int .i64 s.f11, .int .i64 s.f12], vo, .int .i64 code])) s msgs code := by
  obtain ⟨B5, d5, rfl, h5, g5⟩ := hM.row_at 0 rfl
  obtain ⟨B7, d7, rfl, h7, g7⟩ := hM.row_at 1 rfl
  obtain ⟨B8, d8, rfl, h8, g8⟩ := hM.row_at 2 rfl
  obtain ⟨B9, d9, rfl, h9, g9⟩ := hM.row_at 3 rfl
  obtain ⟨B10, d10, rfl, h10, g10⟩ := hM.row_at 4 rfl
  obtain ⟨Bo, co, rfl, ho, go⟩ := hM.row_at 5 rfl
  exact ⟨B5, B7, B8, B9, B10, Bo, d5, d7, d8, d9, d10, co, rfl, ⟨g5, g7, g8, g9, g10⟩, ⟨h5, h7, h8, h9, h10⟩, go, ho, hM.below⟩
theorem Take11_e1 (r : Rep) (m : Msg) (A5 A7 A8 A9 A10 A : Option Addr) (c5 c7 c8 c9 c10 c : Nat) (w : World) (h : RdRep w r A5 A7 A8 A9 A10) (hc : Fit r c5 c7 c8 c9 c10) (hs : r.f5.length ≤ 1200 ∧ r.f7.length ≤ 20 ∧ r.f8.length ≤ 20 ∧ r.f9.length ≤ 20 ∧ r.f10.length ≤ 1200) (hl : Kd.C kE w A m.f7.length m.f7) (hlc : m.f7.length ≤ c) (hln : m.f7.length ≤ 1000000) (h1 : may r = false) :
    Calls Tryz.prog 35 #[.agg (Kx.rA r A5 A7 A8 A9 A10 c5 c7 c8 c9 c10), .agg (Kx.mA m A c)] w fun e w' => OutS w w' e r [] 1 := by
  have E1 := Aside0.mk h1
  clear h1
  have H := Aside0.mk h
  have HC := Aside0.mk hc
  have HS := Aside0.mk hs
  have HL := Aside0.mk hl
  have HLC := Aside0.mk hlc
  have HLN := Aside0.mk hln
  have M1 := Aside0.mk ((((Mem.nil w).alloc (Kx.rA r A5 A7 A8 A9 A10 c5 c7 c8 c9 c10) 25).allocAt (Kx.mA m A c) 27 (w.heap.size + 1) (by simp)).allocAt #[.int .i64 0, .int .i64 0, .int .i64 0, .int .i64 0, .int .i64 0, .slice none 0 0, .int .i64 0, .slice none 0 0, .slice none 0 0, .slice none 0 0, .slice none 0 0, .int .i64 0, .int .i64 0] 25 (w.heap.size + 2) (by simp))
  clear h hc hs hl hlc hln
  go_enter Tryz.func35, Tryz.ntmps35
  go_wp2_with fail
  refine (May11_calls r A5 A7 A8 A9 A10 c5 c7 c8 c9 c10 _ (H.out.below M1.out.below) HC.out HS.out).mono ?_
  rintro e w1 ⟨he, hb⟩
  rw [E1.out] at he
  subst he
  have M2 := Aside0.mk (M1.out.grow hb)
  clear hb M1
  have cR := blk_cell (M2.out.blk_at 2 rfl)
  have cM := blk_cell (M2.out.blk_at 1 rfl)
  have cZ := blk_cell (M2.out.blk_at 0 rfl)
  have fZ := blk_frozen (M2.out.blk_at 0 rfl)
  go_wp2_with fail
  all_goals
    have MF := (M2.out.setRow 0 rfl [.int .i64 r.f0, .int .i64 r.f1, .int .i64 r.f2, .int .i64 r.f3, .int .i64 r.f4, .slice A5 r.f5.length c5, .int .i64 r.f6, .slice A7 r.f7.length c7, .slice A8 r.f8.length c8, .slice A9 r.f9.length c9, .slice A10 r.f10.length c10, .int .i64 r.f11, .int .i64 r.f12] rfl)
    have hgF := MF.blk_at 0 rfl
    refine bodyPost_ret (results_list (rs := [.cell 4 25, .tmp 5, .tmp 6]) rfl (by simp) (.cell (w.heap.size + 2) 25 (Kx.rA r A5 A7 A8 A9 A10 c5 c7 c8 c9 c10) (0, 0) _ rfl hgF Tryz.underlying25 rfl (by kernel_rfl) (.tmp (.tmp .nil)))) rfl ?_
    exact ⟨A5, A7, A8, A9, A10, none, c5, c7, c8, c9, c10, 0, rfl, H.out.below MF.below, HC.out, C_zero _, Nat.le_refl _, MF.below⟩
theorem Take11_e2 (r : Rep) (m : Msg) (A5 A7 A8 A9 A10 A : Option Addr) (c5 c7 c8 c9 c10 c : Nat) (w : World) (h : RdRep w r A5 A7 A8 A9 A10) (hc : Fit r c5 c7 c8 c9 c10) (hs : r.f5.length ≤ 1200 ∧ r.f7.length ≤ 20 ∧ r.f8.length ≤ 20 ∧ r.f9.length ≤ 20 ∧ r.f10.length ≤ 1200) (hl : Kd.C kE w A m.f7.length m.f7) (hlc : m.f7.length ≤ c) (hln : m.f7.length ≤ 1000000) (h1 : may r = true) (h2 : mayMsg r m = false) :
    Calls Tryz.prog 35 #[.agg (Kx.rA r A5 A7 A8 A9 A10 c5 c7 c8 c9 c10), .agg (Kx.mA m A c)] w fun e w' => OutS w w' e r [] 1 := by
  have E1 := Aside0.mk h1
  have MSG : Aside0 (∀ w', Kd.C kE w' A m.f7.length m.f7 → Calls Tryz.prog 66 #[.agg (Kx.rA r A5 A7 A8 A9 A10 c5 c7 c8 c9 c10), .agg (Kx.mA m A c)] w' fun e w'' => e = .returned (.bool false) ∧ Mem w' w'' []) :=
    ⟨fun w' h => by have := message11_calls r m A5 A7 A8 A9 A10 A c5 c7 c8 c9 c10 c w' h hlc hln; rw [h2] at this; exact this⟩
  clear h1 h2
  have H := Aside0.mk h
  have HC := Aside0.mk hc
  have HS := Aside0.mk hs
  have HL := Aside0.mk hl
  have HLC := Aside0.mk hlc
  have HLN := Aside0.mk hln
  have M1 := Aside0.mk ((((Mem.nil w).alloc (Kx.rA r A5 A7 A8 A9 A10 c5 c7 c8 c9 c10) 25).allocAt (Kx.mA m A c) 27 (w.heap.size + 1) (by simp)).allocAt #[.int .i64 0, .int .i64 0, .int .i64 0, .int .i64 0, .int .i64 0, .slice none 0 0, .int .i64 0, .slice none 0 0, .slice none 0 0, .slice none 0 0, .slice none 0 0, .int .i64 0, .int .i64 0] 25 (w.heap.size + 2) (by simp))
  clear h hc hs hl hlc hln
  go_enter Tryz.func35, Tryz.ntmps35
  go_wp2_with fail
  refine (May11_calls r A5 A7 A8 A9 A10 c5 c7 c8 c9 c10 _ (H.out.below M1.out.below) HC.out HS.out).mono ?_
  rintro e w1 ⟨he, hb⟩
  rw [E1.out] at he
  subst he
  have M2 := Aside0.mk (M1.out.grow hb)
  clear hb M1
  have cR := blk_cell (M2.out.blk_at 2 rfl)
  have cM := blk_cell (M2.out.blk_at 1 rfl)
  have cZ := blk_cell (M2.out.blk_at 0 rfl)
  have fZ := blk_frozen (M2.out.blk_at 0 rfl)
  go_wp2_with fail
  refine (MSG.out _ (Kd.C_below HL.out M2.out.below)).mono ?_
  rintro e w2 ⟨rfl, hM⟩
  have M3 := Aside0.mk (Mem.sel (ps := [_, _, _]) (F := []) [0, 1, 2] 3 (M2.out.trans hM) rfl rfl)
  clear hM M2 cR cM cZ fZ
  have cR := blk_cell (M3.out.blk_at 2 rfl)
  have cM := blk_cell (M3.out.blk_at 1 rfl)
  have cZ := blk_cell (M3.out.blk_at 0 rfl)
  have fZ := blk_frozen (M3.out.blk_at 0 rfl)
  go_wp2_with fail
  all_goals
    have MF := (M3.out.setRow 0 rfl [.int .i64 r.f0, .int .i64 r.f1, .int .i64 r.f2, .int .i64 r.f3, .int .i64 r.f4, .slice A5 r.f5.length c5, .int .i64 r.f6, .slice A7 r.f7.length c7, .slice A8 r.f8.length c8, .slice A9 r.f9.length c9, .slice A10 r.f10.length c10, .int .i64 r.f11, .int .i64 r.f12] rfl)
    have hgF := MF.blk_at 0 rfl
    refine bodyPost_ret (results_list (rs := [.cell 4 25, .tmp 5, .tmp 6]) rfl (by simp) (.cell (w.heap.size + 2) 25 (Kx.rA r A5 A7 A8 A9 A10 c5 c7 c8 c9 c10) (0, 0) _ rfl hgF Tryz.underlying25 rfl (by kernel_rfl) (.tmp (.tmp .nil)))) rfl ?_
    exact ⟨A5, A7, A8, A9, A10, none, c5, c7, c8, c9, c10, 0, rfl, H.out.below MF.below, HC.out, C_zero _, Nat.le_refl _, MF.below⟩
end Go.Proofs.YtggbjokhniigkaaGreat.Tr
namespace Go.Proofs.YtggbjokhniigkaaGreat.Ms
open Ty Go.RowKit YtggbjokhniigkaaGreatW.PrintWords YtggbjokhniigkaaGreatW.PrintLast YtggbjokhniigkaaGreatW.PrintMore Mx Kx
theorem eqEntry (d : Nat) (w : World) (x0 y0 : Int) (x1 y1 : ByteArray) :
    (Op.equalIn (d + 2) 68 (.agg #[.int .i64 x0, .string x1]) (.agg #[.int .i64 y0, .string y1])).run Tryz.prog w = .ok (x0 == y0 && (x1.toList == y1.toList)) w := by
  refine eqA_of Tryz.underlying68 (by kernel_rfl) ?_
  refine eqf_cons (by rfl) (by go_simp; rfl) (by go_simp; rfl) (by go_simp) ?_
  exact eqf_last (by rfl) (by go_simp; rfl) (by go_simp; rfl) (by go_simp)
attribute [local go_sem high] eqEntry
theorem logs_calls (A B : Option Addr) (c d : Nat) (l : List Entry) (w : World) (hl : Kd.C kE w A l.length l) (hm : Kd.C kE w B l.length l) (hn : l.length ≤ 1000000000) :
    Calls Tryz.prog 28 #[.slice A l.length c, .slice B l.length d] w fun e w' => e = .returned (.bool true) ∧ Drawn0 w w' := by
  have hu := Tryz.underlying68
  have HL := Aside0.mk hl
  have HM := Aside0.mk hm
  clear hl hm
  have c3b0 : ((l.length : Int) == (l.length : Int)) = true := by simp
  have c3b1 : ((l.length : Int) != (l.length : Int)) = false := by simp
  go_enter Tryz.func28, Tryz.ntmps28
  go_wp2
  repeat (go_quiet (fail); try go_wp2)
  go_loopg [5] (l.length + 1) (fun kq v5 w' => ∃ (k : Nat), v5 = .int .i64 k ∧ Aside0 (k ≤ l.length ∧ kq = l.length + 1 - k) ∧ Drawn0 w w')
  case atStart => exact ⟨0, rfl, ⟨Nat.zero_le _, rfl⟩, by repeat (first | exact Drawn0.refl _ | apply Drawn0.step)⟩
  case round =>
    obtain ⟨k, rfl, HK, ⟨m1, rfl⟩⟩ := hrel
    by_cases hlt : k < l.length
    · obtain ⟨ad, e, hx0, hx1⟩ := at_Entry HL.out (k : Int) (by omega) (by omega)
      cases e
      obtain ⟨ae, e, hy0, hy1⟩ := at_Entry HM.out (k : Int) (by omega) (by omega)
      cases e
      simp only [Int.toNat_natCast] at hx0 hx1 hy0 hy1
      have p1 : (0 ≤ (k : Int)) = True := eq_true (by omega)
      have q1 : ((k : Int) < (l.length : Int)) = True := eq_true (by omega)
      have q2 : decide ((k : Int) < (l.length : Int)) = true := decide_eq_true (by omega)
      go_wp2
      go_quiet (fail)
      try go_wp2
      go_roundg (l.length - k)
      case measure => have := HK.out; omega
      case rel => exact ⟨k + 1, by go_num, ⟨by omega, by have := HK.out; omega⟩, by repeat (first | exact Drawn0.refl _ | apply Drawn0.step)⟩
    · have hk : k = l.length := by have := HK.out.1; omega
      subst hk
      go_wp2
      go_ret
      exact ⟨rfl, by repeat (first | exact Drawn0.refl _ | apply Drawn0.step)⟩
theorem messages_calls (A B : Option Addr) (c d : Nat) (l : List Msg) (w : World) (hl : Kd.C kM w A l.length l) (hm : Kd.C kM w B l.length l) (hn : l.length ≤ 1000000000) (hs : ∀ i, (rd_Msg l i).f7.length ≤ 1000000000) :
    Calls Tryz.prog 37 #[.slice A l.length c, .slice B l.length d] w fun e w' => e = .returned (.bool true) ∧ Mem w w' [] := by
  have hu := Tryz.underlying27
  have HL := Aside0.mk hl
  have HM := Aside0.mk hm
  have HS := Aside0.mk hs
  have M0 := Aside0.mk (Mem.nil w)
  clear hl hm hs
  have c3b0 : ((l.length : Int) == (l.length : Int)) = true := by simp
  have c3b1 : ((l.length : Int) != (l.length : Int)) = false := by simp
  go_enter Tryz.func37, Tryz.ntmps37
  go_wp2
  go_loopg [5] (l.length + 1) (fun kq v5 w' => ∃ (k : Nat), v5 = .int .i64 k ∧ Aside0 (k ≤ l.length ∧ kq = l.length + 1 - k) ∧ Aside0 (Mem w w' []))
  case atStart => exact ⟨0, rfl, ⟨Nat.zero_le _, rfl⟩, M0⟩
  case round =>
    obtain ⟨k, rfl, HK, M1⟩ := hrel
    rename_i _ w1
    by_cases hlt : k < l.length
    · obtain ⟨ad, A7, c7, e, hx0, hx1, hx2, hx3, hx4, hx5, hx6, hx7, lx7, ix7⟩ := at_Msg HL.out (k : Int) (by omega) (by omega)
      cases e
      obtain ⟨ae, B7, d7, e, hy0, hy1, hy2, hy3, hy4, hy5, hy6, hy7, ly7, iy7⟩ := at_Msg HM.out (k : Int) (by omega) (by omega)
      cases e
      have hs1 := HS.out (k : Int)
      simp only [Int.toNat_natCast] at hx0 hx1 hx2 hx3 hx4 hx5 hx6 hx7 hy0 hy1 hy2 hy3 hy4 hy5 hy6 hy7
      replace hx0 := (M1.out.below.cell (World.block_lt_of_cell? w _ hx0)).trans hx0
      replace hx1 := (M1.out.below.cell (World.block_lt_of_cell? w _ hx1)).trans hx1
      replace hx2 := (M1.out.below.cell (World.block_lt_of_cell? w _ hx2)).trans hx2
      replace hx3 := (M1.out.below.cell (World.block_lt_of_cell? w _ hx3)).trans hx3
      replace hx4 := (M1.out.below.cell (World.block_lt_of_cell? w _ hx4)).trans hx4
      replace hx5 := (M1.out.below.cell (World.block_lt_of_cell? w _ hx5)).trans hx5
      replace hx6 := (M1.out.below.cell (World.block_lt_of_cell? w _ hx6)).trans hx6
      replace hx7 := (M1.out.below.cell (World.block_lt_of_cell? w _ hx7)).trans hx7
      replace hy0 := (M1.out.below.cell (World.block_lt_of_cell? w _ hy0)).trans hy0
      replace hy1 := (M1.out.below.cell (World.block_lt_of_cell? w _ hy1)).trans hy1
      replace hy2 := (M1.out.below.cell (World.block_lt_of_cell? w _ hy2)).trans hy2
      replace hy3 := (M1.out.below.cell (World.block_lt_of_cell? w _ hy3)).trans hy3
      replace hy4 := (M1.out.below.cell (World.block_lt_of_cell? w _ hy4)).trans hy4
      replace hy5 := (M1.out.below.cell (World.block_lt_of_cell? w _ hy5)).trans hy5
      replace hy6 := (M1.out.below.cell (World.block_lt_of_cell? w _ hy6)).trans hy6
      replace hy7 := (M1.out.below.cell (World.block_lt_of_cell? w _ hy7)).trans hy7
      have bA : (ad.add (k * 8)).block < wr.heap.size := World.block_lt_of_cell? wr _ hx0
      have bB : (ae.add (k * 8)).block < wr.heap.size := World.block_lt_of_cell? wr _ hy0
      have nA3 : ¬ (ad.add (k * 8)).block = wr.heap.size := by omega
      have nB3 : ¬ (ae.add (k * 8)).block = wr.heap.size := by omega
      have nA4 : ¬ (ad.add (k * 8)).block = wr.heap.size + 1 := by omega
      have nB4 : ¬ (ae.add (k * 8)).block = wr.heap.size + 1 := by omega
      have IX := Aside0.mk ix7
      have IY := Aside0.mk iy7
      have LX := Aside0.mk lx7
      have LY := Aside0.mk ly7
      clear ix7 iy7 lx7 ly7
      generalize rd_Msg l (k : Int) = m at *
      have q2 : decide ((k : Int) < (l.length : Int)) = true := decide_eq_true (by omega)
      have q1 : ((k : Int) < (l.length : Int)) = True := eq_true (by omega)
      go_wp2_with fail
      go_region
      · have M2 := Aside0.mk (((M1.out.allocAt #[.int .i64 m.f0, .int .i64 m.f1, .int .i64 m.f2, .int .i64 m.f3, .int .i64 m.f4, .int .i64 m.f5, .int .i64 m.f6, .slice A7 m.f7.length c7] 27 _ rfl).allocAt #[.int .i64 m.f0, .int .i64 m.f1, .int .i64 m.f2, .int .i64 m.f3, .int .i64 m.f4, .int .i64 m.f5, .int .i64 m.f6, .slice B7 m.f7.length d7] 27 (wr.heap.size + 1) (by simp)).drew)
        go_wp2_with fail
        refine (logs_calls _ _ _ _ m.f7 _ (Kd.C_below IX.out M2.out.below) (Kd.C_below IY.out M2.out.below) hs1).mono ?_
        rintro e w2 ⟨rfl, hD⟩
        have M3 := Aside0.mk (M2.out.drawn hD)
        clear hD M2
        go_wp2
        go_roundg (l.length - k)
        case measure => have := HK.out; omega
        case rel => exact ⟨k + 1, by go_num, ⟨by omega, by have := HK.out; omega⟩, ⟨Mem.sel (ps := [_, _]) (F := []) [] 2 M3.out rfl rfl⟩⟩
      · have M2 := Aside0.mk (((M1.out.allocAt #[.int .i64 m.f0, .int .i64 m.f1, .int .i64 m.f2, .int .i64 m.f3, .int .i64 m.f4, .int .i64 m.f5, .int .i64 m.f6, .slice B7 m.f7.length d7] 27 _ rfl).allocAt #[.int .i64 m.f0, .int .i64 m.f1, .int .i64 m.f2, .int .i64 m.f3, .int .i64 m.f4, .int .i64 m.f5, .int .i64 m.f6, .slice A7 m.f7.length c7] 27 (wr.heap.size + 1) (by simp)).drew)
        go_wp2_with fail
        refine (logs_calls _ _ _ _ m.f7 _ (Kd.C_below IX.out M2.out.below) (Kd.C_below IY.out M2.out.below) hs1).mono ?_
        rintro e w2 ⟨rfl, hD⟩
        have M3 := Aside0.mk (M2.out.drawn hD)
        clear hD M2
        go_wp2
        go_roundg (l.length - k)
        case measure => have := HK.out; omega
        case rel => exact ⟨k + 1, by go_num, ⟨by omega, by have := HK.out; omega⟩, ⟨Mem.sel (ps := [_, _]) (F := []) [] 2 M3.out rfl rfl⟩⟩
    · have hk : k = l.length := by have := HK.out.1; omega
      subst hk
      go_wp2
      go_ret
      exact ⟨rfl, M1.out⟩
end Go.Proofs.YtggbjokhniigkaaGreat.Ms
namespace Go.Proofs.YtggbjokhniigkaaGreat.Sm
open Ty Go.RowKit YtggbjokhniigkaaGreatW.PrintWords YtggbjokhniigkaaGreatW.PrintLast YtggbjokhniigkaaGreatW.PrintMore Mx Kx Wd
theorem at_IntC {w : World} {A : Option Addr} {n : Nat} {xs : List Int} (h : Kd.C (Kd.int .i64) w A n xs) (i : Int) (h0 : 0 ≤ i) (h1 : i < n) : ∃ ad, A = some ad ∧ w.cell? (ad.add i.toNat) = some (.int .i64 (rd xs i)) := by
  obtain ⟨ad, c, e, _, hK, hc0⟩ := Kd.C_get h 0 i h0 h1
  subst e
  exact ⟨ad, rfl, Kd.foot_int h i h0 h1⟩
theorem ints_calls (A B : Option Addr) (c d : Nat) (l : List Int) (w : World) (hl : Kd.C (Kd.int .i64) w A l.length l) (hm : Kd.C (Kd.int .i64) w B l.length l) (hn : l.length ≤ 1000000000) :
    Calls Tryz.prog 74 #[.slice A l.length c, .slice B l.length d] w fun e w' => e = .returned (.bool true) ∧ Drawn0 w w' := by
  have HL := Aside0.mk hl
  have HM := Aside0.mk hm
  clear hl hm
  have c3b0 : ((l.length : Int) == (l.length : Int)) = true := by simp
  have c3b1 : ((l.length : Int) != (l.length : Int)) = false := by simp
  go_enter Tryz.func74, Tryz.ntmps74
  go_wp2
  repeat (go_quiet (fail); try go_wp2)
  go_loopg [5] (l.length + 1) (fun kq v5 w' => ∃ (k : Nat), v5 = .int .i64 k ∧ Aside0 (k ≤ l.length ∧ kq = l.length + 1 - k) ∧ Drawn0 w w')
  case atStart => exact ⟨0, rfl, ⟨Nat.zero_le _, rfl⟩, by repeat (first | exact Drawn0.refl _ | apply Drawn0.step)⟩
  case round =>
    obtain ⟨k, rfl, HK, ⟨m1, rfl⟩⟩ := hrel
    by_cases hlt : k < l.length
    · obtain ⟨ad, e, hx0⟩ := at_IntC HL.out (k : Int) (by omega) (by omega)
      cases e
      obtain ⟨ae, e, hy0⟩ := at_IntC HM.out (k : Int) (by omega) (by omega)
      cases e
      simp only [Int.toNat_natCast] at hx0 hy0
      have p1 : (0 ≤ (k : Int)) = True := eq_true (by omega)
      have q1 : ((k : Int) < (l.length : Int)) = True := eq_true (by omega)
      have q2 : decide ((k : Int) < (l.length : Int)) = true := decide_eq_true (by omega)
      go_wp2
      go_quiet (fail)
      try go_wp2
      go_roundg (l.length - k)
      case measure => have := HK.out; omega
      case rel => exact ⟨k + 1, by go_num, ⟨by omega, by have := HK.out; omega⟩, by repeat (first | exact Drawn0.refl _ | apply Drawn0.step)⟩
    · have hk : k = l.length := by have := HK.out.1; omega
      subst hk
      go_wp2
      go_ret
      exact ⟨rfl, by repeat (first | exact Drawn0.refl _ | apply Drawn0.step)⟩
theorem Same_good (s : Rep) (A5 A7 A8 A9 A10 B5 B7 B8 B9 B10 : Option Addr) (a5 a7 a8 a9 a10 b5 b7 b8 b9 b10 : Nat) (w : World) (h : RdRep w s A5 A7 A8 A9 A10) (h' : RdRep w s B5 B7 B8 B9 B10) (hn : Small s) :
    Calls Tryz.prog 36 #[.agg #[.int .i64 s.f0, .int .i64 s.f1, .int .i64 s.f2, .int .i64 s.f3, .int .i64 s.f4, .slice A5 s.f5.length a5, .int .i64 s.f6, .slice A7 s.f7.length a7, .slice A8 s.f8.length a8, .slice A9 s.f9.length a9, .slice A10 s.f10.length a10, .int .i64 s.f11, .int .i64 s.f12], .agg #[.int .i64 s.f0, .int .i64 s.f1, .int .i64 s.f2, .int .i64 s.f3, .int .i64 s.f4, .slice B5 s.f5.length b5, .int .i64 s.f6, .slice B7 s.f7.length b7, .slice B8 s.f8.length b8, .slice B9 s.f9.length b9, .slice B10 s.f10.length b10, .int .i64 s.f11, .int .i64 s.f12]] w fun e w' => e = .returned (.bool true) ∧ Mem w w' [] := by
  have H := Aside0.mk h
  have H' := Aside0.mk h'
  have HN := Aside0.mk hn
  have M1 := Aside0.mk (((Mem.nil w).alloc #[.int .i64 s.f0, .int .i64 s.f1, .int .i64 s.f2, .int .i64 s.f3, .int .i64 s.f4, .slice A5 s.f5.length a5, .int .i64 s.f6, .slice A7 s.f7.length a7, .slice A8 s.f8.length a8, .slice A9 s.f9.length a9, .slice A10 s.f10.length a10, .int .i64 s.f11, .int .i64 s.f12] 25).allocAt #[.int .i64 s.f0, .int .i64 s.f1, .int .i64 s.f2, .int .i64 s.f3, .int .i64 s.f4, .slice B5 s.f5.length b5, .int .i64 s.f6, .slice B7 s.f7.length b7, .slice B8 s.f8.length b8, .slice B9 s.f9.length b9, .slice B10 s.f10.length b10, .int .i64 s.f11, .int .i64 s.f12] 25 (w.heap.size + 1) (by simp))
  clear h h' hn
  have e0 : (s.f0 == s.f0) = true := by simp
  have e1 : (s.f1 == s.f1) = true := by simp
  have e2 : (s.f2 == s.f2) = true := by simp
  have e3 : (s.f3 == s.f3) = true := by simp
  have e4 : (s.f4 == s.f4) = true := by simp
  have e6 : (s.f6 == s.f6) = true := by simp
  have e11 : (s.f11 == s.f11) = true := by simp
  have e12 : (s.f12 == s.f12) = true := by simp
  go_enter Tryz.func36, Tryz.ntmps36
  go_wp2_with fail
  refine (Ms.logs_calls A5 B5 a5 b5 s.f5 _ (Kd.C_below H.out.h5 M1.out.below) (Kd.C_below H'.out.h5 M1.out.below) HN.out.1).mono ?_
  rintro e w1 ⟨rfl, hD⟩
  have M2 := Aside0.mk (M1.out.drawn hD)
  clear hD M1
  have cA := blk_cell (M2.out.blk_at 1 rfl)
  have cB := blk_cell (M2.out.blk_at 0 rfl)
  go_wp2_with fail
  refine (Ms.logs_calls A10 B10 a10 b10 s.f10 _ (Kd.C_below H.out.h10 M2.out.below) (Kd.C_below H'.out.h10 M2.out.below) HN.out.2.2.2.2).mono ?_
  rintro e w2 ⟨rfl, hD⟩
  have M3 := Aside0.mk (M2.out.drawn hD)
  clear hD M2 cA cB
  have cA := blk_cell (M3.out.blk_at 1 rfl)
  have cB := blk_cell (M3.out.blk_at 0 rfl)
  go_wp2_with fail
  refine (ints_calls A7 B7 a7 b7 s.f7 _ (Kd.C_below H.out.h7 M3.out.below) (Kd.C_below H'.out.h7 M3.out.below) HN.out.2.1).mono ?_
  rintro e w3 ⟨rfl, hD⟩
  have M4 := Aside0.mk (M3.out.drawn hD)
  clear hD M3 cA cB
  have cA := blk_cell (M4.out.blk_at 1 rfl)
  have cB := blk_cell (M4.out.blk_at 0 rfl)
  go_wp2_with fail
  refine (ints_calls A8 B8 a8 b8 s.f8 _ (Kd.C_below H.out.h8 M4.out.below) (Kd.C_below H'.out.h8 M4.out.below) HN.out.2.2.1).mono ?_
  rintro e w4 ⟨rfl, hD⟩
  have M5 := Aside0.mk (M4.out.drawn hD)
  clear hD M4 cA cB
  have cA := blk_cell (M5.out.blk_at 1 rfl)
  have cB := blk_cell (M5.out.blk_at 0 rfl)
  go_wp2_with fail
  refine (ints_calls A9 B9 a9 b9 s.f9 _ (Kd.C_below H.out.h9 M5.out.below) (Kd.C_below H'.out.h9 M5.out.below) HN.out.2.2.2.1).mono ?_
  rintro e w5 ⟨rfl, hD⟩
  have M6 := Aside0.mk (M5.out.drawn hD)
  clear hD M5 cA cB
  have cA := blk_cell (M6.out.blk_at 1 rfl)
  have cB := blk_cell (M6.out.blk_at 0 rfl)
  go_wp2
  go_ret
  exact ⟨rfl, Mem.sel (ps := [_, _]) (F := []) [] 2 M6.out rfl rfl⟩
end Go.Proofs.YtggbjokhniigkaaGreat.Sm
namespace Go.Proofs.YtggbjokhniigkaaGreat.Jk
open Ty Go.RowKit YtggbjokhniigkaaGreatW.PrintWords YtggbjokhniigkaaGreatW.PrintLast YtggbjokhniigkaaGreatW.PrintMore Mx Kx
theorem pair_at {l : List Value} {k : Nat} {x y : Value} (h0 : l[k]? = some x) (h1 : l[k + 1]? = some y) : (l.drop k).take 2 = [x, y] := by
  obtain ⟨g0, e0⟩ := List.getElem?_eq_some_iff.1 h0
  obtain ⟨g1, e1⟩ := List.getElem?_eq_some_iff.1 h1
  rw [List.drop_eq_getElem_cons g0, List.drop_eq_getElem_cons g1, e0, e1]
  rfl
theorem pair_of {l : List Value} {k : Nat} {x y : Value} (h : (l.drop k).take 2 = [x, y]) : l[k]? = some x ∧ l[k + 1]? = some y := by
  have h0 : ((l.drop k).take 2)[0]? = some x := by rw [h]; rfl
  have h1 : ((l.drop k).take 2)[1]? = some y := by rw [h]; rfl
  rw [List.getElem?_take_of_lt (by decide), List.getElem?_drop] at h0 h1
  exact ⟨h0, h1⟩
/-- A row read anew. -/
theorem reps_choose {α : Type} {R : α → List Value → Prop} {Q : Nat → α → Prop} {sz n : Nat} {cs : List Value} (hl : cs.length = n * sz) (h : ∀ j, j < n → ∃ p, R p ((cs.drop (j * sz)).take sz) ∧ Q j p) :
    ∃ ps : List α, ps.length = n ∧ Reps R sz ps cs ∧ ∀ j p, ps[j]? = some p → Q j p := by
  refine ⟨List.ofFn (fun j : Fin n => Classical.choose (h j.1 j.2)), by simp, ⟨by simp [hl], fun j p hj => ?_⟩, fun j p hj => ?_⟩
  · obtain ⟨hlt, he⟩ := List.getElem?_eq_some_iff.1 hj
    have hlt' : j < n := by simpa using hlt
    rw [List.getElem_ofFn] at he
    subst he
    exact (Classical.choose_spec (h j hlt')).1
  · obtain ⟨hlt, he⟩ := List.getElem?_eq_some_iff.1 hj
    have hlt' : j < n := by simpa using hlt
    rw [List.getElem_ofFn] at he
    subst he
    exact (Classical.choose_spec (h j hlt')).2
/-- A number laid over a number leaves a row of entries one. -/
theorem entry_row {w : World} {base : Nat} {ok : Nat → Prop} {v : Value} {xs : List Entry} {g q : Nat} {a b : Int} (h : kE.R 68 w base ok v xs) (hc : w.cell? ⟨g, q, none⟩ = some (.int .i64 a)) :
    ∃ xs' : List Entry, xs'.length = xs.length ∧ kE.R 68 (w.setCell ⟨g, q, none⟩ (.int .i64 b)) base ok v xs' := by
  obtain ⟨h0, inner, ho, hr⟩ := h
  by_cases hg : v.ownBlock = some g
  case neg =>
    refine ⟨xs, rfl, h0, inner, own_move ho (fun k hk => ?_), hr.imp_ (fun p c hp => ?_)⟩
    · exact Below.heap_setCell w ⟨g, q, none⟩ _ k (fun e => hg (by rw [hk, e]))
    · rw [kE_openM hp]
      exact kE_mkM _ _ _ _
  obtain ⟨hlen, ho⟩ := ho
  rcases ho with ⟨rfl, _⟩ | ⟨g', cap, cur, rfl, hbg, hh, hn, hcap, hsz, hin⟩
  · simp [Value.ownBlock] at hg
  obtain rfl : g' = g := by simpa [Value.ownBlock] using hg
  have hcur : cur.toList[q]? = some (.int .i64 a) := by
    rw [blk_cell hh] at hc
    simpa using hc
  have hsz2 : kE.sz = 2 := rfl
  rw [hsz2] at hlen hsz hin hr
  have hlen2 : ((cur.setIfInBounds q (Value.int .i64 b)).toList.take (xs.length * 2)).length = xs.length * 2 := by
    rw [List.length_take]
    simp
    omega
  obtain ⟨ps, hp1, hp2, _⟩ := reps_choose (R := kE.M (w.setCell ⟨g', q, none⟩ (.int .i64 b)) base (fun k => ok k ∧ some k ≠ (Value.slice (some ⟨g', 0, none⟩) xs.length cap).ownBlock)) (Q := fun _ _ => True) (sz := 2) (n := xs.length) hlen2 (fun j hj => by
    have hx : xs[j]? = some xs[j] := List.getElem?_eq_getElem hj
    have hm := kE_openM (hr.2 j _ hx)
    obtain ⟨e0, e1⟩ := pair_of hm
    have t0 : cur.toList[j * 2]? = some (Value.int .i64 xs[j].f0) := by
      rw [← hin, List.getElem?_take_of_lt (by omega)] at e0
      exact e0
    have t1 : cur.toList[j * 2 + 1]? = some (Value.string xs[j].f1) := by
      rw [← hin, List.getElem?_take_of_lt (by omega)] at e1
      exact e1
    have hq1 : q ≠ j * 2 + 1 := by
      rintro rfl
      rw [t1] at hcur
      cases hcur
    have u1 : ((cur.setIfInBounds q (Value.int .i64 b)).toList.take (xs.length * 2))[j * 2 + 1]? = some (Value.string xs[j].f1) := by
      rw [List.getElem?_take_of_lt (by omega), Array.toList_setIfInBounds, List.getElem?_set_ne hq1]
      exact t1
    by_cases hq0 : q = j * 2
    · refine ⟨⟨b, xs[j].f1⟩, ?_, trivial⟩
      rw [pair_at (x := .int .i64 b) (y := .string xs[j].f1) ?_ u1]
      · exact kE_mkM _ _ _ ⟨b, xs[j].f1⟩
      · rw [List.getElem?_take_of_lt (by omega), Array.toList_setIfInBounds, hq0, List.getElem?_set_self]
        exact (List.getElem?_eq_some_iff.1 t0).1
    · refine ⟨xs[j], ?_, trivial⟩
      rw [pair_at (x := .int .i64 xs[j].f0) (y := .string xs[j].f1) ?_ u1]
      · exact kE_mkM _ _ _ _
      · rw [List.getElem?_take_of_lt (by omega), Array.toList_setIfInBounds, List.getElem?_set_ne hq0]
        exact t0)
  refine ⟨ps, hp1, ?_⟩
  rw [← hp1] at hp2
  refine ⟨h0, _, ⟨by rw [hsz2]; exact hlen2.trans (by rw [hp1]), .inr ⟨g', cap, cur.setIfInBounds q (.int .i64 b), by rw [hp1], hbg, blk_set hh q _, by omega, hcap, by rw [hsz2]; simpa using hsz, by rw [hp1]; rfl⟩⟩, ?_⟩
  rw [hp1] at hp2
  exact hp2
/-- The same within a list of messages. -/
theorem msg_row {w : World} {base : Nat} {ok : Nat → Prop} {v : Value} {ms : List Msg} {g q : Nat} {a b : Int} {cs : Array Value} (h : kM.R 27 w base ok v ms) (hb : w.heap[g]? = some (.cells cs 68 (0, 0))) (hc : w.cell? ⟨g, q, none⟩ = some (.int .i64 a)) :
    ∃ ms' : List Msg, ms'.map (fun m => m.f7.length) = ms.map (fun m => m.f7.length) ∧ kM.R 27 (w.setCell ⟨g, q, none⟩ (.int .i64 b)) base ok v ms' := by
  have hne := Kd.R_ne h hb (by decide)
  obtain ⟨h0, inner, ho, hr⟩ := h
  have hsz : kM.sz = 8 := rfl
  obtain ⟨ps, hp1, hp2, hp3⟩ := reps_choose (R := kM.M (w.setCell ⟨g, q, none⟩ (.int .i64 b)) base (fun k => ok k ∧ some k ≠ v.ownBlock)) (Q := fun j p => ∀ m, ms[j]? = some m → p.f7.length = m.f7.length) (sz := kM.sz) (n := ms.length) hr.1 (fun j hj => by
    have hx : ms[j]? = some ms[j] := List.getElem?_eq_getElem hj
    obtain ⟨v7, e, hR⟩ := kM_openM (hr.2 j _ hx)
    obtain ⟨xs', hl, hR'⟩ := entry_row (b := b) hR hc
    refine ⟨{ ms[j] with f7 := xs' }, ?_, fun m hm => ?_⟩
    · rw [e]
      exact kM_mkM _ _ _ { ms[j] with f7 := xs' } hR'
    · rw [hx] at hm
      cases hm
      exact hl)
  refine ⟨ps, ?_, h0, inner, ?_, hp2⟩
  · apply List.ext_getElem?
    intro j
    rw [List.getElem?_map, List.getElem?_map]
    rcases Nat.lt_or_ge j ps.length with hj | hj
    · rw [List.getElem?_eq_getElem hj, List.getElem?_eq_getElem (hp1 ▸ hj)]
      simp only [Option.map_some, Option.some.injEq]
      exact hp3 j _ (List.getElem?_eq_getElem hj) _ (List.getElem?_eq_getElem (hp1 ▸ hj))
    · rw [List.getElem?_eq_none hj, List.getElem?_eq_none (by omega)]
  · rw [hp1]
    exact own_move ho (fun k hk => Below.heap_setCell w ⟨g, q, none⟩ _ k (fun e => hne (by rw [hk, e])))
/-- A row of n entries. -/
def junkE (v : Value) (n : Nat) : Res where
  holds w fp := ∃ xs : List Entry, xs.length = n ∧ kE.R 68 w 0 fp v xs
  move hm := fun ⟨xs, e, h⟩ => ⟨xs, e, Kd.R_move h hm⟩
  mono hm := fun ⟨xs, e, h⟩ => ⟨xs, e, Kd.R_mono h hm⟩
/-- A row of messages with so many entries each. -/
def junk (v : Value) (ls : List Nat) : Res where
  holds w fp := ∃ ms : List Msg, ms.map (fun m => m.f7.length) = ls ∧ kM.R 27 w 0 fp v ms
  move hm := fun ⟨xs, e, h⟩ => ⟨xs, e, Kd.R_move h hm⟩
  mono hm := fun ⟨xs, e, h⟩ => ⟨xs, e, Kd.R_mono h hm⟩
theorem Mem.to_junkE {w0 w : World} {rs : List Res} (h : Mem w0 w rs) (i : Nat) {v : Value} {xs : List Entry} (hi : rs[i]? = some (row kE 68 v xs)) : Mem w0 w (rs.set i (junkE v xs.length)) := h.imp hi _ (fun f hh => ⟨xs, rfl, hh⟩)
theorem Mem.to_junk {w0 w : World} {rs : List Res} (h : Mem w0 w rs) (i : Nat) {v : Value} {ms : List Msg} (hi : rs[i]? = some (row kM 27 v ms)) : Mem w0 w (rs.set i (junk v (ms.map (fun m => m.f7.length)))) := h.imp hi _ (fun f hh => ⟨ms, rfl, hh⟩)
theorem set_self_ {α : Type} {l : List α} {i : Nat} {x : α} (h : l[i]? = some x) : l.set i x = l := by
  obtain ⟨h1, h2⟩ := List.getElem?_eq_some_iff.1 h
  rw [← h2, List.set_getElem_self]
/-- A time in a row of entries: where it lies; a store leaves the row. -/
theorem Mem.junkE_at {w0 w : World} {rs : List Res} (h : Mem w0 w rs) (i : Nat) {v : Value} {n : Nat} (hi : rs[i]? = some (junkE v n)) (k : Nat) (hk : k < n) :
    ∃ g cap a, v = .slice (some ⟨g, 0, none⟩) n cap ∧ g < w.heap.size ∧ w.cell? ⟨g, k * 2, none⟩ = some (.int .i64 a) ∧ w.frozen? ⟨g, k * 2, none⟩ = false ∧ ∀ b : Int, Mem w0 (w.setCell ⟨g, k * 2, none⟩ (.int .i64 b)) rs := by
  obtain ⟨f, ⟨xs, rfl, h1⟩, h2, h3⟩ := h.take1 hi
  obtain ⟨g, cap, rfl, _, hlt, cells, hblk⟩ := Kd.R_form h1 (by omega)
  obtain ⟨_, _, hC⟩ := Kd.R_reads' h1
  obtain ⟨ad, e, hc, _⟩ := at_Entry hC (k : Int) (by omega) (by omega)
  cases e
  have hc' : w.cell? ⟨g, k * 2, none⟩ = some (.int .i64 (rd_Entry xs k).f0) := by
    rw [add_plain] at hc
    simpa using hc
  refine ⟨g, cap, _, rfl, hlt, hc', blk_frozen hblk _, fun b => ?_⟩
  obtain ⟨xs', hl, hR⟩ := entry_row (b := b) h1 hc'
  have := h3 (w.setCell ⟨g, k * 2, none⟩ (.int .i64 b)) (junkE (.slice (some ⟨g, 0, none⟩) xs.length cap) xs.length) rfl rfl rfl (by simp [World.setCell]) (fun j _ hf => Below.heap_setCell w _ _ j (fun e => hf (h1.1 j (by rw [e]; rfl)))) ⟨xs', hl, Kd.R_mono hR (fun _ hh => .inl hh)⟩
  rwa [set_self_ hi] at this
/-- The same within a list of messages. -/
theorem Mem.junk_at {w0 w : World} {rs : List Res} (h : Mem w0 w rs) (i : Nat) {v : Value} {ls : List Nat} (hi : rs[i]? = some (junk v ls)) (j : Nat) (hj : j < ls.length) :
    ∃ ad cap A7 c7, v = .slice (some ad) ls.length cap ∧ w.cell? ⟨(ad.add (j * 8)).block, (ad.add (j * 8)).off + 7, none⟩ = some (.slice A7 (ls.getD j 0) c7) ∧
      ∀ k, k < ls.getD j 0 → ∃ g a, A7 = some ⟨g, 0, none⟩ ∧ g < w.heap.size ∧ w.cell? ⟨g, k * 2, none⟩ = some (.int .i64 a) ∧ w.frozen? ⟨g, k * 2, none⟩ = false ∧ ∀ b : Int, Mem w0 (w.setCell ⟨g, k * 2, none⟩ (.int .i64 b)) rs := by
  obtain ⟨f, ⟨ms, rfl, h1⟩, h2, h3⟩ := h.take1 hi
  have hj' : j < ms.length := by simpa using hj
  have hd : (ms.map (fun m => m.f7.length)).getD j 0 = ms[j].f7.length := by
    rw [List.getD, List.getElem?_map, List.getElem?_eq_getElem hj']
    rfl
  rw [hd, List.length_map]
  obtain ⟨g0, cap, rfl, _, hlt, cells, hblk⟩ := Kd.R_form h1 (by omega)
  have h1' := h1
  obtain ⟨hb, inner, ho, hr⟩ := h1
  have hx : ms[j]? = some ms[j] := List.getElem?_eq_getElem hj'
  obtain ⟨v7, e, hR⟩ := kM_openM (hr.2 j _ hx)
  obtain ⟨A7, c7, rfl, hc7, hC7⟩ := Kd.R_reads hR
  obtain ⟨_, _, hC⟩ := Kd.R_reads' h1'
  have hcell : w.cell? ⟨((⟨g0, 0, none⟩ : Addr).add (j * 8)).block, ((⟨g0, 0, none⟩ : Addr).add (j * 8)).off + 7, none⟩ = some (.slice A7 ms[j].f7.length c7) := by
    obtain ⟨hlen, ho⟩ := ho
    rcases ho with ⟨he, _⟩ | ⟨g', cap', cur, he, hbg, hh, hn, hcap, hsz, hin⟩
    · cases he
    obtain rfl : g0 = g' := by injection he with he; injection he with he; injection he
    have h7 : ((inner.drop (j * 8)).take 8)[7]? = some (.slice A7 ms[j].f7.length c7) := by
      show ((inner.drop (j * kM.sz)).take kM.sz)[7]? = _
      rw [e]
      rfl
    rw [List.getElem?_take_of_lt (by decide), List.getElem?_drop, ← hin, List.getElem?_take_of_lt (by show j * 8 + 7 < ms.length * 8; omega)] at h7
    rw [add_plain, blk_cell hh]
    simpa using h7
  refine ⟨⟨g0, 0, none⟩, cap, A7, c7, rfl, hcell, fun k hk => ?_⟩
  obtain ⟨g, cap', he, _, hlt7, cells7, hblk7⟩ := Kd.R_form hR (by omega)
  injection he with he _ _
  subst he
  obtain ⟨ad, e', hc, _⟩ := at_Entry hC7 (k : Int) (by omega) (by omega)
  cases e'
  have hc' : w.cell? ⟨g, k * 2, none⟩ = some (.int .i64 (rd_Entry ms[j].f7 k).f0) := by
    rw [add_plain] at hc
    simpa using hc
  refine ⟨g, _, rfl, hlt7, hc', blk_frozen hblk7 _, fun b => ?_⟩
  obtain ⟨ms', hl, hR'⟩ := msg_row (b := b) h1' hblk7 hc'
  have hfg : f g := (hR.1 g rfl).1
  have := h3 (w.setCell ⟨g, k * 2, none⟩ (.int .i64 b)) (junk (.slice (some ⟨g0, 0, none⟩) ms.length cap) (ms.map (fun m => m.f7.length))) rfl rfl rfl (by simp [World.setCell]) (fun q _ hf => Below.heap_setCell w _ _ q (fun e => hf (e ▸ hfg))) ⟨ms', hl, Kd.R_mono hR' (fun _ hh => .inl hh)⟩
  rwa [set_self_ hi] at this
end Go.Proofs.YtggbjokhniigkaaGreat.Jk
