/- Texts laid together: Gl. No condition. -/
import Derived.Deep.LoopGhost
import Derived.Test.YtggbjokhniigkaaYGz24
import Derived.Test.YtggbjokhniigkaaYGz25
set_option linter.unusedVariables false
set_option linter.unusedSimpArgs false
set_option maxRecDepth 100000
set_option maxHeartbeats 8000000
namespace Go.Proofs.Ytggbjokhniigkaa.Gl
open Go.Proofs.Ytggbjokhniigkaa.Ty Go.RowKit Go.Proofs.YtggbjokhniigkaaW.PrintWords Go.Proofs.YtggbjokhniigkaaW.PrintLast Go.Proofs.YtggbjokhniigkaaW.PrintMore Go.Proofs.Ytggbjokhniigkaa.Mx Go.Proofs.Ytggbjokhniigkaa.Kx Go.Proofs.Ytggbjokhniigkaa.Wa Go.Proofs.Ytggbjokhniigkaa.Wb Go.Proofs.Ytggbjokhniigkaa.Wd Go.Proofs.Ytggbjokhniigkaa.Vc Go.Proofs.Ytggbjokhniigkaa.Ve Go.Proofs.Ytggbjokhniigkaa.Fi Go.Proofs.Ytggbjokhniigkaa.Sm Go.Proofs.Ytggbjokhniigkaa.Gz Go.Proofs.Ytggbjokhniigkaa.Wk Go.Proofs.Ytggbjokhniigkaa.Pv Go.Proofs.Ytggbjokhniigkaa.Gt Go.Proofs.Ytggbjokhniigkaa.PReplicaProposes
set_option linter.unusedVariables false
set_option linter.unusedSimpArgs false
theorem Mem.behind {w0 w : World} {L0 L : List Res} (h : Mem w0 w (L0 ++ L)) : Mem w0 w L := Mem.sel (ps := L0) (F := L) [] L0.length h rfl (by simp)
theorem C_bound {α : Type} {d : Kd α} {w : World} {A : Option Addr} {n : Nat} {xs : List α} (h : d.C w A n xs) : n ≤ 9223372036854775807 := h.2.1
theorem eq_b {a b : Int} (h : a = b) : (a == b) = true ∧ (a != b) = false := by simp [h]
theorem ne_b {a b : Int} (h : ¬ a = b) : (a == b) = false ∧ (a != b) = true := by simp [h]
/-- A message as it is handed on. -/
structure Handed (m' m : Msg) : Prop where
  f7 : m'.f7 = m.f7
  f4 : m'.f0 = 8 → m'.f4 = 0
set_option maxRecDepth 100000 in
set_option maxHeartbeats 16000000 in
theorem goes_calls (r : Rep) (A5 A7 A8 A9 A10 A : Option Addr) (c5 c7 c8 c9 c10 c : Nat) (l : List Msg) (w : World) (h : RdRep w r A5 A7 A8 A9 A10) (hc : Fit r c5 c7 c8 c9 c10) (hl : Kd.C kM w A l.length l) (hlc : l.length ≤ c) :
    Calls Try.prog 11 #[.agg #[.int .i64 r.f0, .int .i64 r.f1, .int .i64 r.f2, .int .i64 r.f3, .int .i64 r.f4, .slice A5 r.f5.length c5, .int .i64 r.f6, .slice A7 r.f7.length c7, .slice A8 r.f8.length c8, .slice A9 r.f9.length c9, .slice A10 r.f10.length c10, .int .i64 r.f11, .int .i64 r.f12], .slice A l.length c] w fun e w' => e = .returned (.bool true) ∧ Mem w w' [] := by
  obtain ⟨b, hg, hG⟩ := Great_any r
  have HG := Aside0.mk hG
  have HGS := Aside0.mk hg
  have H := Aside0.mk h
  have HC := Aside0.mk hc
  have HL := Aside0.mk hl
  have HLC := Aside0.mk hlc
  have HSB := Aside0.mk (show _ ∧ _ ∧ _ ∧ _ ∧ _ from ⟨C_bound h.h5, C_bound h.h7, C_bound h.h8, C_bound h.h9, C_bound h.h10⟩)
  have M1 := Aside0.mk ((Mem.nil w).allocAt #[.int .i64 r.f0, .int .i64 r.f1, .int .i64 r.f2, .int .i64 r.f3, .int .i64 r.f4, .slice A5 r.f5.length c5, .int .i64 r.f6, .slice A7 r.f7.length c7, .slice A8 r.f8.length c8, .slice A9 r.f9.length c9, .slice A10 r.f10.length c10, .int .i64 r.f11, .int .i64 r.f12] 45 w.heap.size rfl)
  clear h hc hl hlc hG hg
  go_enter Try.func11, Try.ntmps11
  go_wp2_with fail
  refine (HG.out A5 A7 A8 A9 A10 c5 c7 c8 c9 c10 _ (H.out.below M1.out.below) HC.out).mono ?_
  rintro e w1 ⟨rfl, hb⟩
  have M2 := Aside0.mk (M1.out.grow hb)
  clear hb M1
  have cR := blk_cell (M2.out.blk_at 0 rfl)
  cases b with
  | true =>
    go_wp2_with fail
    refine (awake_calls _).mono ?_
    rintro e wz ⟨rfl, hM⟩
    have MZ := Aside0.mk (M2.out.trans hM)
    clear hM
    go_wp2
    go_ret
    exact ⟨rfl, Tz.Mem.none_ MZ.out⟩
  | false =>
  by_cases hn : 10 < l.length
  · have q1 : decide ((10 : Int) < (l.length : Int)) = true := decide_eq_true (by omega)
    have q2 : ((10 : Int) < (l.length : Int)) = True := eq_true (by omega)
    go_wp2_with fail
    refine (awake_calls _).mono ?_
    rintro e wz ⟨rfl, hM⟩
    have MZ := Aside0.mk (M2.out.trans hM)
    clear hM
    go_wp2
    go_ret
    exact ⟨rfl, Tz.Mem.none_ MZ.out⟩
  have q1 : decide ((10 : Int) < (l.length : Int)) = false := decide_eq_false (by omega)
  have q2 : ((10 : Int) < (l.length : Int)) = False := eq_false (by omega)
  go_wp2_with fail
  refine (May11_any r A5 A7 A8 A9 A10 c5 c7 c8 c9 c10 _ (H.out.below M2.out.below) HC.out HSB.out).mono ?_
  rintro e w2 ⟨he, hb⟩
  have M3 := Aside0.mk (M2.out.grow hb)
  clear hb M2 cR q1 q2
  have cR := blk_cell (M3.out.blk_at 0 rfl)
  cases hm : may r with
  | false =>
    rw [hm] at he
    subst he
    go_wp2_with fail
    refine (awake_calls _).mono ?_
    rintro e wz ⟨rfl, hM⟩
    have MZ := Aside0.mk (M3.out.trans hM)
    clear hM
    go_wp2
    go_ret
    exact ⟨rfl, Tz.Mem.none_ MZ.out⟩
  | true =>
  rw [hm] at he
  subst he
  by_cases h9 : 0 < r.f9.length
  · have q1 : decide ((0 : Int) < (r.f9.length : Int)) = true := decide_eq_true (by omega)
    have q2 : ((0 : Int) < (r.f9.length : Int)) = True := eq_true (by omega)
    go_wp2_with fail
    refine (awake_calls _).mono ?_
    rintro e wz ⟨rfl, hM⟩
    have MZ := Aside0.mk (M3.out.trans hM)
    clear hM
    go_wp2
    go_ret
    exact ⟨rfl, Tz.Mem.none_ MZ.out⟩
  have q1 : decide ((0 : Int) < (r.f9.length : Int)) = false := decide_eq_false (by omega)
  have q2 : ((0 : Int) < (r.f9.length : Int)) = False := eq_false (by omega)
  by_cases h10 : 0 < r.f10.length
  · have q3 : decide ((0 : Int) < (r.f10.length : Int)) = true := decide_eq_true (by omega)
    have q4 : ((0 : Int) < (r.f10.length : Int)) = True := eq_true (by omega)
    go_wp2_with fail
    refine (awake_calls _).mono ?_
    rintro e wz ⟨rfl, hM⟩
    have MZ := Aside0.mk (M3.out.trans hM)
    clear hM
    go_wp2
    go_ret
    exact ⟨rfl, Tz.Mem.none_ MZ.out⟩
  have q3 : decide ((0 : Int) < (r.f10.length : Int)) = false := decide_eq_false (by omega)
  have q4 : ((0 : Int) < (r.f10.length : Int)) = False := eq_false (by omega)
  have HMS := Aside0.mk (show MayS r ∧ Low r from ⟨(mayS_iff r).1 hm, .inl (List.eq_nil_of_length_eq_zero (by omega))⟩)
  have HN := Aside0.mk (show l.length ≤ 10 by omega)
  go_wp2
  clear cR q1 q2 q3 q4 h9 h10 hm hn HG HGS HSB
  go_loopg [5] (l.length + 1) (fun kq v5 w' => ∃ (k : Nat) (s : Rep) (S5 S7 S8 S9 S10 : Option Addr) (d5 d7 d8 d9 d10 : Nat) (X : List Res), v5 = .int .i64 k ∧ Aside0 (k ≤ l.length ∧ kq = l.length + 1 - k) ∧ Aside0 (MayS s ∧ Low s) ∧ Aside0 (Fit s d5 d7 d8 d9 d10) ∧ Aside0 (∀ w'', Mem w w'' X → RdRep w'' s S5 S7 S8 S9 S10) ∧ Aside0 (Mem w w' (blk w.heap.size 45 #[.int .i64 s.f0, .int .i64 s.f1, .int .i64 s.f2, .int .i64 s.f3, .int .i64 s.f4, .slice S5 s.f5.length d5, .int .i64 s.f6, .slice S7 s.f7.length d7, .slice S8 s.f8.length d8, .slice S9 s.f9.length d9, .slice S10 s.f10.length d10, .int .i64 s.f11, .int .i64 s.f12] :: X)))
  case atStart => exact ⟨0, r, A5, A7, A8, A9, A10, c5, c7, c8, c9, c10, [], rfl, ⟨Nat.zero_le _, rfl⟩, HMS, HC, ⟨fun w'' h => H.out.below h.below⟩, M3⟩
  case round =>
  obtain ⟨k, s, S5, S7, S8, S9, S10, d5, d7, d8, d9, d10, X, rfl, HK, HS, HF, HX, MK⟩ := hrel
  clear M3 H HC HMS
  by_cases hlt : k < l.length
  case neg =>
    have q1 : ((k : Int) < (l.length : Int)) = False := eq_false (by omega)
    have q2 : decide ((k : Int) < (l.length : Int)) = false := decide_eq_false (by omega)
    go_wp2_with fail
    refine (awake_calls _).mono ?_
    rintro e wz ⟨rfl, hM⟩
    have MZ := Aside0.mk (MK.out.trans hM)
    clear hM
    go_wp2
    go_ret
    exact ⟨rfl, Tz.Mem.none_ MZ.out⟩
  obtain ⟨ad, A7', c7', e, hx0, hx1, hx2, hx3, hx4, hx5, hx6, hx7, lx7, ix7⟩ := at_Msg HL.out (k : Int) (by omega) (by omega)
  cases e
  simp only [Int.toNat_natCast] at hx0 hx1 hx2 hx3 hx4 hx5 hx6 hx7
  have bA := World.block_lt_of_cell? w _ hx0
  replace hx0 := (MK.out.below.cell (World.block_lt_of_cell? w _ hx0)).trans hx0
  replace hx1 := (MK.out.below.cell (World.block_lt_of_cell? w _ hx1)).trans hx1
  replace hx2 := (MK.out.below.cell (World.block_lt_of_cell? w _ hx2)).trans hx2
  replace hx3 := (MK.out.below.cell (World.block_lt_of_cell? w _ hx3)).trans hx3
  replace hx4 := (MK.out.below.cell (World.block_lt_of_cell? w _ hx4)).trans hx4
  replace hx5 := (MK.out.below.cell (World.block_lt_of_cell? w _ hx5)).trans hx5
  replace hx6 := (MK.out.below.cell (World.block_lt_of_cell? w _ hx6)).trans hx6
  replace hx7 := (MK.out.below.cell (World.block_lt_of_cell? w _ hx7)).trans hx7
  have IX := Aside0.mk ix7
  have LX := Aside0.mk lx7
  clear lx7
  generalize rd_Msg l (k : Int) = m at *
  obtain ⟨b', he, hE⟩ := entries_any m.f7
  have HE := Aside0.mk hE
  have HLE := Aside0.mk he
  clear hE he
  have p1 : (0 ≤ (k : Int)) = True := eq_true (by omega)
  have q2 : decide ((k : Int) < (l.length : Int)) = true := decide_eq_true (by omega)
  have q1 : ((k : Int) < (l.length : Int)) = True := eq_true (by omega)
  go_wp2_with fail
  refine (HE.out _ c7' _ (Kd.C_below IX.out MK.out.below) LX.out).mono ?_
  rintro e w4 ⟨rfl, hb⟩
  have M4 := Aside0.mk (MK.out.grow hb)
  replace hx0 := (hb.cell (World.block_lt_of_cell? wr _ hx0)).trans hx0
  replace hx1 := (hb.cell (World.block_lt_of_cell? wr _ hx1)).trans hx1
  replace hx2 := (hb.cell (World.block_lt_of_cell? wr _ hx2)).trans hx2
  replace hx3 := (hb.cell (World.block_lt_of_cell? wr _ hx3)).trans hx3
  replace hx4 := (hb.cell (World.block_lt_of_cell? wr _ hx4)).trans hx4
  replace hx5 := (hb.cell (World.block_lt_of_cell? wr _ hx5)).trans hx5
  replace hx6 := (hb.cell (World.block_lt_of_cell? wr _ hx6)).trans hx6
  replace hx7 := (hb.cell (World.block_lt_of_cell? wr _ hx7)).trans hx7
  clear hb MK
  cases b' with
  | true =>
    go_wp2_with fail
    refine (awake_calls _).mono ?_
    rintro e wz ⟨rfl, hM⟩
    have MZ := Aside0.mk (M4.out.trans hM)
    clear hM
    go_wp2
    go_ret
    exact ⟨rfl, Tz.Mem.none_ MZ.out⟩
  | false =>
  have HLN := Aside0.mk (HLE.out rfl)
  clear HE HLE
  go_upto_region 8 with (fail)
  go_cut [6] (fun s6 wx => ∃ (gm : Nat) (m' : Msg), s6 = .pointer (some ⟨gm, 0, none⟩) ∧ Aside0 (m'.f7 = m.f7) ∧ Aside0 (Mem w wx (blk gm 29 #[.int .i64 m'.f0, .int .i64 m'.f1, .int .i64 m'.f2, .int .i64 m'.f3, .int .i64 m'.f4, .int .i64 m'.f5, .int .i64 m'.f6, .slice A7' m'.f7.length c7'] :: blk w.heap.size 45 #[.int .i64 s.f0, .int .i64 s.f1, .int .i64 s.f2, .int .i64 s.f3, .int .i64 s.f4, .slice S5 s.f5.length d5, .int .i64 s.f6, .slice S7 s.f7.length d7, .slice S8 s.f8.length d8, .slice S9 s.f9.length d9, .slice S10 s.f10.length d10, .int .i64 s.f11, .int .i64 s.f12] :: X)))
  case first =>
    have cR := blk_cell (M4.out.blk_at 0 rfl)
    have hR := blk_lt (M4.out.blk_at 0 rfl)
    have hsz := M4.out.size
    have nA : ¬ (ad.add (k * 8)).block = w4.heap.size := by omega
    have nR : ¬ w.heap.size = w4.heap.size := by omega
    have bA4 : (ad.add (k * 8)).block < w4.heap.size := by omega
    have M5 := Aside0.mk M4.out.drew
    have MA := Aside0.mk (M4.out.drew.allocAt #[.int .i64 0, .int .i64 0, .int .i64 0, .int .i64 0, .int .i64 0, .int .i64 0, .int .i64 0, .slice none 0 0] 29 w4.heap.size rfl)
    clear hsz M4
    go_region_law (go_simp; go_at_call 41; first
      | (refine (fitted_calls s m S5 S7 S8 S9 S10 A7' d5 d7 d8 d9 d10 c7' _ (HX.out _ (Mem.behind (L0 := [_]) M5.out)) HF.out (may_maxLen HS.out.1)).mono ?_; rintro e w5 ⟨m', -, h7, rfl, hM⟩; have M6 := Aside0.mk (M5.out.trans hM); have H7 := Aside0.mk h7; clear hM h7)
      | (refine (fitted_calls s m S5 S7 S8 S9 S10 A7' d5 d7 d8 d9 d10 c7' _ (HX.out _ (Mem.behind (L0 := [_, _]) MA.out)) HF.out (may_maxLen HS.out.1)).mono ?_; rintro e w5 ⟨m', -, h7, rfl, hM⟩; have M6 := Aside0.mk (MA.out.trans hM); have H7 := Aside0.mk h7; clear hM h7; have cA := blk_cell (M6.out.blk_at 0 rfl); have fA := blk_frozen (M6.out.blk_at 0 rfl); have hA := blk_lt (M6.out.blk_at 0 rfl)))
    all_goals
      go_wp2_with fail
      go_meet
      case rel => first | (have _t := cA; exact ⟨_, m', rfl, H7, ⟨M6.out.setRow 0 rfl [.int .i64 m'.f0, .int .i64 m'.f1, .int .i64 m'.f2, .int .i64 m'.f3, .int .i64 m'.f4, .int .i64 m'.f5, .int .i64 m'.f6, .slice A7' m'.f7.length c7'] rfl⟩⟩) | exact ⟨_, m', rfl, H7, ⟨M6.out.allocAt #[.int .i64 m'.f0, .int .i64 m'.f1, .int .i64 m'.f2, .int .i64 m'.f3, .int .i64 m'.f4, .int .i64 m'.f5, .int .i64 m'.f6, .slice A7' m'.f7.length c7'] 29 w5.heap.size rfl⟩⟩
  case rest =>
  obtain ⟨gm, m1, rfl, H7, M5⟩ := hcut
  clear M4 hx0 hx1 hx2 hx3 hx4 hx5 hx6 hx7 bA
  have cM := blk_cell (M5.out.blk_at 0 rfl)
  have cR := blk_cell (M5.out.blk_at 1 rfl)
  obtain ⟨b9, hb9⟩ : ∃ b9, decide (m1.f0 = 8 ∨ m1.f0 = 6) = b9 := ⟨_, rfl⟩
  have HB9 := Aside0.mk hb9
  clear hb9
  go_upto_region 9 with (fail)
  go_cut [61] (fun v61 wx => v61 = .bool b9 ∧ Aside0 (Mem w wx (blk gm 29 #[.int .i64 m1.f0, .int .i64 m1.f1, .int .i64 m1.f2, .int .i64 m1.f3, .int .i64 m1.f4, .int .i64 m1.f5, .int .i64 m1.f6, .slice A7' m1.f7.length c7'] :: blk w.heap.size 45 #[.int .i64 s.f0, .int .i64 s.f1, .int .i64 s.f2, .int .i64 s.f3, .int .i64 s.f4, .slice S5 s.f5.length d5, .int .i64 s.f6, .slice S7 s.f7.length d7, .slice S8 s.f8.length d8, .slice S9 s.f9.length d9, .slice S10 s.f10.length d10, .int .i64 s.f11, .int .i64 s.f12] :: X)))
  case first =>
    by_cases k8 : m1.f0 = 8
    · obtain ⟨e1, e2⟩ := eq_b k8
      have eb : b9 = true := by rw [← HB9.out]; exact decide_eq_true (.inl k8)
      subst eb
      clear k8
      go_wp2_with fail
      go_meet
      case rel => exact ⟨rfl, M5⟩
    obtain ⟨e1, e2⟩ := ne_b k8
    by_cases k6 : m1.f0 = 6
    · obtain ⟨e3, e4⟩ := eq_b k6
      have eb : b9 = true := by rw [← HB9.out]; exact decide_eq_true (.inr k6)
      subst eb
      clear k6 k8
      go_wp2_with fail
      go_meet
      case rel => exact ⟨rfl, M5⟩
    obtain ⟨e3, e4⟩ := ne_b k6
    have eb : b9 = false := by rw [← HB9.out]; exact decide_eq_false (fun h => h.elim k8 k6)
    subst eb
    clear k6 k8
    go_wp2_with fail
    go_meet
    case rel => exact ⟨rfl, M5⟩
  case rest =>
  obtain ⟨rfl, M5'⟩ := hcut
  clear M5 cM cR
  have M5 := M5'
  clear M5'
  have cM := blk_cell (M5.out.blk_at 0 rfl)
  have cR := blk_cell (M5.out.blk_at 1 rfl)
  have fM := blk_frozen (M5.out.blk_at 0 rfl)
  go_upto_if 61 with (fail)
  go_cut [] (fun wx => ∃ m2 : Msg, Aside0 (Handed m2 m) ∧ Aside0 (Mem w wx (blk gm 29 #[.int .i64 m2.f0, .int .i64 m2.f1, .int .i64 m2.f2, .int .i64 m2.f3, .int .i64 m2.f4, .int .i64 m2.f5, .int .i64 m2.f6, .slice A7' m2.f7.length c7'] :: blk w.heap.size 45 #[.int .i64 s.f0, .int .i64 s.f1, .int .i64 s.f2, .int .i64 s.f3, .int .i64 s.f4, .slice S5 s.f5.length d5, .int .i64 s.f6, .slice S7 s.f7.length d7, .slice S8 s.f8.length d8, .slice S9 s.f9.length d9, .slice S10 s.f10.length d10, .int .i64 s.f11, .int .i64 s.f12] :: X)))
  case first =>
    cases b9 with
    | true =>
      go_wp2_with fail
      go_meet
      case rel => exact ⟨(⟨m1.f0, m1.f1, m1.f2, m1.f3, 0, m1.f5, m1.f6, m1.f7⟩ : Msg), ⟨⟨H7.out, fun _ => rfl⟩⟩, ⟨M5.out.set 0 rfl 4 (.int .i64 0)⟩⟩
    | false =>
      go_wp2_with fail
      go_meet
      case rel => exact ⟨m1, ⟨⟨H7.out, fun h => absurd (.inl h) (of_decide_eq_false HB9.out)⟩⟩, M5⟩
  case rest =>
  obtain ⟨m2, HH, M6⟩ := hcut
  clear M5 cM cR H7
  have cM := blk_cell (M6.out.blk_at 0 rfl)
  have cR := blk_cell (M6.out.blk_at 1 rfl)
  by_cases k5 : m2.f0 = 5
  · obtain ⟨e5, _⟩ := eq_b k5
    obtain ⟨e6, _⟩ := ne_b (show ¬ m2.f0 = 6 by omega)
    go_wp2
    go_roundg (l.length - k)
    case measure => have := HK.out; omega
    case rel => exact ⟨k + 1, s, S5, S7, S8, S9, S10, d5, d7, d8, d9, d10, X, by rw [Tz.wrapB k (by have := HN.out; omega)], ⟨by omega, by have := HK.out; omega⟩, HS, HF, HX, ⟨Mem.behind (L0 := [_]) M6.out⟩⟩
  obtain ⟨e5, _⟩ := ne_b k5
  by_cases k6 : m2.f0 = 6 ∧ (m2.f7.length : Int) < s.f6
  · obtain ⟨e6, _⟩ := eq_b k6.1
    have e7 : decide ((m2.f7.length : Int) < s.f6) = true := decide_eq_true k6.2
    go_wp2
    go_roundg (l.length - k)
    case measure => have := HK.out; omega
    case rel => exact ⟨k + 1, s, S5, S7, S8, S9, S10, d5, d7, d8, d9, d10, X, by rw [Tz.wrapB k (by have := HN.out; omega)], ⟨by omega, by have := HK.out; omega⟩, HS, HF, HX, ⟨Mem.behind (L0 := [_]) M6.out⟩⟩
  have e67 : (m2.f0 == 6) = false ∨ ((m2.f0 == 6) = true ∧ decide ((m2.f7.length : Int) < s.f6) = false) := by
    by_cases k : m2.f0 = 6
    · exact .inr ⟨(eq_b k).1, decide_eq_false (fun h => k6 ⟨k, h⟩)⟩
    · exact .inl (ne_b k).1
  obtain ⟨t, code, msgs, K, hcode, hT⟩ := step_any s m2 HS.out.1 HS.out.2 k5 (fun h => by by_cases q : (m2.f7.length : Int) < s.f6; exact absurd ⟨h, q⟩ k6; omega) HH.out.f4 (by rw [HH.out.f7]; exact HLN.out)
  have KE := Aside0.mk K
  have HT := Aside0.mk hT
  have HCO := Aside0.mk hcode
  clear K hT hcode k5 k6
  go_upto_region 11 with (fail)
  go_cut [78] (fun v78 wx => v78 = .bool false ∧ Aside0 (Mem w wx (blk gm 29 #[.int .i64 m2.f0, .int .i64 m2.f1, .int .i64 m2.f2, .int .i64 m2.f3, .int .i64 m2.f4, .int .i64 m2.f5, .int .i64 m2.f6, .slice A7' m2.f7.length c7'] :: blk w.heap.size 45 #[.int .i64 s.f0, .int .i64 s.f1, .int .i64 s.f2, .int .i64 s.f3, .int .i64 s.f4, .slice S5 s.f5.length d5, .int .i64 s.f6, .slice S7 s.f7.length d7, .slice S8 s.f8.length d8, .slice S9 s.f9.length d9, .slice S10 s.f10.length d10, .int .i64 s.f11, .int .i64 s.f12] :: X)))
  case first =>
    rcases e67 with e6 | ⟨e6, e7⟩
    · go_wp2_with fail
      go_meet
      case rel => exact ⟨rfl, M6⟩
    · go_wp2_with fail
      go_meet
      case rel => exact ⟨rfl, M6⟩
  case rest =>
  obtain ⟨rfl, M7⟩ := hcut
  clear M6 cM cR e67 e5
  have cM := blk_cell (M7.out.blk_at 0 rfl)
  have cR := blk_cell (M7.out.blk_at 1 rfl)
  go_wp2_with fail
  refine (HT.out S5 S7 S8 S9 S10 A7' d5 d7 d8 d9 d10 c7' _ (HX.out _ (Mem.behind (L0 := [_, _]) M7.out)) (by rw [HH.out.f7]; exact Kd.C_below IX.out M7.out.below) (by rw [HH.out.f7]; exact LX.out)).mono ?_
  rintro e w6 ⟨v5, v7, v8, v9, v10, vo, rfl, hM⟩
  unfold rc
  obtain ⟨T5, t5, rfl, LT5, _⟩ := hM.row_at 0 rfl
  obtain ⟨T7, t7, rfl, LT7, _⟩ := hM.row_at 1 rfl
  obtain ⟨T8, t8, rfl, LT8, _⟩ := hM.row_at 2 rfl
  obtain ⟨T9, t9, rfl, LT9, _⟩ := hM.row_at 3 rfl
  obtain ⟨T10, t10, rfl, LT10, _⟩ := hM.row_at 4 rfl
  obtain ⟨To, tq, rfl, _, _⟩ := hM.row_at 5 rfl
  have HFT := Aside0.mk (show Fit t t5 t7 t8 t9 t10 from ⟨LT5, LT7, LT8, LT9, LT10⟩)
  have M8 := Aside0.mk (M7.out.trans hM)
  clear hM M7 cM cR LT5 LT7 LT8 LT9 LT10 HT
  have cR := blk_cell (M8.out.blk_at 7 rfl)
  have fR := blk_frozen (M8.out.blk_at 7 rfl)
  have hR := blk_lt (M8.out.blk_at 7 rfl)
  go_wp2_with fail
  have M9 := Aside0.mk (M8.out.allocAt #[.int .i64 t.f0, .int .i64 t.f1, .int .i64 t.f2, .int .i64 t.f3, .int .i64 t.f4, .slice T5 t.f5.length t5, .int .i64 t.f6, .slice T7 t.f7.length t7, .slice T8 t.f8.length t8, .slice T9 t.f9.length t9, .slice T10 t.f10.length t10, .int .i64 t.f11, .int .i64 t.f12] 45 w6.heap.size rfl)
  refine (falseworklaw11_num.calls code code _ rfl).mono ?_
  rintro e w7 ⟨rfl, hD⟩
  have MB := Aside0.mk (M9.out.drawn hD)
  clear hD M8 M9 cR fR hR
  by_cases e0 : code = 0
  · subst e0
    have cS := blk_cell (MB.out.blk_at 0 rfl)
    have cR := blk_cell (MB.out.blk_at 8 rfl)
    go_wp2_with fail
    refine (May11_any t T5 T7 T8 T9 T10 t5 t7 t8 t9 t10 _ ⟨MB.out.row_C 1 rfl, MB.out.row_C 2 rfl, MB.out.row_C 3 rfl, MB.out.row_C 4 rfl, MB.out.row_C 5 rfl⟩ HFT.out (may_maxLen KE.out.m)).mono ?_
    rintro e w9 ⟨he, hb⟩
    rw [(mayS_iff t).2 KE.out.m] at he
    subst he
    have MC := Aside0.mk (MB.out.grow hb)
    clear hb MB cS cR
    have cS := blk_cell (MC.out.blk_at 0 rfl)
    have cR := blk_cell (MC.out.blk_at 8 rfl)
    have fR := blk_frozen (MC.out.blk_at 8 rfl)
    have r1 : decide (t.f2 < s.f2) = false := decide_eq_false (Int.not_lt.2 KE.out.v)
    have r2 : decide (t.f6 < s.f6) = false := decide_eq_false (Int.not_lt.2 KE.out.c)
    have r1' : (t.f2 < s.f2) = False := eq_false (Int.not_lt.2 KE.out.v)
    have r2' : (t.f6 < s.f6) = False := eq_false (Int.not_lt.2 KE.out.c)
    go_wp2
    go_roundg (l.length - k)
    case measure => have := HK.out; omega
    case rel => exact ⟨k + 1, t, T5, T7, T8, T9, T10, t5, t7, t8, t9, t10, _, by rw [Tz.wrapB k (by have := HN.out; omega)], ⟨by omega, by have := HK.out; omega⟩, ⟨⟨KE.out.m, KE.out.l⟩⟩, HFT, ⟨fun w'' h => ⟨h.row_C 0 rfl, h.row_C 1 rfl, h.row_C 2 rfl, h.row_C 3 rfl, h.row_C 4 rfl⟩⟩, ⟨Mem.sel (ps := [_, _, _, _, _, _, _, _, _]) (F := X) [8, 1, 2, 3, 4, 5] 9 (MC.out.setRow 8 rfl [.int .i64 t.f0, .int .i64 t.f1, .int .i64 t.f2, .int .i64 t.f3, .int .i64 t.f4, .slice T5 t.f5.length t5, .int .i64 t.f6, .slice T7 t.f7.length t7, .slice T8 t.f8.length t8, .slice T9 t.f9.length t9, .slice T10 t.f10.length t10, .int .i64 t.f11, .int .i64 t.f12] rfl) rfl rfl⟩⟩
  obtain ⟨_, e0'⟩ := ne_b e0
  have hts : t = s := HCO.out.resolve_left e0
  subst hts
  have cS := blk_cell (MB.out.blk_at 0 rfl)
  have cR := blk_cell (MB.out.blk_at 8 rfl)
  go_wp2_with fail
  refine (Same_good t T5 T7 T8 T9 T10 S5 S7 S8 S9 S10 t5 t7 t8 t9 t10 d5 d7 d8 d9 d10 _ ⟨MB.out.row_C 1 rfl, MB.out.row_C 2 rfl, MB.out.row_C 3 rfl, MB.out.row_C 4 rfl, MB.out.row_C 5 rfl⟩ (HX.out _ (Mem.behind (L0 := [_, _, _, _, _, _, _, _, _]) MB.out)) (may_small KE.out.m)).mono ?_
  rintro e w8 ⟨rfl, hM⟩
  have MB' := Aside0.mk (MB.out.trans hM)
  clear hM MB cS cR
  have MB := MB'
  clear MB'
  have cS := blk_cell (MB.out.blk_at 0 rfl)
  have cR := blk_cell (MB.out.blk_at 8 rfl)
  go_wp2_with fail
  refine (May11_any t T5 T7 T8 T9 T10 t5 t7 t8 t9 t10 _ ⟨MB.out.row_C 1 rfl, MB.out.row_C 2 rfl, MB.out.row_C 3 rfl, MB.out.row_C 4 rfl, MB.out.row_C 5 rfl⟩ HFT.out (may_maxLen KE.out.m)).mono ?_
  rintro e w9 ⟨he, hb⟩
  rw [(mayS_iff t).2 KE.out.m] at he
  subst he
  have MC := Aside0.mk (MB.out.grow hb)
  clear hb MB cS cR
  have cS := blk_cell (MC.out.blk_at 0 rfl)
  have cR := blk_cell (MC.out.blk_at 8 rfl)
  have fR := blk_frozen (MC.out.blk_at 8 rfl)
  have r1 : decide (t.f2 < t.f2) = false := decide_eq_false (Int.not_lt.2 KE.out.v)
  have r2 : decide (t.f6 < t.f6) = false := decide_eq_false (Int.not_lt.2 KE.out.c)
  have r1' : (t.f2 < t.f2) = False := eq_false (Int.not_lt.2 KE.out.v)
  have r2' : (t.f6 < t.f6) = False := eq_false (Int.not_lt.2 KE.out.c)
  go_wp2
  go_roundg (l.length - k)
  case measure => have := HK.out; omega
  case rel => exact ⟨k + 1, t, T5, T7, T8, T9, T10, t5, t7, t8, t9, t10, _, by rw [Tz.wrapB k (by have := HN.out; omega)], ⟨by omega, by have := HK.out; omega⟩, ⟨⟨KE.out.m, KE.out.l⟩⟩, HFT, ⟨fun w'' h => ⟨h.row_C 0 rfl, h.row_C 1 rfl, h.row_C 2 rfl, h.row_C 3 rfl, h.row_C 4 rfl⟩⟩, ⟨Mem.sel (ps := [_, _, _, _, _, _, _, _, _]) (F := X) [8, 1, 2, 3, 4, 5] 9 (MC.out.setRow 8 rfl [.int .i64 t.f0, .int .i64 t.f1, .int .i64 t.f2, .int .i64 t.f3, .int .i64 t.f4, .slice T5 t.f5.length t5, .int .i64 t.f6, .slice T7 t.f7.length t7, .slice T8 t.f8.length t8, .slice T9 t.f9.length t9, .slice T10 t.f10.length t10, .int .i64 t.f11, .int .i64 t.f12] rfl) rfl rfl⟩⟩
end Go.Proofs.Ytggbjokhniigkaa.Gl
