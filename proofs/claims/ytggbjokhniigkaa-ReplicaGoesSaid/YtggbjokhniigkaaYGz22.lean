/- Texts laid together: Tm, Tra, Tt7, Tj, Tt1. No condition. -/
import Derived.Deep.RegionHeld3
import Derived.Test.YtggbjokhniigkaaYGz11
set_option linter.unusedVariables false
set_option linter.unusedSimpArgs false
set_option maxRecDepth 100000
set_option maxHeartbeats 8000000
namespace Go.Proofs.Ytggbjokhniigkaa.Tm
open Ty Go.RowKit YtggbjokhniigkaaW.PrintWords YtggbjokhniigkaaW.PrintLast YtggbjokhniigkaaW.PrintMore Mx Kx Wa Tk Tl
theorem ask_n1 (w0 w : World) (F : List Res) (g : Nat) (r : Rep) (m : Msg) (v5 v7 v8 v9 v10 : Value) (A : Option Addr) (c : Nat) (hM : Mem w0 w (blk g 99 (Wa.wc r.f0 r.f1 r.f2 r.f3 r.f4 v5 r.f6 v7 v8 v9 v10 r.f11 r.f12 (.slice none 0 0)) :: row kM 29 (.slice none 0 0) [] :: Kx.sL r v5 v7 v8 v9 v10 F)) (h1 : ¬ m.f3 = r.f2) :
    Calls Try.prog 101 #[.pointer (some ⟨g, 0, none⟩), .agg #[.int .i64 m.f0, .int .i64 m.f1, .int .i64 m.f2, .int .i64 m.f3, .int .i64 m.f4, .int .i64 m.f5, .int .i64 m.f6, .slice A m.f7.length c]] w fun e w' => e = .returned (.tuple #[]) ∧ ∃ v5' v7' v8' v9' v10' vout' : Value, Mem w0 w' (blk g 99 (Wa.wc r.f0 r.f1 r.f2 r.f3 r.f4 v5' r.f6 v7' v8' v9' v10' r.f11 r.f12 vout') :: row kM 29 vout' [] :: Kx.sL r v5' v7' v8' v9' v10' F) := by
  obtain ⟨B5, d5, rfl, _, _⟩ := hM.row_at 2 rfl
  have e1 : (m.f3 == r.f2) = false := by simpa using h1
  clear h1
  have M1 := Aside0.mk (hM.alloc #[.int .i64 m.f0, .int .i64 m.f1, .int .i64 m.f2, .int .i64 m.f3, .int .i64 m.f4, .int .i64 m.f5, .int .i64 m.f6, .slice A m.f7.length c] 29)
  clear hM
  have cM := blk_cell (M1.out.blk_at 0 rfl)
  have cG := blk_cell (M1.out.blk_at 1 rfl)
  unfold Wa.wc at cG
  go_enter Try.func101, Try.ntmps101
  go_wp2_with fail
  go_quiet (fail)
  go_wp2
  first | go_end0 | go_ret
  exact ⟨rfl, _, _, _, _, _, _, Mem.sel (ps := [_, _, _, _, _, _, _, _]) (F := F) [1, 2, 3, 4, 5, 6, 7] 8 (M1.out.drewN _) rfl rfl⟩
theorem ask_n2 (w0 w : World) (F : List Res) (g : Nat) (r : Rep) (m : Msg) (v5 v7 v8 v9 v10 : Value) (A : Option Addr) (c : Nat) (hM : Mem w0 w (blk g 99 (Wa.wc r.f0 r.f1 r.f2 r.f3 r.f4 v5 r.f6 v7 v8 v9 v10 r.f11 r.f12 (.slice none 0 0)) :: row kM 29 (.slice none 0 0) [] :: Kx.sL r v5 v7 v8 v9 v10 F)) (h1 : m.f3 = r.f2) (h2 : ¬ r.f4 = 0) :
    Calls Try.prog 101 #[.pointer (some ⟨g, 0, none⟩), .agg #[.int .i64 m.f0, .int .i64 m.f1, .int .i64 m.f2, .int .i64 m.f3, .int .i64 m.f4, .int .i64 m.f5, .int .i64 m.f6, .slice A m.f7.length c]] w fun e w' => e = .returned (.tuple #[]) ∧ ∃ v5' v7' v8' v9' v10' vout' : Value, Mem w0 w' (blk g 99 (Wa.wc r.f0 r.f1 r.f2 r.f3 r.f4 v5' r.f6 v7' v8' v9' v10' r.f11 r.f12 vout') :: row kM 29 vout' [] :: Kx.sL r v5' v7' v8' v9' v10' F) := by
  obtain ⟨B5, d5, rfl, _, _⟩ := hM.row_at 2 rfl
  have e1 : (m.f3 == r.f2) = true := by simpa using h1
  clear h1
  have e2 : (r.f4 == 0) = false := by simpa using h2
  clear h2
  have M1 := Aside0.mk (hM.alloc #[.int .i64 m.f0, .int .i64 m.f1, .int .i64 m.f2, .int .i64 m.f3, .int .i64 m.f4, .int .i64 m.f5, .int .i64 m.f6, .slice A m.f7.length c] 29)
  clear hM
  have cM := blk_cell (M1.out.blk_at 0 rfl)
  have cG := blk_cell (M1.out.blk_at 1 rfl)
  unfold Wa.wc at cG
  go_enter Try.func101, Try.ntmps101
  go_wp2_with fail
  go_quiet (fail)
  go_wp2
  first | go_end0 | go_ret
  exact ⟨rfl, _, _, _, _, _, _, Mem.sel (ps := [_, _, _, _, _, _, _, _]) (F := F) [1, 2, 3, 4, 5, 6, 7] 8 (M1.out.drewN _) rfl rfl⟩
theorem ask_n3 (w0 w : World) (F : List Res) (g : Nat) (r : Rep) (m : Msg) (v5 v7 v8 v9 v10 : Value) (A : Option Addr) (c : Nat) (hM : Mem w0 w (blk g 99 (Wa.wc r.f0 r.f1 r.f2 r.f3 r.f4 v5 r.f6 v7 v8 v9 v10 r.f11 r.f12 (.slice none 0 0)) :: row kM 29 (.slice none 0 0) [] :: Kx.sL r v5 v7 v8 v9 v10 F)) (h1 : m.f3 = r.f2) (h2 : r.f4 = 0) (h3 : ¬ m.f4 ≤ (r.f5.length : Int)) :
    Calls Try.prog 101 #[.pointer (some ⟨g, 0, none⟩), .agg #[.int .i64 m.f0, .int .i64 m.f1, .int .i64 m.f2, .int .i64 m.f3, .int .i64 m.f4, .int .i64 m.f5, .int .i64 m.f6, .slice A m.f7.length c]] w fun e w' => e = .returned (.tuple #[]) ∧ ∃ v5' v7' v8' v9' v10' vout' : Value, Mem w0 w' (blk g 99 (Wa.wc r.f0 r.f1 r.f2 r.f3 r.f4 v5' r.f6 v7' v8' v9' v10' r.f11 r.f12 vout') :: row kM 29 vout' [] :: Kx.sL r v5' v7' v8' v9' v10' F) := by
  obtain ⟨B5, d5, rfl, _, _⟩ := hM.row_at 2 rfl
  have e1 : (m.f3 == r.f2) = true := by simpa using h1
  clear h1
  have e2 : (r.f4 == 0) = true := by simpa using h2
  clear h2
  have e3 : decide (m.f4 ≤ (r.f5.length : Int)) = false := by simpa using h3
  clear h3
  have M1 := Aside0.mk (hM.alloc #[.int .i64 m.f0, .int .i64 m.f1, .int .i64 m.f2, .int .i64 m.f3, .int .i64 m.f4, .int .i64 m.f5, .int .i64 m.f6, .slice A m.f7.length c] 29)
  clear hM
  have cM := blk_cell (M1.out.blk_at 0 rfl)
  have cG := blk_cell (M1.out.blk_at 1 rfl)
  unfold Wa.wc at cG
  go_enter Try.func101, Try.ntmps101
  go_wp2_with fail
  go_quiet (fail)
  go_wp2
  first | go_end0 | go_ret
  exact ⟨rfl, _, _, _, _, _, _, Mem.sel (ps := [_, _, _, _, _, _, _, _]) (F := F) [1, 2, 3, 4, 5, 6, 7] 8 (M1.out.drewN _) rfl rfl⟩
theorem ask_yes1 (w0 w : World) (F : List Res) (g : Nat) (r : Rep) (m : Msg) (B5 : Option Addr) (d5 : Nat) (v7 v8 v9 v10 : Value) (A : Option Addr) (c : Nat) (hM : Mem w0 w (blk g 99 (Wa.wc r.f0 r.f1 r.f2 r.f3 r.f4 (.slice B5 r.f5.length d5) r.f6 v7 v8 v9 v10 r.f11 r.f12 (.slice none 0 0)) :: row kM 29 (.slice none 0 0) [] :: row kE 102 (.slice B5 r.f5.length d5) r.f5 :: row (Kd.int .i64) 3 v7 r.f7 :: row (Kd.int .i64) 3 v8 r.f8 :: row (Kd.int .i64) 3 v9 r.f9 :: row kE 102 v10 r.f10 :: F)) (hdk : ¬ d5 = m.f4.toNat) (h1 : m.f3 = r.f2) (h2 : r.f4 = 0) (h3 : m.f4 ≤ (r.f5.length : Int)) (h0 : 0 ≤ m.f4) (hn : r.f5.length ≤ 1000000) :
    Calls Try.prog 101 #[.pointer (some ⟨g, 0, none⟩), .agg #[.int .i64 m.f0, .int .i64 m.f1, .int .i64 m.f2, .int .i64 m.f3, .int .i64 m.f4, .int .i64 m.f5, .int .i64 m.f6, .slice A m.f7.length c]] w fun e w' => e = .returned (.tuple #[]) ∧ ∃ v5' v7' v8' v9' v10' vout' : Value, Mem w0 w' (blk g 99 (Wa.wc r.f0 r.f1 r.f2 r.f3 r.f4 v5' r.f6 v7' v8' v9' v10' r.f11 r.f12 vout') :: row kM 29 vout' [toOne r m.f1 ⟨8, 0, 0, 0, m.f4, r.f6, 0, r.f5.drop m.f4.toNat⟩] :: Kx.sL r v5' v7' v8' v9' v10' F) := by
  obtain ⟨B5_, d5_, hE, hd5, hC⟩ := hM.row_at 2 rfl
  cases hE
  obtain ⟨k, hk⟩ := Int.eq_ofNat_of_zero_le h0
  rw [hk] at h3 hdk
  rw [Int.toNat_natCast] at hdk
  have hk3 : k ≤ r.f5.length := by omega
  have hkd : k ≤ d5 := by omega
  have HDK := Aside0.mk hdk
  have e3 : decide ((k : Int) ≤ (r.f5.length : Int)) = true := by simpa using h3
  have HK := Aside0.mk hk
  have e1 : (m.f3 == r.f2) = true := by simpa using h1
  clear h1
  have e2 : (r.f4 == 0) = true := by simpa using h2
  clear h2
  rw [hk]
  rw [show ((k : Int)).toNat = k from Int.toNat_natCast k]
  have hdl : (r.f5.drop k).length = r.f5.length - k := List.length_drop ..
  have HDL := Aside0.mk hdl
  have HD := Aside0.mk hd5
  have HN := Aside0.mk hn
  have HK3 := Aside0.mk hk3
  clear hdl hC hk h0 h3 hn
  have M1 := Aside0.mk (hM.alloc #[.int .i64 m.f0, .int .i64 m.f1, .int .i64 m.f2, .int .i64 m.f3, .int .i64 (k : Int), .int .i64 m.f5, .int .i64 m.f6, .slice A m.f7.length c] 29)
  clear hM
  have cM := blk_cell (M1.out.blk_at 0 rfl)
  have cG := blk_cell (M1.out.blk_at 1 rfl)
  unfold Wa.wc at cG
  go_enter Try.func101, Try.ntmps101
  go_wp2_with fail
  go_quiet (fail)
  go_wp2_with fail
  have M2 := Aside0.mk (M1.out.drewN nq)
  obtain ⟨wc, hwc⟩ : ∃ wc : World, (w.alloc (Obj.cells #[.int .i64 m.f0, .int .i64 m.f1, .int .i64 m.f2, .int .i64 m.f3, .int .i64 (k : Int), .int .i64 m.f5, .int .i64 m.f6, .slice A m.f7.length c] 29)).drewN nq = wc := ⟨_, rfl⟩
  rw [hwc] at M2 ⊢
  clear hwc M1 cM cG
  have HM0 := Aside0.mk (blk_cell (M2.out.blk_at 0 rfl))
  have HG0 := Aside0.mk (blk_cell (M2.out.blk_at 1 rfl))
  have cM := HM0.out
  have cG := HG0.out
  unfold Wa.wc at cG
  have M2D := Aside0.mk M2.out.drew
  have CALL : Aside0 (∀ wd : World, Mem w0 wd (row kE 102 (.slice B5 r.f5.length d5) r.f5 :: blk g 99 (Wa.wc r.f0 r.f1 r.f2 r.f3 r.f4 (.slice B5 r.f5.length d5) r.f6 v7 v8 v9 v10 r.f11 r.f12 (.slice none 0 0)) :: row kM 29 (.slice none 0 0) [] :: blk w.heap.size 29 #[.int .i64 m.f0, .int .i64 m.f1, .int .i64 m.f2, .int .i64 m.f3, .int .i64 (k : Int), .int .i64 m.f5, .int .i64 m.f6, .slice A m.f7.length c] :: row (Kd.int .i64) 3 v7 r.f7 :: row (Kd.int .i64) 3 v8 r.f8 :: row (Kd.int .i64) 3 v9 r.f9 :: row kE 102 v10 r.f10 :: F) →
      Calls Try.prog 94 #[.pointer (some ⟨g, 0, none⟩), .int .i64 m.f1, .agg #[.int .i64 8, .int .i64 0, .int .i64 0, .int .i64 0, .int .i64 (k : Int), .int .i64 r.f6, .int .i64 0, .slice (B5.map (fun x => x.add (k * 2))) (r.f5.length - k) (d5 - k)]] wd fun e w' =>
        ∃ vout' : Value, e = .returned (.tuple #[]) ∧ Mem w0 w' (row kE 102 (.slice B5 r.f5.length d5) r.f5 :: blk g 99 (Wa.wc r.f0 r.f1 r.f2 r.f3 r.f4 (.slice B5 r.f5.length d5) r.f6 v7 v8 v9 v10 r.f11 r.f12 vout') :: row kM 29 vout' [toOne r m.f1 ⟨8, 0, 0, 0, (k : Int), r.f6, 0, r.f5.drop k⟩] :: blk w.heap.size 29 #[.int .i64 m.f0, .int .i64 m.f1, .int .i64 m.f2, .int .i64 m.f3, .int .i64 (k : Int), .int .i64 m.f5, .int .i64 m.f6, .slice A m.f7.length c] :: row (Kd.int .i64) 3 v7 r.f7 :: row (Kd.int .i64) 3 v8 r.f8 :: row (Kd.int .i64) 3 v9 r.f9 :: row kE 102 v10 r.f10 :: F)) := ⟨fun wd hMd => by
    have h := send_calls w0 wd _ _ g r.f0 r.f1 r.f2 r.f3 r.f4 _ r.f6 _ _ _ _ r.f11 r.f12 _ [] m.f1 8 0 0 0 (k : Int) r.f6 0 (B5.map (fun x => x.add (k * 2))) (d5 - k) (r.f5.drop k) hMd (fun w' rs i hM hi => by have hq := Kd.C_drop (c := d5) (hM.row_C i hi) HK3.out HD.out; rwa [if_neg HDK.out] at hq) (by rw [HDL.out]; have := HN.out; omega) (by rw [HDL.out]; have := HD.out; omega) (by simp)
    rw [HDL.out] at h
    exact h⟩
  have HS0 := Aside0.mk (show (∀ j : Nat, wc.drew.cell? ⟨w.heap.size, j, none⟩ = wc.cell? ⟨w.heap.size, j, none⟩) ∧ (∀ j : Nat, j < 13 → wc.drew.cell? ⟨g, j, none⟩ = wc.cell? ⟨g, j, none⟩) from ⟨fun _ => rfl, fun _ _ => rfl⟩)
  have H9 := HS0
  go_region_held3 (fun w' => (∀ j : Nat, w'.cell? ⟨w.heap.size, j, none⟩ = wc.cell? ⟨w.heap.size, j, none⟩) ∧ (∀ j : Nat, j < 13 → w'.cell? ⟨g, j, none⟩ = wc.cell? ⟨g, j, none⟩)) (first | with_reducible exact HS0.out | with_reducible exact H9.out | fail) ((go_at_call 94; refine (CALL.out _ (Mem.sel (ps := [_, _, _, _, _, _, _, _]) (F := F) [3, 1, 2, 0, 4, 5, 6, 7] 8 M2D.out rfl rfl)).mono ?_; rintro e w1 ⟨vo, rfl, hM⟩; have M3 := Aside0.mk (Mem.sel (ps := [_, _, _, _, _, _, _, _]) (F := F) [3, 1, 2, 0, 4, 5, 6, 7] 8 hM rfl rfl); clear hM; have H9 := Aside0.mk (show (∀ j : Nat, w1.cell? ⟨w.heap.size, j, none⟩ = wc.cell? ⟨w.heap.size, j, none⟩) ∧ (∀ j : Nat, j < 13 → w1.cell? ⟨g, j, none⟩ = wc.cell? ⟨g, j, none⟩) from ⟨fun j => (blk_cell (M3.out.blk_at 0 rfl) j).trans (HM0.out j).symm, fun j hj => (blk_cell (M3.out.blk_at 1 rfl) j).trans (Eq.trans (wc_low _ _ _ _ _ _ _ _ _ _ _ _ _ _ _ j hj) (HG0.out j).symm)⟩)))
  go_wp2
  first | go_end0 | go_ret
  exact ⟨rfl, _, _, _, _, _, _, Mem.sel (ps := [_, _, _, _, _, _, _, _]) (F := F) [1, 2, 3, 4, 5, 6, 7] 8 M3.out rfl rfl⟩
theorem ask_yes0 (w0 w : World) (F : List Res) (g : Nat) (r : Rep) (m : Msg) (B5 : Option Addr) (d5 : Nat) (v7 v8 v9 v10 : Value) (A : Option Addr) (c : Nat) (hM : Mem w0 w (blk g 99 (Wa.wc r.f0 r.f1 r.f2 r.f3 r.f4 (.slice B5 r.f5.length d5) r.f6 v7 v8 v9 v10 r.f11 r.f12 (.slice none 0 0)) :: row kM 29 (.slice none 0 0) [] :: row kE 102 (.slice B5 r.f5.length d5) r.f5 :: row (Kd.int .i64) 3 v7 r.f7 :: row (Kd.int .i64) 3 v8 r.f8 :: row (Kd.int .i64) 3 v9 r.f9 :: row kE 102 v10 r.f10 :: F)) (hdk : d5 = m.f4.toNat) (h1 : m.f3 = r.f2) (h2 : r.f4 = 0) (h3 : m.f4 ≤ (r.f5.length : Int)) (h0 : 0 ≤ m.f4) (hn : r.f5.length ≤ 1000000) :
    Calls Try.prog 101 #[.pointer (some ⟨g, 0, none⟩), .agg #[.int .i64 m.f0, .int .i64 m.f1, .int .i64 m.f2, .int .i64 m.f3, .int .i64 m.f4, .int .i64 m.f5, .int .i64 m.f6, .slice A m.f7.length c]] w fun e w' => e = .returned (.tuple #[]) ∧ ∃ v5' v7' v8' v9' v10' vout' : Value, Mem w0 w' (blk g 99 (Wa.wc r.f0 r.f1 r.f2 r.f3 r.f4 v5' r.f6 v7' v8' v9' v10' r.f11 r.f12 vout') :: row kM 29 vout' [toOne r m.f1 ⟨8, 0, 0, 0, m.f4, r.f6, 0, r.f5.drop m.f4.toNat⟩] :: Kx.sL r v5' v7' v8' v9' v10' F) := by
  obtain ⟨B5_, d5_, hE, hd5, hC⟩ := hM.row_at 2 rfl
  cases hE
  obtain ⟨k, hk⟩ := Int.eq_ofNat_of_zero_le h0
  rw [hk] at h3 hdk
  rw [Int.toNat_natCast] at hdk
  have hk3 : k ≤ r.f5.length := by omega
  have hkd : k ≤ d5 := by omega
  have HDK := Aside0.mk hdk
  have hdt : (d5 = k) = True := eq_true hdk
  clear hdk
  have e3 : decide ((k : Int) ≤ (r.f5.length : Int)) = true := by simpa using h3
  have HK := Aside0.mk hk
  have e1 : (m.f3 == r.f2) = true := by simpa using h1
  clear h1
  have e2 : (r.f4 == 0) = true := by simpa using h2
  clear h2
  rw [hk]
  rw [show ((k : Int)).toNat = k from Int.toNat_natCast k]
  have hdl : (r.f5.drop k).length = r.f5.length - k := List.length_drop ..
  have HDL := Aside0.mk hdl
  have HD := Aside0.mk hd5
  have HN := Aside0.mk hn
  have HK3 := Aside0.mk hk3
  clear hdl hC hk h0 h3 hn
  have M1 := Aside0.mk (hM.alloc #[.int .i64 m.f0, .int .i64 m.f1, .int .i64 m.f2, .int .i64 m.f3, .int .i64 (k : Int), .int .i64 m.f5, .int .i64 m.f6, .slice A m.f7.length c] 29)
  clear hM
  have cM := blk_cell (M1.out.blk_at 0 rfl)
  have cG := blk_cell (M1.out.blk_at 1 rfl)
  unfold Wa.wc at cG
  go_enter Try.func101, Try.ntmps101
  go_wp2_with fail
  go_quiet (fail)
  go_wp2_with fail
  have M2 := Aside0.mk (M1.out.drewN nq)
  obtain ⟨wc, hwc⟩ : ∃ wc : World, (w.alloc (Obj.cells #[.int .i64 m.f0, .int .i64 m.f1, .int .i64 m.f2, .int .i64 m.f3, .int .i64 (k : Int), .int .i64 m.f5, .int .i64 m.f6, .slice A m.f7.length c] 29)).drewN nq = wc := ⟨_, rfl⟩
  rw [hwc] at M2 ⊢
  clear hwc M1 cM cG
  have HM0 := Aside0.mk (blk_cell (M2.out.blk_at 0 rfl))
  have HG0 := Aside0.mk (blk_cell (M2.out.blk_at 1 rfl))
  have cM := HM0.out
  have cG := HG0.out
  unfold Wa.wc at cG
  have M2D := Aside0.mk M2.out.drew
  have CALL : Aside0 (∀ wd : World, Mem w0 wd (row kE 102 (.slice B5 r.f5.length d5) r.f5 :: blk g 99 (Wa.wc r.f0 r.f1 r.f2 r.f3 r.f4 (.slice B5 r.f5.length d5) r.f6 v7 v8 v9 v10 r.f11 r.f12 (.slice none 0 0)) :: row kM 29 (.slice none 0 0) [] :: blk w.heap.size 29 #[.int .i64 m.f0, .int .i64 m.f1, .int .i64 m.f2, .int .i64 m.f3, .int .i64 (k : Int), .int .i64 m.f5, .int .i64 m.f6, .slice A m.f7.length c] :: row (Kd.int .i64) 3 v7 r.f7 :: row (Kd.int .i64) 3 v8 r.f8 :: row (Kd.int .i64) 3 v9 r.f9 :: row kE 102 v10 r.f10 :: F) →
      Calls Try.prog 94 #[.pointer (some ⟨g, 0, none⟩), .int .i64 m.f1, .agg #[.int .i64 8, .int .i64 0, .int .i64 0, .int .i64 0, .int .i64 (k : Int), .int .i64 r.f6, .int .i64 0, .slice B5 (r.f5.length - k) (d5 - k)]] wd fun e w' =>
        ∃ vout' : Value, e = .returned (.tuple #[]) ∧ Mem w0 w' (row kE 102 (.slice B5 r.f5.length d5) r.f5 :: blk g 99 (Wa.wc r.f0 r.f1 r.f2 r.f3 r.f4 (.slice B5 r.f5.length d5) r.f6 v7 v8 v9 v10 r.f11 r.f12 vout') :: row kM 29 vout' [toOne r m.f1 ⟨8, 0, 0, 0, (k : Int), r.f6, 0, r.f5.drop k⟩] :: blk w.heap.size 29 #[.int .i64 m.f0, .int .i64 m.f1, .int .i64 m.f2, .int .i64 m.f3, .int .i64 (k : Int), .int .i64 m.f5, .int .i64 m.f6, .slice A m.f7.length c] :: row (Kd.int .i64) 3 v7 r.f7 :: row (Kd.int .i64) 3 v8 r.f8 :: row (Kd.int .i64) 3 v9 r.f9 :: row kE 102 v10 r.f10 :: F)) := ⟨fun wd hMd => by
    have h := send_calls w0 wd _ _ g r.f0 r.f1 r.f2 r.f3 r.f4 _ r.f6 _ _ _ _ r.f11 r.f12 _ [] m.f1 8 0 0 0 (k : Int) r.f6 0 B5 (d5 - k) (r.f5.drop k) hMd (fun w' rs i hM hi => by have hq := Kd.C_drop (c := d5) (hM.row_C i hi) HK3.out HD.out; rwa [if_pos HDK.out] at hq) (by rw [HDL.out]; have := HN.out; omega) (by rw [HDL.out]; have := HD.out; omega) (by simp)
    rw [HDL.out] at h
    exact h⟩
  have HS0 := Aside0.mk (show (∀ j : Nat, wc.drew.cell? ⟨w.heap.size, j, none⟩ = wc.cell? ⟨w.heap.size, j, none⟩) ∧ (∀ j : Nat, j < 13 → wc.drew.cell? ⟨g, j, none⟩ = wc.cell? ⟨g, j, none⟩) from ⟨fun _ => rfl, fun _ _ => rfl⟩)
  have H9 := HS0
  go_region_held3 (fun w' => (∀ j : Nat, w'.cell? ⟨w.heap.size, j, none⟩ = wc.cell? ⟨w.heap.size, j, none⟩) ∧ (∀ j : Nat, j < 13 → w'.cell? ⟨g, j, none⟩ = wc.cell? ⟨g, j, none⟩)) (first | with_reducible exact HS0.out | with_reducible exact H9.out | fail) ((go_at_call 94; refine (CALL.out _ (Mem.sel (ps := [_, _, _, _, _, _, _, _]) (F := F) [3, 1, 2, 0, 4, 5, 6, 7] 8 M2D.out rfl rfl)).mono ?_; rintro e w1 ⟨vo, rfl, hM⟩; have M3 := Aside0.mk (Mem.sel (ps := [_, _, _, _, _, _, _, _]) (F := F) [3, 1, 2, 0, 4, 5, 6, 7] 8 hM rfl rfl); clear hM; have H9 := Aside0.mk (show (∀ j : Nat, w1.cell? ⟨w.heap.size, j, none⟩ = wc.cell? ⟨w.heap.size, j, none⟩) ∧ (∀ j : Nat, j < 13 → w1.cell? ⟨g, j, none⟩ = wc.cell? ⟨g, j, none⟩) from ⟨fun j => (blk_cell (M3.out.blk_at 0 rfl) j).trans (HM0.out j).symm, fun j hj => (blk_cell (M3.out.blk_at 1 rfl) j).trans (Eq.trans (wc_low _ _ _ _ _ _ _ _ _ _ _ _ _ _ _ j hj) (HG0.out j).symm)⟩)))
  go_wp2
  first | go_end0 | go_ret
  exact ⟨rfl, _, _, _, _, _, _, Mem.sel (ps := [_, _, _, _, _, _, _, _]) (F := F) [1, 2, 3, 4, 5, 6, 7] 8 M3.out rfl rfl⟩
end Go.Proofs.Ytggbjokhniigkaa.Tm
namespace Go.Proofs.Ytggbjokhniigkaa.Tra
end Go.Proofs.Ytggbjokhniigkaa.Tra
namespace Go.Proofs.Ytggbjokhniigkaa.Tt7
open Ty Go.RowKit YtggbjokhniigkaaW.PrintWords YtggbjokhniigkaaW.PrintLast YtggbjokhniigkaaW.PrintMore Mx Kx Wa Wb Ta Tb
theorem takes_7 (w0 w : World) (F : List Res) (g : Nat) (r s : Rep) (m : Msg) (v5 v7 v8 v9 v10 vout : Value) (out : List Msg) (A : Option Addr) (c : Nat) (hk : m.f0 = 7) (hm : mayM r m = true)
    (hM : Mem w0 w (blk g 99 (Wa.wc r.f0 r.f1 r.f2 r.f3 r.f4 v5 r.f6 v7 v8 v9 v10 r.f11 r.f12 vout) :: row kM 29 vout [] :: Kx.sL r v5 v7 v8 v9 v10 F)) (hl : Kd.C kE w0 A m.f7.length m.f7) (hn : m.f7.length ≤ 1000000000)
    (hcall : ∀ (F : List Res) (w : World), Mem w0 w (blk g 99 (Wa.wc r.f0 r.f1 r.f2 r.f3 r.f4 v5 r.f6 v7 v8 v9 v10 r.f11 r.f12 vout) :: row kM 29 vout [] :: Kx.sL r v5 v7 v8 v9 v10 F) → Calls Try.prog 101 #[.pointer (some ⟨g, 0, none⟩), .agg #[.int .i64 m.f0, .int .i64 m.f1, .int .i64 m.f2, .int .i64 m.f3, .int .i64 m.f4, .int .i64 m.f5, .int .i64 m.f6, .slice A m.f7.length c]] w fun e w' => e = .returned (.tuple #[]) ∧ ∃ v5' v7' v8' v9' v10' vout' : Value, Mem w0 w' (blk g 99 (Wa.wc s.f0 s.f1 s.f2 s.f3 s.f4 v5' s.f6 v7' v8' v9' v10' s.f11 s.f12 vout') :: row kM 29 vout' out :: Kx.sL s v5' v7' v8' v9' v10' F)) :
    Calls Try.prog 86 #[.pointer (some ⟨g, 0, none⟩), .agg #[.int .i64 m.f0, .int .i64 m.f1, .int .i64 m.f2, .int .i64 m.f3, .int .i64 m.f4, .int .i64 m.f5, .int .i64 m.f6, .slice A m.f7.length c]] w fun e w' => e = .returned (.bool true) ∧ ∃ v5' v7' v8' v9' v10' vout' : Value, Mem w0 w' (blk g 99 (Wa.wc s.f0 s.f1 s.f2 s.f3 s.f4 v5' s.f6 v7' v8' v9' v10' s.f11 s.f12 vout') :: row kM 29 vout' out :: Kx.sL s v5' v7' v8' v9' v10' F) := by
  have hmf : ∀ (fn : Fn) (first cap : Array Value) (w : World), (Instr.makeFunc fn first cap).run Try.prog w = .ok (.func fn first cap) w := fun _ _ _ _ => rfl
  have HMF := Aside0.mk hmf
  obtain ⟨B5, d5, rfl, _, _⟩ := hM.row_at 2 rfl
  obtain ⟨B7, d7, rfl, _, _⟩ := hM.row_at 3 rfl
  obtain ⟨B8, d8, rfl, _, _⟩ := hM.row_at 4 rfl
  obtain ⟨B9, d9, rfl, _, _⟩ := hM.row_at 5 rfl
  obtain ⟨B10, d10, rfl, _, _⟩ := hM.row_at 6 rfl
  have HL := Aside0.mk hl
  have HN := Aside0.mk hn
  have CALL := Aside0.mk hcall
  have HMB := Aside0.mk hm
  have HMC : Aside0 (∀ w', Kd.C kE w' A m.f7.length m.f7 → Calls Try.prog 103 #[.agg #[.int .i64 r.f0, .int .i64 r.f1, .int .i64 r.f2, .int .i64 r.f3, .int .i64 r.f4, .slice B5 r.f5.length d5, .int .i64 r.f6, .slice B7 r.f7.length d7, .slice B8 r.f8.length d8, .slice B9 r.f9.length d9, .slice B10 r.f10.length d10, .int .i64 r.f11, .int .i64 r.f12], .agg #[.int .i64 7, .int .i64 m.f1, .int .i64 m.f2, .int .i64 m.f3, .int .i64 m.f4, .int .i64 m.f5, .int .i64 m.f6, .slice A m.f7.length c]] w' fun e w'' => e = .returned (.bool true) ∧ Mem w' w'' []) :=
    ⟨fun w' h => by have := mayM_calls r m B5 B7 B8 B9 B10 A d5 d7 d8 d9 d10 c w' h hn; (try unfold Kx.mA at this); rw [hm, hk] at this; exact this⟩
  rw [hk] at hcall CALL ⊢
  have M1 := Aside0.mk (((hM.alloc #[.int .i64 7, .int .i64 m.f1, .int .i64 m.f2, .int .i64 m.f3, .int .i64 m.f4, .int .i64 m.f5, .int .i64 m.f6, .slice A m.f7.length c] 29).allocAt #[.bool false] 4 (w.heap.size + 1) (by simp)).allocAt #[.nilFunc, .func (Fn.func 96) #[.pointer (some ⟨g, 0, none⟩)] #[], .func (Fn.func 97) #[.pointer (some ⟨g, 0, none⟩)] #[], .func (Fn.func 96) #[.pointer (some ⟨g, 0, none⟩)] #[], .func (Fn.func 98) #[.pointer (some ⟨g, 0, none⟩)] #[], .func (Fn.func 99) #[.pointer (some ⟨g, 0, none⟩)] #[], .func (Fn.func 100) #[.pointer (some ⟨g, 0, none⟩)] #[], .func (Fn.func 101) #[.pointer (some ⟨g, 0, none⟩)] #[], .func (Fn.func 102) #[.pointer (some ⟨g, 0, none⟩)] #[]] 103 (w.heap.size + 2) (by simp))
  clear hl hn hM hcall hm hk
  have cM := blk_cell (M1.out.blk_at 2 rfl)
  have cB := blk_cell (M1.out.blk_at 1 rfl)
  have cF := blk_cell (M1.out.blk_at 0 rfl)
  have cG := blk_cell (M1.out.blk_at 3 rfl)
  unfold Wa.wc at cG
  go_enter_defers Try.func86, Try.ntmps86
  go_wp2_with fail
  go_upto_region 3 with (fail)
  clear cM cB cF cG
  obtain ⟨wc, hwc⟩ : ∃ wc : World, ((w.alloc (Obj.cells #[.int .i64 7, .int .i64 m.f1, .int .i64 m.f2, .int .i64 m.f3, .int .i64 m.f4, .int .i64 m.f5, .int .i64 m.f6, .slice A m.f7.length c] 29)).alloc (Obj.cells #[.bool false] 4)).alloc (Obj.cells #[.nilFunc, .func (Fn.func 96) #[.pointer (some ⟨g, 0, none⟩)] #[], .func (Fn.func 97) #[.pointer (some ⟨g, 0, none⟩)] #[], .func (Fn.func 96) #[.pointer (some ⟨g, 0, none⟩)] #[], .func (Fn.func 98) #[.pointer (some ⟨g, 0, none⟩)] #[], .func (Fn.func 99) #[.pointer (some ⟨g, 0, none⟩)] #[], .func (Fn.func 100) #[.pointer (some ⟨g, 0, none⟩)] #[], .func (Fn.func 101) #[.pointer (some ⟨g, 0, none⟩)] #[], .func (Fn.func 102) #[.pointer (some ⟨g, 0, none⟩)] #[]] 103) = wc := ⟨_, rfl⟩
  rw [hwc] at M1 ⊢
  clear hwc
  have cM := blk_cell (M1.out.blk_at 2 rfl)
  have cG0 := blk_cell (M1.out.blk_at 3 rfl)
  have HG0 := Aside0.mk cG0
  have HM0 := Aside0.mk cM
  have cG := cG0
  unfold Wa.wc at cG
  clear cG0
  have M1D := Aside0.mk M1.out.drew
  have HS0 := Aside0.mk (show (∀ j : Nat, wc.drew.cell? ⟨w.heap.size, j, none⟩ = wc.cell? ⟨w.heap.size, j, none⟩) ∧ (∀ j : Nat, wc.drew.cell? ⟨g, j, none⟩ = wc.cell? ⟨g, j, none⟩) from ⟨fun _ => rfl, fun _ => rfl⟩)
  have H9 := HS0
  go_region_held3 (fun w' => (∀ j : Nat, w'.cell? ⟨w.heap.size, j, none⟩ = wc.cell? ⟨w.heap.size, j, none⟩) ∧ (∀ j : Nat, w'.cell? ⟨g, j, none⟩ = wc.cell? ⟨g, j, none⟩)) (first | with_reducible exact HS0.out | with_reducible exact H9.out | fail) ((go_at_call 103; refine (HMC.out _ (Kd.C_below HL.out M1D.out.below)).mono ?_; rintro e w1 ⟨rfl, hM⟩; have M2 := Aside0.mk (M1D.out.trans hM); clear hM; have H9 := Aside0.mk (show (∀ j : Nat, w1.cell? ⟨w.heap.size, j, none⟩ = wc.cell? ⟨w.heap.size, j, none⟩) ∧ (∀ j : Nat, w1.cell? ⟨g, j, none⟩ = wc.cell? ⟨g, j, none⟩) from ⟨fun j => (blk_cell (M2.out.blk_at 2 rfl) j).trans (HM0.out j).symm, fun j => (blk_cell (M2.out.blk_at 3 rfl) j).trans (HG0.out j).symm⟩)))
  clear H9 HS0 HM0 HG0 M1D
  have HF0 := Aside0.mk (blk_cell (M2.out.blk_at 0 rfl))
  have HM0 := Aside0.mk (blk_cell (M2.out.blk_at 2 rfl))
  have cM := HM0.out
  have cF := HF0.out
  go_wp2_with fail
  go_upto_region 5 with (fail)
  have M2D := Aside0.mk M2.out.drew
  have HS0 := Aside0.mk (show (∀ j : Nat, w1.drew.cell? ⟨w.heap.size, j, none⟩ = w1.cell? ⟨w.heap.size, j, none⟩) ∧ (∀ j : Nat, w1.drew.cell? ⟨w.heap.size + 1 + 1, j, none⟩ = w1.cell? ⟨w.heap.size + 1 + 1, j, none⟩) from ⟨fun _ => rfl, fun _ => rfl⟩)
  have H9 := HS0
  go_region_held3 (fun w' => (∀ j : Nat, w'.cell? ⟨w.heap.size, j, none⟩ = w1.cell? ⟨w.heap.size, j, none⟩) ∧ (∀ j : Nat, w'.cell? ⟨w.heap.size + 1 + 1, j, none⟩ = w1.cell? ⟨w.heap.size + 1 + 1, j, none⟩)) (first | with_reducible exact HS0.out | with_reducible exact H9.out | fail) ((go_at_call 101; refine (CALL.out (_ :: _ :: _ :: F) _ (Mem.sel (ps := [_, _, _, _, _, _, _, _, _, _]) (F := F) [3, 4, 5, 6, 7, 8, 9, 0, 1, 2] 10 M2D.out rfl rfl)).mono ?_; rintro e w2 ⟨rfl, v5', v7', v8', v9', v10', vout', hM⟩; have M3 := Aside0.mk (Mem.sel (ps := [_, _, _, _, _, _, _, _, _, _]) (F := F) [7, 8, 9, 0, 1, 2, 3, 4, 5, 6] 10 hM rfl rfl); clear hM; have H9 := Aside0.mk (show (∀ j : Nat, w2.cell? ⟨w.heap.size, j, none⟩ = w1.cell? ⟨w.heap.size, j, none⟩) ∧ (∀ j : Nat, w2.cell? ⟨w.heap.size + 1 + 1, j, none⟩ = w1.cell? ⟨w.heap.size + 1 + 1, j, none⟩) from ⟨fun j => (blk_cell (M3.out.blk_at 2 rfl) j).trans (HM0.out j).symm, fun j => (blk_cell (M3.out.blk_at 0 rfl) j).trans (HF0.out j).symm⟩)))
  clear H9 HS0 HM0 HF0 M2D
  have cB := blk_cell (M3.out.blk_at 1 rfl)
  have fB := blk_frozen (M3.out.blk_at 1 rfl)
  have hB := blk_lt (M3.out.blk_at 1 rfl)
  clear cM cF cG M1 M2
  go_wp2_with fail
  refine leaves_cons (f := 95) (args := #[.pointer (some ⟨w.heap.size + 1, 0, none⟩)]) (by simp) (by simp [go_sem]) ?_
  refine (catch_idle ⟨w.heap.size + 1, 0, none⟩ _).mono ?_
  rintro e u' w4 ⟨rfl, rfl, hM⟩
  have M4 := (M3.out.set 1 rfl 0 (.bool true)).trans hM
  have cE : w4.cell? ⟨w.heap.size + 1, 0, none⟩ = some (.bool true) := blk_cell (M4.blk_at 1 rfl) 0
  clear hM
  simp [Leaves, settle, results, Try.results86, go_sem, cE]
  exact ⟨_, _, _, _, _, _, Mem.sel (ps := [_, _, _, _, _, _, _, _, _, _]) (F := F) [3, 4, 5, 6, 7, 8, 9] 10 M4 rfl rfl⟩
end Go.Proofs.Ytggbjokhniigkaa.Tt7
namespace Go.Proofs.Ytggbjokhniigkaa.Tj
open Tra Tt7 Ty Go.RowKit YtggbjokhniigkaaW.PrintWords YtggbjokhniigkaaW.PrintLast YtggbjokhniigkaaW.PrintMore Mx Kx Wa Wb Wc Wd Vc Wj Tk Tb Tn Tt Tx Tm Tr
theorem mayP_iff (r : Rep) (m : Msg) : mayMsgP r m ↔ mayMsg r m = true := by
  unfold mayMsgP mayMsg mayM
  simp only [Bool.and_eq_true, decide_eq_true_eq, Bool.or_eq_true, Bool.not_eq_true', beq_eq_false_iff_ne, beq_iff_eq, ne_eq]
  constructor
  · rintro ⟨a1, a2, a3, a4, a5, a6, a7, a8, a9, a10, a11, a12⟩
    refine ⟨a1, a2, a3, a4, a5, a6, a7, a8, a9, a10, a11, ?_⟩
    by_cases h : m.f0 = 1
    · exact .inr (by have := a12 h; omega)
    · exact .inl h
  · rintro ⟨a1, a2, a3, a4, a5, a6, a7, a8, a9, a10, a11, a12⟩
    exact ⟨a1, a2, a3, a4, a5, a6, a7, a8, a9, a10, a11, fun h => a12.elim (fun h' => absurd h h') (fun h' => by omega)⟩
theorem mayMsg_in (r : Rep) (m : Msg) (h1 : 1 ≤ m.f0) (h8 : m.f0 ≤ 8) : mayMsg r m = mayM r m := by simp [mayMsg, h1, h8]
theorem mayM_f4 {r : Rep} {m : Msg} (h : mayM r m = true) : 0 ≤ m.f4 := by
  unfold mayM at h
  simp only [Bool.and_eq_true] at h
  have := h.2.2.2.2.2.1
  unfold below at this
  simp at this
  exact this.1
theorem ask_calls (w0 w : World) (F : List Res) (g : Nat) (r : Rep) (m : Msg) (v5 v7 v8 v9 v10 : Value) (A : Option Addr) (c : Nat) (hM : Mem w0 w (blk g 99 (Wa.wc r.f0 r.f1 r.f2 r.f3 r.f4 v5 r.f6 v7 v8 v9 v10 r.f11 r.f12 (.slice none 0 0)) :: row kM 29 (.slice none 0 0) [] :: Kx.sL r v5 v7 v8 v9 v10 F)) (hm : mayM r m = true) (hn : r.f5.length ≤ 1000000) :
    Calls Try.prog 101 #[.pointer (some ⟨g, 0, none⟩), .agg (Kx.mA m A c)] w fun e w' => e = .returned (.tuple #[]) ∧ ∃ v5' v7' v8' v9' v10' vout' : Value, Mem w0 w' (blk g 99 (Wa.wc (tAsk r m).1.f0 (tAsk r m).1.f1 (tAsk r m).1.f2 (tAsk r m).1.f3 (tAsk r m).1.f4 v5' (tAsk r m).1.f6 v7' v8' v9' v10' (tAsk r m).1.f11 (tAsk r m).1.f12 vout') :: row kM 29 vout' (tAsk r m).2 :: row kE 102 v5' (tAsk r m).1.f5 :: row (Kd.int .i64) 3 v7' (tAsk r m).1.f7 :: row (Kd.int .i64) 3 v8' (tAsk r m).1.f8 :: row (Kd.int .i64) 3 v9' (tAsk r m).1.f9 :: row kE 102 v10' (tAsk r m).1.f10 :: F) := by
  by_cases h1 : m.f3 = r.f2
  case neg =>
    have e : tAsk r m = (r, []) := by unfold tAsk; rw [if_neg (fun h => h1 h.1)]
    rw [e]
    exact ask_n1 w0 w F g r m v5 v7 v8 v9 v10 A c hM h1
  by_cases h2 : r.f4 = 0
  case neg =>
    have e : tAsk r m = (r, []) := by unfold tAsk; rw [if_neg (fun h => h2 h.2.1)]
    rw [e]
    exact ask_n2 w0 w F g r m v5 v7 v8 v9 v10 A c hM h1 h2
  by_cases h3 : m.f4 ≤ (r.f5.length : Int)
  case neg =>
    have e : tAsk r m = (r, []) := by unfold tAsk; rw [if_neg (fun h => h3 h.2.2)]
    rw [e]
    exact ask_n3 w0 w F g r m v5 v7 v8 v9 v10 A c hM h1 h2 h3
  have e : tAsk r m = (r, [toOne r m.f1 ⟨8, 0, 0, 0, m.f4, r.f6, 0, r.f5.drop m.f4.toNat⟩]) := by unfold tAsk; rw [if_pos ⟨h1, h2, h3⟩]
  rw [e]
  obtain ⟨B5, d5, rfl, _, _⟩ := hM.row_at 2 rfl
  by_cases hdk : d5 = m.f4.toNat
  · exact ask_yes0 w0 w F g r m B5 d5 v7 v8 v9 v10 A c hM hdk h1 h2 h3 (mayM_f4 hm) hn
  · exact ask_yes1 w0 w F g r m B5 d5 v7 v8 v9 v10 A c hM hdk h1 h2 h3 (mayM_f4 hm) hn
end Go.Proofs.Ytggbjokhniigkaa.Tj
namespace Go.Proofs.Ytggbjokhniigkaa.Tt1
open Ty Go.RowKit YtggbjokhniigkaaW.PrintWords YtggbjokhniigkaaW.PrintLast YtggbjokhniigkaaW.PrintMore Mx Kx Wa Wb Ta Tb
theorem takes_1 (w0 w : World) (F : List Res) (g : Nat) (r s : Rep) (m : Msg) (v5 v7 v8 v9 v10 vout : Value) (out : List Msg) (A : Option Addr) (c : Nat) (hk : m.f0 = 1) (hm : mayM r m = true)
    (hM : Mem w0 w (blk g 99 (Wa.wc r.f0 r.f1 r.f2 r.f3 r.f4 v5 r.f6 v7 v8 v9 v10 r.f11 r.f12 vout) :: row kM 29 vout [] :: Kx.sL r v5 v7 v8 v9 v10 F)) (hl : Kd.C kE w0 A m.f7.length m.f7) (hn : m.f7.length ≤ 1000000000)
    (hcall : ∀ (F : List Res) (w : World), Mem w0 w (blk g 99 (Wa.wc r.f0 r.f1 r.f2 r.f3 r.f4 v5 r.f6 v7 v8 v9 v10 r.f11 r.f12 vout) :: row kM 29 vout [] :: Kx.sL r v5 v7 v8 v9 v10 F) → Calls Try.prog 96 #[.pointer (some ⟨g, 0, none⟩), .agg #[.int .i64 m.f0, .int .i64 m.f1, .int .i64 m.f2, .int .i64 m.f3, .int .i64 m.f4, .int .i64 m.f5, .int .i64 m.f6, .slice A m.f7.length c]] w fun e w' => e = .returned (.tuple #[]) ∧ ∃ v5' v7' v8' v9' v10' vout' : Value, Mem w0 w' (blk g 99 (Wa.wc s.f0 s.f1 s.f2 s.f3 s.f4 v5' s.f6 v7' v8' v9' v10' s.f11 s.f12 vout') :: row kM 29 vout' out :: Kx.sL s v5' v7' v8' v9' v10' F)) :
    Calls Try.prog 86 #[.pointer (some ⟨g, 0, none⟩), .agg #[.int .i64 m.f0, .int .i64 m.f1, .int .i64 m.f2, .int .i64 m.f3, .int .i64 m.f4, .int .i64 m.f5, .int .i64 m.f6, .slice A m.f7.length c]] w fun e w' => e = .returned (.bool true) ∧ ∃ v5' v7' v8' v9' v10' vout' : Value, Mem w0 w' (blk g 99 (Wa.wc s.f0 s.f1 s.f2 s.f3 s.f4 v5' s.f6 v7' v8' v9' v10' s.f11 s.f12 vout') :: row kM 29 vout' out :: Kx.sL s v5' v7' v8' v9' v10' F) := by
  have hmf : ∀ (fn : Fn) (first cap : Array Value) (w : World), (Instr.makeFunc fn first cap).run Try.prog w = .ok (.func fn first cap) w := fun _ _ _ _ => rfl
  have HMF := Aside0.mk hmf
  obtain ⟨B5, d5, rfl, _, _⟩ := hM.row_at 2 rfl
  obtain ⟨B7, d7, rfl, _, _⟩ := hM.row_at 3 rfl
  obtain ⟨B8, d8, rfl, _, _⟩ := hM.row_at 4 rfl
  obtain ⟨B9, d9, rfl, _, _⟩ := hM.row_at 5 rfl
  obtain ⟨B10, d10, rfl, _, _⟩ := hM.row_at 6 rfl
  have HL := Aside0.mk hl
  have HN := Aside0.mk hn
  have CALL := Aside0.mk hcall
  have HMB := Aside0.mk hm
  have HMC : Aside0 (∀ w', Kd.C kE w' A m.f7.length m.f7 → Calls Try.prog 103 #[.agg #[.int .i64 r.f0, .int .i64 r.f1, .int .i64 r.f2, .int .i64 r.f3, .int .i64 r.f4, .slice B5 r.f5.length d5, .int .i64 r.f6, .slice B7 r.f7.length d7, .slice B8 r.f8.length d8, .slice B9 r.f9.length d9, .slice B10 r.f10.length d10, .int .i64 r.f11, .int .i64 r.f12], .agg #[.int .i64 1, .int .i64 m.f1, .int .i64 m.f2, .int .i64 m.f3, .int .i64 m.f4, .int .i64 m.f5, .int .i64 m.f6, .slice A m.f7.length c]] w' fun e w'' => e = .returned (.bool true) ∧ Mem w' w'' []) :=
    ⟨fun w' h => by have := mayM_calls r m B5 B7 B8 B9 B10 A d5 d7 d8 d9 d10 c w' h hn; (try unfold Kx.mA at this); rw [hm, hk] at this; exact this⟩
  rw [hk] at hcall CALL ⊢
  have M1 := Aside0.mk (((hM.alloc #[.int .i64 1, .int .i64 m.f1, .int .i64 m.f2, .int .i64 m.f3, .int .i64 m.f4, .int .i64 m.f5, .int .i64 m.f6, .slice A m.f7.length c] 29).allocAt #[.bool false] 4 (w.heap.size + 1) (by simp)).allocAt #[.nilFunc, .func (Fn.func 96) #[.pointer (some ⟨g, 0, none⟩)] #[], .func (Fn.func 97) #[.pointer (some ⟨g, 0, none⟩)] #[], .func (Fn.func 96) #[.pointer (some ⟨g, 0, none⟩)] #[], .func (Fn.func 98) #[.pointer (some ⟨g, 0, none⟩)] #[], .func (Fn.func 99) #[.pointer (some ⟨g, 0, none⟩)] #[], .func (Fn.func 100) #[.pointer (some ⟨g, 0, none⟩)] #[], .func (Fn.func 101) #[.pointer (some ⟨g, 0, none⟩)] #[], .func (Fn.func 102) #[.pointer (some ⟨g, 0, none⟩)] #[]] 103 (w.heap.size + 2) (by simp))
  clear hl hn hM hcall hm hk
  have cM := blk_cell (M1.out.blk_at 2 rfl)
  have cB := blk_cell (M1.out.blk_at 1 rfl)
  have cF := blk_cell (M1.out.blk_at 0 rfl)
  have cG := blk_cell (M1.out.blk_at 3 rfl)
  unfold Wa.wc at cG
  go_enter_defers Try.func86, Try.ntmps86
  go_wp2_with fail
  go_upto_region 3 with (fail)
  clear cM cB cF cG
  obtain ⟨wc, hwc⟩ : ∃ wc : World, ((w.alloc (Obj.cells #[.int .i64 1, .int .i64 m.f1, .int .i64 m.f2, .int .i64 m.f3, .int .i64 m.f4, .int .i64 m.f5, .int .i64 m.f6, .slice A m.f7.length c] 29)).alloc (Obj.cells #[.bool false] 4)).alloc (Obj.cells #[.nilFunc, .func (Fn.func 96) #[.pointer (some ⟨g, 0, none⟩)] #[], .func (Fn.func 97) #[.pointer (some ⟨g, 0, none⟩)] #[], .func (Fn.func 96) #[.pointer (some ⟨g, 0, none⟩)] #[], .func (Fn.func 98) #[.pointer (some ⟨g, 0, none⟩)] #[], .func (Fn.func 99) #[.pointer (some ⟨g, 0, none⟩)] #[], .func (Fn.func 100) #[.pointer (some ⟨g, 0, none⟩)] #[], .func (Fn.func 101) #[.pointer (some ⟨g, 0, none⟩)] #[], .func (Fn.func 102) #[.pointer (some ⟨g, 0, none⟩)] #[]] 103) = wc := ⟨_, rfl⟩
  rw [hwc] at M1 ⊢
  clear hwc
  have cM := blk_cell (M1.out.blk_at 2 rfl)
  have cG0 := blk_cell (M1.out.blk_at 3 rfl)
  have HG0 := Aside0.mk cG0
  have HM0 := Aside0.mk cM
  have cG := cG0
  unfold Wa.wc at cG
  clear cG0
  have M1D := Aside0.mk M1.out.drew
  have HS0 := Aside0.mk (show (∀ j : Nat, wc.drew.cell? ⟨w.heap.size, j, none⟩ = wc.cell? ⟨w.heap.size, j, none⟩) ∧ (∀ j : Nat, wc.drew.cell? ⟨g, j, none⟩ = wc.cell? ⟨g, j, none⟩) from ⟨fun _ => rfl, fun _ => rfl⟩)
  have H9 := HS0
  go_region_held3 (fun w' => (∀ j : Nat, w'.cell? ⟨w.heap.size, j, none⟩ = wc.cell? ⟨w.heap.size, j, none⟩) ∧ (∀ j : Nat, w'.cell? ⟨g, j, none⟩ = wc.cell? ⟨g, j, none⟩)) (first | with_reducible exact HS0.out | with_reducible exact H9.out | fail) ((go_at_call 103; refine (HMC.out _ (Kd.C_below HL.out M1D.out.below)).mono ?_; rintro e w1 ⟨rfl, hM⟩; have M2 := Aside0.mk (M1D.out.trans hM); clear hM; have H9 := Aside0.mk (show (∀ j : Nat, w1.cell? ⟨w.heap.size, j, none⟩ = wc.cell? ⟨w.heap.size, j, none⟩) ∧ (∀ j : Nat, w1.cell? ⟨g, j, none⟩ = wc.cell? ⟨g, j, none⟩) from ⟨fun j => (blk_cell (M2.out.blk_at 2 rfl) j).trans (HM0.out j).symm, fun j => (blk_cell (M2.out.blk_at 3 rfl) j).trans (HG0.out j).symm⟩)))
  clear H9 HS0 HM0 HG0 M1D
  have HF0 := Aside0.mk (blk_cell (M2.out.blk_at 0 rfl))
  have HM0 := Aside0.mk (blk_cell (M2.out.blk_at 2 rfl))
  have cM := HM0.out
  have cF := HF0.out
  go_wp2_with fail
  go_upto_region 5 with (fail)
  have M2D := Aside0.mk M2.out.drew
  have HS0 := Aside0.mk (show (∀ j : Nat, w1.drew.cell? ⟨w.heap.size, j, none⟩ = w1.cell? ⟨w.heap.size, j, none⟩) ∧ (∀ j : Nat, w1.drew.cell? ⟨w.heap.size + 1 + 1, j, none⟩ = w1.cell? ⟨w.heap.size + 1 + 1, j, none⟩) from ⟨fun _ => rfl, fun _ => rfl⟩)
  have H9 := HS0
  go_region_held3 (fun w' => (∀ j : Nat, w'.cell? ⟨w.heap.size, j, none⟩ = w1.cell? ⟨w.heap.size, j, none⟩) ∧ (∀ j : Nat, w'.cell? ⟨w.heap.size + 1 + 1, j, none⟩ = w1.cell? ⟨w.heap.size + 1 + 1, j, none⟩)) (first | with_reducible exact HS0.out | with_reducible exact H9.out | fail) ((go_at_call 96; refine (CALL.out (_ :: _ :: _ :: F) _ (Mem.sel (ps := [_, _, _, _, _, _, _, _, _, _]) (F := F) [3, 4, 5, 6, 7, 8, 9, 0, 1, 2] 10 M2D.out rfl rfl)).mono ?_; rintro e w2 ⟨rfl, v5', v7', v8', v9', v10', vout', hM⟩; have M3 := Aside0.mk (Mem.sel (ps := [_, _, _, _, _, _, _, _, _, _]) (F := F) [7, 8, 9, 0, 1, 2, 3, 4, 5, 6] 10 hM rfl rfl); clear hM; have H9 := Aside0.mk (show (∀ j : Nat, w2.cell? ⟨w.heap.size, j, none⟩ = w1.cell? ⟨w.heap.size, j, none⟩) ∧ (∀ j : Nat, w2.cell? ⟨w.heap.size + 1 + 1, j, none⟩ = w1.cell? ⟨w.heap.size + 1 + 1, j, none⟩) from ⟨fun j => (blk_cell (M3.out.blk_at 2 rfl) j).trans (HM0.out j).symm, fun j => (blk_cell (M3.out.blk_at 0 rfl) j).trans (HF0.out j).symm⟩)))
  clear H9 HS0 HM0 HF0 M2D
  have cB := blk_cell (M3.out.blk_at 1 rfl)
  have fB := blk_frozen (M3.out.blk_at 1 rfl)
  have hB := blk_lt (M3.out.blk_at 1 rfl)
  clear cM cF cG M1 M2
  go_wp2_with fail
  refine leaves_cons (f := 95) (args := #[.pointer (some ⟨w.heap.size + 1, 0, none⟩)]) (by simp) (by simp [go_sem]) ?_
  refine (catch_idle ⟨w.heap.size + 1, 0, none⟩ _).mono ?_
  rintro e u' w4 ⟨rfl, rfl, hM⟩
  have M4 := (M3.out.set 1 rfl 0 (.bool true)).trans hM
  have cE : w4.cell? ⟨w.heap.size + 1, 0, none⟩ = some (.bool true) := blk_cell (M4.blk_at 1 rfl) 0
  clear hM
  simp [Leaves, settle, results, Try.results86, go_sem, cE]
  exact ⟨_, _, _, _, _, _, Mem.sel (ps := [_, _, _, _, _, _, _, _, _, _]) (F := F) [3, 4, 5, 6, 7, 8, 9] 10 M4 rfl rfl⟩
end Go.Proofs.Ytggbjokhniigkaa.Tt1
