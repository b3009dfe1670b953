/- Texts laid together: Tl, Tm. No condition. -/
import Derived.Test.YtggbjokhniigkaaGreatGc
import Derived.Test.YtggbjokhniigkaaGreatGh
import Derived.Deep.RegionHeld3
/- The worker's cells but the last. No condition. -/
namespace Go.Proofs.YtggbjokhniigkaaGreat.Tl
open Go.RowKit
theorem wc_low (i n vw nr hw : Int) (vl : Value) (cm : Int) (va vv vo vb : Value) (bv bd : Int) (vout vout' : Value) (j : Nat) (hj : j < 13) : (Wa.wc i n vw nr hw vl cm va vv vo vb bv bd vout)[j]? = (Wa.wc i n vw nr hw vl cm va vv vo vb bv bd vout')[j]? := by
  unfold Wa.wc
  match j, hj with
  | 0, _ => rfl
  | 1, _ => rfl
  | 2, _ => rfl
  | 3, _ => rfl
  | 4, _ => rfl
  | 5, _ => rfl
  | 6, _ => rfl
  | 7, _ => rfl
  | 8, _ => rfl
  | 9, _ => rfl
  | 10, _ => rfl
  | 11, _ => rfl
  | 12, _ => rfl
end Go.Proofs.YtggbjokhniigkaaGreat.Tl
/- Walks: worker.ask. -/
namespace Go.Proofs.YtggbjokhniigkaaGreat.Tm
open Go.Proofs.YtggbjokhniigkaaGreat.Ty Go.RowKit Go.Proofs.YtggbjokhniigkaaGreatW.PrintWords Go.Proofs.YtggbjokhniigkaaGreatW.PrintLast Go.Proofs.YtggbjokhniigkaaGreatW.PrintMore Go.Proofs.YtggbjokhniigkaaGreat.Mx Go.Proofs.YtggbjokhniigkaaGreat.Kx Go.Proofs.YtggbjokhniigkaaGreat.Wa Go.Proofs.YtggbjokhniigkaaGreat.Tk Go.Proofs.YtggbjokhniigkaaGreat.Tl
set_option linter.unusedVariables false
set_option linter.unusedSimpArgs false
set_option maxRecDepth 100000 in
set_option maxHeartbeats 4000000 in
theorem ask_n1 (w0 w : World) (F : List Res) (g : Nat) (r : Rep) (m : Msg) (v5 v7 v8 v9 v10 : Value) (A : Option Addr) (c : Nat) (hM : Mem w0 w (blk g 95 (Wa.wc r.f0 r.f1 r.f2 r.f3 r.f4 v5 r.f6 v7 v8 v9 v10 r.f11 r.f12 (.slice none 0 0)) :: row kM 27 (.slice none 0 0) [] :: row kE 68 v5 r.f5 :: row (Kd.int .i64) 3 v7 r.f7 :: row (Kd.int .i64) 3 v8 r.f8 :: row (Kd.int .i64) 3 v9 r.f9 :: row kE 68 v10 r.f10 :: F)) (h1 : ¬ m.f3 = r.f2) :
    Calls Tryz.prog 108 #[.pointer (some ⟨g, 0, none⟩), .agg #[.int .i64 m.f0, .int .i64 m.f1, .int .i64 m.f2, .int .i64 m.f3, .int .i64 m.f4, .int .i64 m.f5, .int .i64 m.f6, .slice A m.f7.length c]] w fun e w' => e = .returned (.tuple #[]) ∧ ∃ v5' v7' v8' v9' v10' vout' : Value, Mem w0 w' (blk g 95 (Wa.wc r.f0 r.f1 r.f2 r.f3 r.f4 v5' r.f6 v7' v8' v9' v10' r.f11 r.f12 vout') :: row kM 27 vout' [] :: row kE 68 v5' r.f5 :: row (Kd.int .i64) 3 v7' r.f7 :: row (Kd.int .i64) 3 v8' r.f8 :: row (Kd.int .i64) 3 v9' r.f9 :: row kE 68 v10' r.f10 :: F) := by
  obtain ⟨B5, d5, rfl, _, _⟩ := hM.row_at 2 rfl
  have e1 : (m.f3 == r.f2) = false := by simpa using h1
  clear h1
  have M1 := Aside0.mk (hM.alloc #[.int .i64 m.f0, .int .i64 m.f1, .int .i64 m.f2, .int .i64 m.f3, .int .i64 m.f4, .int .i64 m.f5, .int .i64 m.f6, .slice A m.f7.length c] 27)
  clear hM
  have cM := blk_cell (M1.out.blk_at 0 rfl)
  have cG := blk_cell (M1.out.blk_at 1 rfl)
  unfold Wa.wc at cG
  go_enter Tryz.func108, Tryz.ntmps108
  go_wp2_with fail
  go_quiet (fail)
  go_wp2
  first | go_end0 | go_ret
  exact ⟨rfl, _, _, _, _, _, _, Mem.sel (ps := [_, _, _, _, _, _, _, _]) (F := F) [1, 2, 3, 4, 5, 6, 7] 8 (M1.out.drewN _) rfl rfl⟩
set_option maxRecDepth 100000 in
set_option maxHeartbeats 4000000 in
theorem ask_n2 (w0 w : World) (F : List Res) (g : Nat) (r : Rep) (m : Msg) (v5 v7 v8 v9 v10 : Value) (A : Option Addr) (c : Nat) (hM : Mem w0 w (blk g 95 (Wa.wc r.f0 r.f1 r.f2 r.f3 r.f4 v5 r.f6 v7 v8 v9 v10 r.f11 r.f12 (.slice none 0 0)) :: row kM 27 (.slice none 0 0) [] :: row kE 68 v5 r.f5 :: row (Kd.int .i64) 3 v7 r.f7 :: row (Kd.int .i64) 3 v8 r.f8 :: row (Kd.int .i64) 3 v9 r.f9 :: row kE 68 v10 r.f10 :: F)) (h1 : m.f3 = r.f2) (h2 : ¬ r.f4 = 0) :
    Calls Tryz.prog 108 #[.pointer (some ⟨g, 0, none⟩), .agg #[.int .i64 m.f0, .int .i64 m.f1, .int .i64 m.f2, .int .i64 m.f3, .int .i64 m.f4, .int .i64 m.f5, .int .i64 m.f6, .slice A m.f7.length c]] w fun e w' => e = .returned (.tuple #[]) ∧ ∃ v5' v7' v8' v9' v10' vout' : Value, Mem w0 w' (blk g 95 (Wa.wc r.f0 r.f1 r.f2 r.f3 r.f4 v5' r.f6 v7' v8' v9' v10' r.f11 r.f12 vout') :: row kM 27 vout' [] :: row kE 68 v5' r.f5 :: row (Kd.int .i64) 3 v7' r.f7 :: row (Kd.int .i64) 3 v8' r.f8 :: row (Kd.int .i64) 3 v9' r.f9 :: row kE 68 v10' r.f10 :: F) := by
  obtain ⟨B5, d5, rfl, _, _⟩ := hM.row_at 2 rfl
  have e1 : (m.f3 == r.f2) = true := by simpa using h1
  clear h1
  have e2 : (r.f4 == 0) = false := by simpa using h2
  clear h2
  have M1 := Aside0.mk (hM.alloc #[.int .i64 m.f0, .int .i64 m.f1, .int .i64 m.f2, .int .i64 m.f3, .int .i64 m.f4, .int .i64 m.f5, .int .i64 m.f6, .slice A m.f7.length c] 27)
  clear hM
  have cM := blk_cell (M1.out.blk_at 0 rfl)
  have cG := blk_cell (M1.out.blk_at 1 rfl)
  unfold Wa.wc at cG
  go_enter Tryz.func108, Tryz.ntmps108
  go_wp2_with fail
  go_quiet (fail)
  go_wp2
  first | go_end0 | go_ret
  exact ⟨rfl, _, _, _, _, _, _, Mem.sel (ps := [_, _, _, _, _, _, _, _]) (F := F) [1, 2, 3, 4, 5, 6, 7] 8 (M1.out.drewN _) rfl rfl⟩
set_option maxRecDepth 100000 in
set_option maxHeartbeats 4000000 in
theorem ask_n3 (w0 w : World) (F : List Res) (g : Nat) (r : Rep) (m : Msg) (v5 v7 v8 v9 v10 : Value) (A : Option Addr) (c : Nat) (hM : Mem w0 w (blk g 95 (Wa.wc r.f0 r.f1 r.f2 r.f3 r.f4 v5 r.f6 v7 v8 v9 v10 r.f11 r.f12 (.slice none 0 0)) :: row kM 27 (.slice none 0 0) [] :: row kE 68 v5 r.f5 :: row (Kd.int .i64) 3 v7 r.f7 :: row (Kd.int .i64) 3 v8 r.f8 :: row (Kd.int .i64) 3 v9 r.f9 :: row kE 68 v10 r.f10 :: F)) (h1 : m.f3 = r.f2) (h2 : r.f4 = 0) (h3 : ¬ m.f4 ≤ (r.f5.length : Int)) :
    Calls Tryz.prog 108 #[.pointer (some ⟨g, 0, none⟩), .agg #[.int .i64 m.f0, .int .i64 m.f1, .int .i64 m.f2, .int .i64 m.f3, .int .i64 m.f4, .int .i64 m.f5, .int .i64 m.f6, .slice A m.f7.length c]] w fun e w' => e = .returned (.tuple #[]) ∧ ∃ v5' v7' v8' v9' v10' vout' : Value, Mem w0 w' (blk g 95 (Wa.wc r.f0 r.f1 r.f2 r.f3 r.f4 v5' r.f6 v7' v8' v9' v10' r.f11 r.f12 vout') :: row kM 27 vout' [] :: row kE 68 v5' r.f5 :: row (Kd.int .i64) 3 v7' r.f7 :: row (Kd.int .i64) 3 v8' r.f8 :: row (Kd.int .i64) 3 v9' r.f9 :: row kE 68 v10' r.f10 :: F) := by
  obtain ⟨B5, d5, rfl, _, _⟩ := hM.row_at 2 rfl
  have e1 : (m.f3 == r.f2) = true := by simpa using h1
  clear h1
  have e2 : (r.f4 == 0) = true := by simpa using h2
  clear h2
  have e3 : decide (m.f4 ≤ (r.f5.length : Int)) = false := by simpa using h3
  clear h3
  have M1 := Aside0.mk (hM.alloc #[.int .i64 m.f0, .int .i64 m.f1, .int .i64 m.f2, .int .i64 m.f3, .int .i64 m.f4, .int .i64 m.f5, .int .i64 m.f6, .slice A m.f7.length c] 27)
  clear hM
  have cM := blk_cell (M1.out.blk_at 0 rfl)
  have cG := blk_cell (M1.out.blk_at 1 rfl)
  unfold Wa.wc at cG
  go_enter Tryz.func108, Tryz.ntmps108
  go_wp2_with fail
  go_quiet (fail)
  go_wp2
  first | go_end0 | go_ret
  exact ⟨rfl, _, _, _, _, _, _, Mem.sel (ps := [_, _, _, _, _, _, _, _]) (F := F) [1, 2, 3, 4, 5, 6, 7] 8 (M1.out.drewN _) rfl rfl⟩
set_option maxRecDepth 100000 in
set_option maxHeartbeats 8000000 in
theorem ask_yes1 (w0 w : World) (F : List Res) (g : Nat) (r : Rep) (m : Msg) (B5 : Option Addr) (d5 : Nat) (v7 v8 v9 v10 : Value) (A : Option Addr) (c : Nat) (hM : Mem w0 w (blk g 95 (Wa.wc r.f0 r.f1 r.f2 r.f3 r.f4 (.slice B5 r.f5.length d5) r.f6 v7 v8 v9 v10 r.f11 r.f12 (.slice none 0 0)) :: row kM 27 (.slice none 0 0) [] :: row kE 68 (.slice B5 r.f5.length d5) r.f5 :: row (Kd.int .i64) 3 v7 r.f7 :: row (Kd.int .i64) 3 v8 r.f8 :: row (Kd.int .i64) 3 v9 r.f9 :: row kE 68 v10 r.f10 :: F)) (hdk : ¬ d5 = m.f4.toNat) (h1 : m.f3 = r.f2) (h2 : r.f4 = 0) (h3 : m.f4 ≤ (r.f5.length : Int)) (h0 : 0 ≤ m.f4) (hn : r.f5.length ≤ 1000000) :
    Calls Tryz.prog 108 #[.pointer (some ⟨g, 0, none⟩), .agg #[.int .i64 m.f0, .int .i64 m.f1, .int .i64 m.f2, .int .i64 m.f3, .int .i64 m.f4, .int .i64 m.f5, .int .i64 m.f6, .slice A m.f7.length c]] w fun e w' => e = .returned (.tuple #[]) ∧ ∃ v5' v7' v8' v9' v10' vout' : Value, Mem w0 w' (blk g 95 (Wa.wc r.f0 r.f1 r.f2 r.f3 r.f4 v5' r.f6 v7' v8' v9' v10' r.f11 r.f12 vout') :: row kM 27 vout' [toOne r m.f1 ⟨8, 0, 0, 0, m.f4, r.f6, 0, r.f5.drop m.f4.toNat⟩] :: row kE 68 v5' r.f5 :: row (Kd.int .i64) 3 v7' r.f7 :: row (Kd.int .i64) 3 v8' r.f8 :: row (Kd.int .i64) 3 v9' r.f9 :: row kE 68 v10' r.f10 :: F) := by
  obtain ⟨B5_, d5_, hE, hd5, hC⟩ := hM.row_at 2 rfl
  cases hE
  obtain ⟨k, hk⟩ := Int.eq_ofNat_of_zero_le h0
  rw [hk] at h3 hdk
  rw [Int.toNat_natCast] at hdk
  have hk3 : k ≤ r.f5.length := by omega
  have hkd : k ≤ d5 := by omega
  have HDK := Aside0.mk hdk
  have e3 : decide ((k : Int) ≤ (r.f5.length : Int)) = true := by simpa using h3
  have HK := Aside0.mk hk
  have e1 : (m.f3 == r.f2) = true := by simpa using h1
  clear h1
  have e2 : (r.f4 == 0) = true := by simpa using h2
  clear h2
  rw [hk]
  rw [show ((k : Int)).toNat = k from Int.toNat_natCast k]
  have hdl : (r.f5.drop k).length = r.f5.length - k := List.length_drop ..
  have HDL := Aside0.mk hdl
  have HD := Aside0.mk hd5
  have HN := Aside0.mk hn
  have HK3 := Aside0.mk hk3
  clear hdl hC hk h0 h3 hn
  have M1 := Aside0.mk (hM.alloc #[.int .i64 m.f0, .int .i64 m.f1, .int .i64 m.f2, .int .i64 m.f3, .int .i64 (k : Int), .int .i64 m.f5, .int .i64 m.f6, .slice A m.f7.length c] 27)
  clear hM
  have cM := blk_cell (M1.out.blk_at 0 rfl)
  have cG := blk_cell (M1.out.blk_at 1 rfl)
  unfold Wa.wc at cG
  go_enter Tryz.func108, Tryz.ntmps108
  go_wp2_with fail
  go_quiet (fail)
  go_wp2_with fail
  have M2 := Aside0.mk (M1.out.drewN nq)
  obtain ⟨wc, hwc⟩ : ∃ wc : World, (w.alloc (Obj.cells #[.int .i64 m.f0, .int .i64 m.f1, .int .i64 m.f2, .int .i64 m.f3, .int .i64 (k : Int), .int .i64 m.f5, .int .i64 m.f6, .slice A m.f7.length c] 27)).drewN nq = wc := ⟨_, rfl⟩
  rw [hwc] at M2 ⊢
  clear hwc M1 cM cG
  have HM0 := Aside0.mk (blk_cell (M2.out.blk_at 0 rfl))
  have HG0 := Aside0.mk (blk_cell (M2.out.blk_at 1 rfl))
  have cM := HM0.out
  have cG := HG0.out
  unfold Wa.wc at cG
  have M2D := Aside0.mk M2.out.drew
  have CALL : Aside0 (∀ wd : World, Mem w0 wd (row kE 68 (.slice B5 r.f5.length d5) r.f5 :: blk g 95 (Wa.wc r.f0 r.f1 r.f2 r.f3 r.f4 (.slice B5 r.f5.length d5) r.f6 v7 v8 v9 v10 r.f11 r.f12 (.slice none 0 0)) :: row kM 27 (.slice none 0 0) [] :: blk w.heap.size 27 #[.int .i64 m.f0, .int .i64 m.f1, .int .i64 m.f2, .int .i64 m.f3, .int .i64 (k : Int), .int .i64 m.f5, .int .i64 m.f6, .slice A m.f7.length c] :: row (Kd.int .i64) 3 v7 r.f7 :: row (Kd.int .i64) 3 v8 r.f8 :: row (Kd.int .i64) 3 v9 r.f9 :: row kE 68 v10 r.f10 :: F) →
      Calls Tryz.prog 126 #[.pointer (some ⟨g, 0, none⟩), .int .i64 m.f1, .agg #[.int .i64 8, .int .i64 0, .int .i64 0, .int .i64 0, .int .i64 (k : Int), .int .i64 r.f6, .int .i64 0, .slice (B5.map (fun x => x.add (k * 2))) (r.f5.length - k) (d5 - k)]] wd fun e w' =>
        ∃ vout' : Value, e = .returned (.tuple #[]) ∧ Mem w0 w' (row kE 68 (.slice B5 r.f5.length d5) r.f5 :: blk g 95 (Wa.wc r.f0 r.f1 r.f2 r.f3 r.f4 (.slice B5 r.f5.length d5) r.f6 v7 v8 v9 v10 r.f11 r.f12 vout') :: row kM 27 vout' [toOne r m.f1 ⟨8, 0, 0, 0, (k : Int), r.f6, 0, r.f5.drop k⟩] :: blk w.heap.size 27 #[.int .i64 m.f0, .int .i64 m.f1, .int .i64 m.f2, .int .i64 m.f3, .int .i64 (k : Int), .int .i64 m.f5, .int .i64 m.f6, .slice A m.f7.length c] :: row (Kd.int .i64) 3 v7 r.f7 :: row (Kd.int .i64) 3 v8 r.f8 :: row (Kd.int .i64) 3 v9 r.f9 :: row kE 68 v10 r.f10 :: F)) := ⟨fun wd hMd => by
    have h := send_calls w0 wd _ _ g r.f0 r.f1 r.f2 r.f3 r.f4 _ r.f6 _ _ _ _ r.f11 r.f12 _ [] m.f1 8 0 0 0 (k : Int) r.f6 0 (B5.map (fun x => x.add (k * 2))) (d5 - k) (r.f5.drop k) hMd (fun w' rs i hM hi => by have hq := Kd.C_drop (c := d5) (hM.row_C i hi) HK3.out HD.out; rwa [if_neg HDK.out] at hq) (by rw [HDL.out]; have := HN.out; omega) (by rw [HDL.out]; have := HD.out; omega) (by simp)
    rw [HDL.out] at h
    exact h⟩
  have HS0 := Aside0.mk (show (∀ j : Nat, wc.drew.cell? ⟨w.heap.size, j, none⟩ = wc.cell? ⟨w.heap.size, j, none⟩) ∧ (∀ j : Nat, j < 13 → wc.drew.cell? ⟨g, j, none⟩ = wc.cell? ⟨g, j, none⟩) from ⟨fun _ => rfl, fun _ _ => rfl⟩)
  have H9 := HS0
  go_region_held3 (fun w' => (∀ j : Nat, w'.cell? ⟨w.heap.size, j, none⟩ = wc.cell? ⟨w.heap.size, j, none⟩) ∧ (∀ j : Nat, j < 13 → w'.cell? ⟨g, j, none⟩ = wc.cell? ⟨g, j, none⟩)) (first | with_reducible exact HS0.out | with_reducible exact H9.out | fail) ((go_at_call 126; refine (CALL.out _ (Mem.sel (ps := [_, _, _, _, _, _, _, _]) (F := F) [3, 1, 2, 0, 4, 5, 6, 7] 8 M2D.out rfl rfl)).mono ?_; rintro e w1 ⟨vo, rfl, hM⟩; have M3 := Aside0.mk (Mem.sel (ps := [_, _, _, _, _, _, _, _]) (F := F) [3, 1, 2, 0, 4, 5, 6, 7] 8 hM rfl rfl); clear hM; have H9 := Aside0.mk (show (∀ j : Nat, w1.cell? ⟨w.heap.size, j, none⟩ = wc.cell? ⟨w.heap.size, j, none⟩) ∧ (∀ j : Nat, j < 13 → w1.cell? ⟨g, j, none⟩ = wc.cell? ⟨g, j, none⟩) from ⟨fun j => (blk_cell (M3.out.blk_at 0 rfl) j).trans (HM0.out j).symm, fun j hj => (blk_cell (M3.out.blk_at 1 rfl) j).trans (Eq.trans (wc_low _ _ _ _ _ _ _ _ _ _ _ _ _ _ _ j hj) (HG0.out j).symm)⟩)))
  go_wp2
  first | go_end0 | go_ret
  exact ⟨rfl, _, _, _, _, _, _, Mem.sel (ps := [_, _, _, _, _, _, _, _]) (F := F) [1, 2, 3, 4, 5, 6, 7] 8 M3.out rfl rfl⟩
set_option maxRecDepth 100000 in
set_option maxHeartbeats 8000000 in
theorem ask_yes0 (w0 w : World) (F : List Res) (g : Nat) (r : Rep) (m : Msg) (B5 : Option Addr) (d5 : Nat) (v7 v8 v9 v10 : Value) (A : Option Addr) (c : Nat) (hM : Mem w0 w (blk g 95 (Wa.wc r.f0 r.f1 r.f2 r.f3 r.f4 (.slice B5 r.f5.length d5) r.f6 v7 v8 v9 v10 r.f11 r.f12 (.slice none 0 0)) :: row kM 27 (.slice none 0 0) [] :: row kE 68 (.slice B5 r.f5.length d5) r.f5 :: row (Kd.int .i64) 3 v7 r.f7 :: row (Kd.int .i64) 3 v8 r.f8 :: row (Kd.int .i64) 3 v9 r.f9 :: row kE 68 v10 r.f10 :: F)) (hdk : d5 = m.f4.toNat) (h1 : m.f3 = r.f2) (h2 : r.f4 = 0) (h3 : m.f4 ≤ (r.f5.length : Int)) (h0 : 0 ≤ m.f4) (hn : r.f5.length ≤ 1000000) :
    Calls Tryz.prog 108 #[.pointer (some ⟨g, 0, none⟩), .agg #[.int .i64 m.f0, .int .i64 m.f1, .int .i64 m.f2, .int .i64 m.f3, .int .i64 m.f4, .int .i64 m.f5, .int .i64 m.f6, .slice A m.f7.length c]] w fun e w' => e = .returned (.tuple #[]) ∧ ∃ v5' v7' v8' v9' v10' vout' : Value, Mem w0 w' (blk g 95 (Wa.wc r.f0 r.f1 r.f2 r.f3 r.f4 v5' r.f6 v7' v8' v9' v10' r.f11 r.f12 vout') :: row kM 27 vout' [toOne r m.f1 ⟨8, 0, 0, 0, m.f4, r.f6, 0, r.f5.drop m.f4.toNat⟩] :: row kE 68 v5' r.f5 :: row (Kd.int .i64) 3 v7' r.f7 :: row (Kd.int .i64) 3 v8' r.f8 :: row (Kd.int .i64) 3 v9' r.f9 :: row kE 68 v10' r.f10 :: F) := by
  obtain ⟨B5_, d5_, hE, hd5, hC⟩ := hM.row_at 2 rfl
  cases hE
  obtain ⟨k, hk⟩ := Int.eq_ofNat_of_zero_le h0
  rw [hk] at h3 hdk
  rw [Int.toNat_natCast] at hdk
  have hk3 : k ≤ r.f5.length := by omega
  have hkd : k ≤ d5 := by omega
  have HDK := Aside0.mk hdk
  have hdt : (d5 = k) = True := eq_true hdk
  clear hdk
  have e3 : decide ((k : Int) ≤ (r.f5.length : Int)) = true := by simpa using h3
  have HK := Aside0.mk hk
  have e1 : (m.f3 == r.f2) = true := by simpa using h1
  clear h1
  have e2 : (r.f4 == 0) = true := by simpa using h2
  clear h2
  rw [hk]
  rw [show ((k : Int)).toNat = k from Int.toNat_natCast k]
  have hdl : (r.f5.drop k).length = r.f5.length - k := List.length_drop ..
  have HDL := Aside0.mk hdl
  have HD := Aside0.mk hd5
  have HN := Aside0.mk hn
  have HK3 := Aside0.mk hk3
  clear hdl hC hk h0 h3 hn
  have M1 := Aside0.mk (hM.alloc #[.int .i64 m.f0, .int .i64 m.f1, .int .i64 m.f2, .int .i64 m.f3, .int .i64 (k : Int), .int .i64 m.f5, .int .i64 m.f6, .slice A m.f7.length c] 27)
  clear hM
  have cM := blk_cell (M1.out.blk_at 0 rfl)
  have cG := blk_cell (M1.out.blk_at 1 rfl)
  unfold Wa.wc at cG
  go_enter Tryz.func108, Tryz.ntmps108
  go_wp2_with fail
  go_quiet (fail)
  go_wp2_with fail
  have M2 := Aside0.mk (M1.out.drewN nq)
  obtain ⟨wc, hwc⟩ : ∃ wc : World, (w.alloc (Obj.cells #[.int .i64 m.f0, .int .i64 m.f1, .int .i64 m.f2, .int .i64 m.f3, .int .i64 (k : Int), .int .i64 m.f5, .int .i64 m.f6, .slice A m.f7.length c] 27)).drewN nq = wc := ⟨_, rfl⟩
  rw [hwc] at M2 ⊢
  clear hwc M1 cM cG
  have HM0 := Aside0.mk (blk_cell (M2.out.blk_at 0 rfl))
  have HG0 := Aside0.mk (blk_cell (M2.out.blk_at 1 rfl))
  have cM := HM0.out
  have cG := HG0.out
  unfold Wa.wc at cG
  have M2D := Aside0.mk M2.out.drew
  have CALL : Aside0 (∀ wd : World, Mem w0 wd (row kE 68 (.slice B5 r.f5.length d5) r.f5 :: blk g 95 (Wa.wc r.f0 r.f1 r.f2 r.f3 r.f4 (.slice B5 r.f5.length d5) r.f6 v7 v8 v9 v10 r.f11 r.f12 (.slice none 0 0)) :: row kM 27 (.slice none 0 0) [] :: blk w.heap.size 27 #[.int .i64 m.f0, .int .i64 m.f1, .int .i64 m.f2, .int .i64 m.f3, .int .i64 (k : Int), .int .i64 m.f5, .int .i64 m.f6, .slice A m.f7.length c] :: row (Kd.int .i64) 3 v7 r.f7 :: row (Kd.int .i64) 3 v8 r.f8 :: row (Kd.int .i64) 3 v9 r.f9 :: row kE 68 v10 r.f10 :: F) →
      Calls Tryz.prog 126 #[.pointer (some ⟨g, 0, none⟩), .int .i64 m.f1, .agg #[.int .i64 8, .int .i64 0, .int .i64 0, .int .i64 0, .int .i64 (k : Int), .int .i64 r.f6, .int .i64 0, .slice B5 (r.f5.length - k) (d5 - k)]] wd fun e w' =>
        ∃ vout' : Value, e = .returned (.tuple #[]) ∧ Mem w0 w' (row kE 68 (.slice B5 r.f5.length d5) r.f5 :: blk g 95 (Wa.wc r.f0 r.f1 r.f2 r.f3 r.f4 (.slice B5 r.f5.length d5) r.f6 v7 v8 v9 v10 r.f11 r.f12 vout') :: row kM 27 vout' [toOne r m.f1 ⟨8, 0, 0, 0, (k : Int), r.f6, 0, r.f5.drop k⟩] :: blk w.heap.size 27 #[.int .i64 m.f0, .int .i64 m.f1, .int .i64 m.f2, .int .i64 m.f3, .int .i64 (k : Int), .int .i64 m.f5, .int .i64 m.f6, .slice A m.f7.length c] :: row (Kd.int .i64) 3 v7 r.f7 :: row (Kd.int .i64) 3 v8 r.f8 :: row (Kd.int .i64) 3 v9 r.f9 :: row kE 68 v10 r.f10 :: F)) := ⟨fun wd hMd => by
    have h := send_calls w0 wd _ _ g r.f0 r.f1 r.f2 r.f3 r.f4 _ r.f6 _ _ _ _ r.f11 r.f12 _ [] m.f1 8 0 0 0 (k : Int) r.f6 0 B5 (d5 - k) (r.f5.drop k) hMd (fun w' rs i hM hi => by have hq := Kd.C_drop (c := d5) (hM.row_C i hi) HK3.out HD.out; rwa [if_pos HDK.out] at hq) (by rw [HDL.out]; have := HN.out; omega) (by rw [HDL.out]; have := HD.out; omega) (by simp)
    rw [HDL.out] at h
    exact h⟩
  have HS0 := Aside0.mk (show (∀ j : Nat, wc.drew.cell? ⟨w.heap.size, j, none⟩ = wc.cell? ⟨w.heap.size, j, none⟩) ∧ (∀ j : Nat, j < 13 → wc.drew.cell? ⟨g, j, none⟩ = wc.cell? ⟨g, j, none⟩) from ⟨fun _ => rfl, fun _ _ => rfl⟩)
  have H9 := HS0
  go_region_held3 (fun w' => (∀ j : Nat, w'.cell? ⟨w.heap.size, j, none⟩ = wc.cell? ⟨w.heap.size, j, none⟩) ∧ (∀ j : Nat, j < 13 → w'.cell? ⟨g, j, none⟩ = wc.cell? ⟨g, j, none⟩)) (first | with_reducible exact HS0.out | with_reducible exact H9.out | fail) ((go_at_call 126; refine (CALL.out _ (Mem.sel (ps := [_, _, _, _, _, _, _, _]) (F := F) [3, 1, 2, 0, 4, 5, 6, 7] 8 M2D.out rfl rfl)).mono ?_; rintro e w1 ⟨vo, rfl, hM⟩; have M3 := Aside0.mk (Mem.sel (ps := [_, _, _, _, _, _, _, _]) (F := F) [3, 1, 2, 0, 4, 5, 6, 7] 8 hM rfl rfl); clear hM; have H9 := Aside0.mk (show (∀ j : Nat, w1.cell? ⟨w.heap.size, j, none⟩ = wc.cell? ⟨w.heap.size, j, none⟩) ∧ (∀ j : Nat, j < 13 → w1.cell? ⟨g, j, none⟩ = wc.cell? ⟨g, j, none⟩) from ⟨fun j => (blk_cell (M3.out.blk_at 0 rfl) j).trans (HM0.out j).symm, fun j hj => (blk_cell (M3.out.blk_at 1 rfl) j).trans (Eq.trans (wc_low _ _ _ _ _ _ _ _ _ _ _ _ _ _ _ j hj) (HG0.out j).symm)⟩)))
  go_wp2
  first | go_end0 | go_ret
  exact ⟨rfl, _, _, _, _, _, _, Mem.sel (ps := [_, _, _, _, _, _, _, _]) (F := F) [1, 2, 3, 4, 5, 6, 7] 8 M3.out rfl rfl⟩
end Go.Proofs.YtggbjokhniigkaaGreat.Tm
