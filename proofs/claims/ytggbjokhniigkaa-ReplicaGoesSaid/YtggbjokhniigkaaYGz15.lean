/- Texts laid together: Ti. No condition. -/
import Derived.Test.YtggbjokhniigkaaYGz13
set_option linter.unusedVariables false
set_option linter.unusedSimpArgs false
set_option maxRecDepth 100000
set_option maxHeartbeats 8000000
namespace Go.Proofs.Ytggbjokhniigkaa.Ti
open Lx Ty Go.RowKit YtggbjokhniigkaaW.PrintWords YtggbjokhniigkaaW.PrintLast YtggbjokhniigkaaW.PrintMore Mx Kx Wa Tk We Sa Tl Wj Wd Co
theorem wr3 {k n : Nat} (h0 : k ≤ 1200) (hn : n ≤ 1200) : IntKind.i64.wrap ((k : Int) + (n : Int)) = (k : Int) + (n : Int) ∧ wrap64 ((k : Int) + (n : Int)) = (k : Int) + (n : Int) := ⟨by rw [IntKind.wrap_i64]; omega, by unfold wrap64; omega⟩
theorem eq_b {a b : Int} (h : a = b) : (a == b) = true ∧ (a != b) = false := by simp [h]
theorem ne_b {a b : Int} (h : ¬ a = b) : (a == b) = false ∧ (a != b) = true := by simp [h]
theorem blk_ne {w0 w : World} {rs : List Res} (h : Mem w0 w rs) (i j : Nat) {g T g' T' : Nat} {cs cs' : Array Value} (hi : rs[i]? = some (blk g T cs)) (hj : rs[j]? = some (blk g' T' cs')) (hij : i ≠ j) : ¬ g = g' := by
  obtain ⟨f, q, h1, h2, _, _, h5, _⟩ := h.take2 hi hj hij
  intro e
  subst e
  exact h5 _ h1.2 h2.2
theorem sub_ {n k q : Nat} (h : n = k + q) (hn : n ≤ 1200) : wrap64 ((n : Int) - (k : Int)) = (q : Int) ∧ IntKind.i64.wrap ((n : Int) - (k : Int)) = (q : Int) := ⟨by unfold wrap64; omega, by rw [IntKind.wrap_i64]; omega⟩
theorem log_a3 (w0 w : World) (F : List Res) (g : Nat) (r : Rep) (m : Msg) (v5 v7 v8 v9 v10 : Value) (A : Option Addr) (c : Nat) (hM : Mem w0 w (wS g r v5 r.f5 r.f6 v7 v8 v9 v10 (.slice none 0 0) [] F)) (k : Nat) (H0 : LogIn w0 r m A c k) (h1 : m.f3 = r.f2) (h3 : r.f4 = 2) (h5 : (k : Int) ≤ r.f6) (h6 : r.f6 ≤ (k : Int) + (m.f7.length : Int)) (hb : log (r.f5.take k ++ m.f7) = false) :
    LogDoes w0 w F g m A c r [] := by
  unfold LogDoes
  obtain ⟨hl, hlc, hn, hk, hkn, hlm, hcl, hw0, hw1, hi0, hi1, hn5⟩ := H0
  clear hcl
  have HB := Aside0.mk hb
  clear hb
  obtain ⟨e1, e1'⟩ := eq_b h1
  have e2 : decide ((r.f5.length : Int) < (k : Int)) = false := decide_eq_false (by omega)
  have e2n : decide (r.f5.length < k) = false := decide_eq_false (by omega)
  obtain ⟨e3, e3'⟩ := eq_b h3
  obtain ⟨e4, e4'⟩ := ne_b (show ¬ r.f4 = 0 by rw [h3]; decide)
  have e5 : decide ((k : Int) ≤ r.f6) = true := decide_eq_true h5
  have e6 : decide (r.f6 ≤ (k : Int) + (m.f7.length : Int)) = true := decide_eq_true h6
  clear h1 h3 h5 h6
  have HL := Aside0.mk hl
  have HN := Aside0.mk (show r.f5.length ≤ 1200 ∧ m.f7.length ≤ 1200 ∧ k ≤ r.f5.length ∧ m.f7.length ≤ c from ⟨hn, hlm, hkn, hlc⟩)
  have HV := Aside0.mk (show 0 ≤ r.f2 ∧ r.f2 ≤ 4611686018427387904 from ⟨hw0, hw1⟩)
  have HI := Aside0.mk (show 0 ≤ r.f0 ∧ r.f0 < r.f1 ∧ r.f1 ≤ 5 from ⟨hi0, hi1, hn5⟩)
  have HTK := Aside0.mk (show (r.f5.take k).length = k by rw [List.length_take]; exact Nat.min_eq_left hkn)
  obtain ⟨ew, ew'⟩ := wr3 (k := k) (n := m.f7.length) (by omega) hlm
  obtain ⟨B5, d5, rfl, hd5, _⟩ := hM.row_at 2 rfl
  have HD5 := Aside0.mk hd5
  have q1 : (k : Int) ≤ (d5 : Int) := by clear e1 e1' e2 e2n; omega
  have q2 : k ≤ d5 := by clear e1 e1' e2 e2n; omega
  rw [hk]
  have M1 := Aside0.mk (hM.alloc #[.int .i64 m.f0, .int .i64 m.f1, .int .i64 m.f2, .int .i64 m.f3, .int .i64 (k : Int), .int .i64 m.f5, .int .i64 m.f6, .slice A m.f7.length c] 29)
  clear hM hl hlc hn hk hkn hlm hw0 hw1 hi0 hi1 hn5 hd5
  have cM := blk_cell (M1.out.blk_at 0 rfl)
  have cG := blk_cell (M1.out.blk_at 1 rfl)
  unfold Wa.wc at cG
  go_enter Try.func102, Try.ntmps102
  go_wp2_with fail
  go_upto_region 2 with (fail)
  go_cut [26] (fun s26 wx => s26 = .bool false ∧ Aside0 (Mem w0 wx (mS w (k : Int) m A c <| wS g r (.slice B5 r.f5.length d5) r.f5 r.f6 v7 v8 v9 v10 (.slice none 0 0) [] F)))
  case first =>
    go_quiet (fail)
    go_wp2_with fail
    go_meet
    case rel => exact ⟨rfl, ⟨M1.out.drewN _⟩⟩
  case rest =>
  obtain ⟨rfl, M2⟩ := hcut
  clear M1 cM cG
  have HM0 := Aside0.mk (blk_cell (M2.out.blk_at 0 rfl))
  have HG0 := Aside0.mk (blk_cell (M2.out.blk_at 1 rfl))
  have cM := HM0.out
  have cG := HG0.out
  unfold Wa.wc at cG
  go_wp2_with fail
  have RISE : Aside0 (∀ wd : World, Mem w0 wd (mS w (k : Int) m A c <| wS g r (.slice B5 r.f5.length d5) r.f5 r.f6 v7 v8 v9 v10 (.slice none 0 0) [] F) → Calls Try.prog 105 #[.slice B5 k d5, .slice A m.f7.length c] wd fun e w' => e = .returned (.bool false) ∧ Mem w0 w' (mS w (k : Int) m A c <| wS g r (.slice B5 r.f5.length d5) r.f5 r.f6 v7 v8 v9 v10 (.slice none 0 0) [] F)) := ⟨fun wd hMd => by
    have q := rises_calls B5 A d5 c (r.f5.take k) m.f7 wd (Kd.C_take (hMd.row_C 3 rfl) HN.out.2.2.1) (Kd.C_below HL.out hMd.below) (by rw [HTK.out]; have := HN.out; omega) (by have := HN.out; omega) false HB.out
    rw [HTK.out] at q
    exact q.mono fun e w' q => ⟨q.1, hMd.trans q.2⟩⟩
  go_upto_region 4 with (fail)
  have M2D := Aside0.mk M2.out.drew
  have HS0 := Aside0.mk (show (∀ j : Nat, wc.drew.cell? ⟨w.heap.size, j, none⟩ = wc.cell? ⟨w.heap.size, j, none⟩) ∧ (∀ j : Nat, wc.drew.cell? ⟨g, j, none⟩ = wc.cell? ⟨g, j, none⟩) from ⟨fun _ => rfl, fun _ => rfl⟩)
  have H9 := HS0
  go_region_held3 (fun w' => (∀ j : Nat, w'.cell? ⟨w.heap.size, j, none⟩ = wc.cell? ⟨w.heap.size, j, none⟩) ∧ (∀ j : Nat, w'.cell? ⟨g, j, none⟩ = wc.cell? ⟨g, j, none⟩)) (first | with_reducible exact HS0.out | with_reducible exact H9.out | fail) ((go_at_call 105; refine (RISE.out _ M2D.out).mono ?_; rintro e w1 ⟨rfl, hM⟩; have M3 := Aside0.mk hM; clear hM; have H9 := Aside0.mk (show (∀ j : Nat, w1.cell? ⟨w.heap.size, j, none⟩ = wc.cell? ⟨w.heap.size, j, none⟩) ∧ (∀ j : Nat, w1.cell? ⟨g, j, none⟩ = wc.cell? ⟨g, j, none⟩) from ⟨fun j => (blk_cell (M3.out.blk_at 0 rfl) j).trans (HM0.out j).symm, fun j => (blk_cell (M3.out.blk_at 1 rfl) j).trans (HG0.out j).symm⟩)))
  clear H9 HS0 M2D RISE M2
  clear ew ew' e5 e6 q1 q2
  go_wp2_with fail
  go_quiet (fail)
  go_wp2
  first | go_end0 | (refine bodyPost_ret (results_none rfl _ _ _) rfl ?_)
  exact ⟨rfl, _, _, _, _, _, _, Mem.sel (ps := [_, _, _, _, _, _, _, _]) (F := F) [1, 2, 3, 4, 5, 6, 7] 8 (M3.out.drewN _) rfl rfl⟩
theorem log_a4 (w0 w : World) (F : List Res) (g : Nat) (r : Rep) (m : Msg) (v5 v7 v8 v9 v10 : Value) (A : Option Addr) (c : Nat) (hM : Mem w0 w (wS g r v5 r.f5 r.f6 v7 v8 v9 v10 (.slice none 0 0) [] F)) (k : Nat) (H0 : LogIn w0 r m A c k) (h1 : m.f3 = r.f2) (h3 : r.f4 = 2) (h5 : (k : Int) ≤ r.f6) (h6 : r.f6 ≤ (k : Int) + (m.f7.length : Int)) (hb : log (r.f5.take k ++ m.f7) = true) (s : Rep) (hs : normal r r.f2 (r.f5.take k ++ m.f7) m.f5 = s) :
    LogDoes w0 w F g m A c s [toOne s m.f1 ⟨2, 0, 0, 0, (s.f5.length : Int), 0, 0, []⟩] := by
  unfold LogDoes
  obtain ⟨hl, hlc, hn, hk, hkn, hlm, hcl, hw0, hw1, hi0, hi1, hn5⟩ := H0
  clear hcl
  have HB := Aside0.mk hb
  have HSS := Aside0.mk hs
  obtain ⟨l3, hl3⟩ : ∃ l3, r.f5.take k ++ m.f7 = l3 := ⟨_, rfl⟩
  have HL3 := Aside0.mk hl3
  have HN3 := Aside0.mk (show l3.length ≤ 1000000000 by rw [← hl3, List.length_append, List.length_take]; omega)
  obtain ⟨cx, hcx⟩ : ∃ cx : Int, (if r.f1 = 1 then (l3.length : Int) else min (max r.f6 m.f5) (l3.length : Int)) = cx := ⟨_, rfl⟩
  have HCX := Aside0.mk hcx
  clear hb hs hl3 hcx
  obtain ⟨e1, e1'⟩ := eq_b h1
  have e2 : decide ((r.f5.length : Int) < (k : Int)) = false := decide_eq_false (by omega)
  have e2n : decide (r.f5.length < k) = false := decide_eq_false (by omega)
  obtain ⟨e3, e3'⟩ := eq_b h3
  obtain ⟨e4, e4'⟩ := ne_b (show ¬ r.f4 = 0 by rw [h3]; decide)
  have e5 : decide ((k : Int) ≤ r.f6) = true := decide_eq_true h5
  have e6 : decide (r.f6 ≤ (k : Int) + (m.f7.length : Int)) = true := decide_eq_true h6
  clear h1 h3 h5 h6
  have HL := Aside0.mk hl
  have HN := Aside0.mk (show r.f5.length ≤ 1200 ∧ m.f7.length ≤ 1200 ∧ k ≤ r.f5.length ∧ m.f7.length ≤ c from ⟨hn, hlm, hkn, hlc⟩)
  have HV := Aside0.mk (show 0 ≤ r.f2 ∧ r.f2 ≤ 4611686018427387904 from ⟨hw0, hw1⟩)
  have HI := Aside0.mk (show 0 ≤ r.f0 ∧ r.f0 < r.f1 ∧ r.f1 ≤ 5 from ⟨hi0, hi1, hn5⟩)
  have HTK := Aside0.mk (show (r.f5.take k).length = k by rw [List.length_take]; exact Nat.min_eq_left hkn)
  obtain ⟨ew, ew'⟩ := wr3 (k := k) (n := m.f7.length) (by omega) hlm
  obtain ⟨B5, d5, rfl, hd5, _⟩ := hM.row_at 2 rfl
  have HD5 := Aside0.mk hd5
  have q1 : (k : Int) ≤ (d5 : Int) := by clear e1 e1' e2 e2n; omega
  have q2 : k ≤ d5 := by clear e1 e1' e2 e2n; omega
  rw [hk]
  have M1 := Aside0.mk (hM.alloc #[.int .i64 m.f0, .int .i64 m.f1, .int .i64 m.f2, .int .i64 m.f3, .int .i64 (k : Int), .int .i64 m.f5, .int .i64 m.f6, .slice A m.f7.length c] 29)
  clear hM hl hlc hn hk hkn hlm hw0 hw1 hi0 hi1 hn5 hd5
  have cM := blk_cell (M1.out.blk_at 0 rfl)
  have cG := blk_cell (M1.out.blk_at 1 rfl)
  unfold Wa.wc at cG
  go_enter Try.func102, Try.ntmps102
  go_wp2_with fail
  go_upto_region 2 with (fail)
  go_cut [26] (fun s26 wx => s26 = .bool false ∧ Aside0 (Mem w0 wx (mS w (k : Int) m A c <| wS g r (.slice B5 r.f5.length d5) r.f5 r.f6 v7 v8 v9 v10 (.slice none 0 0) [] F)))
  case first =>
    go_quiet (fail)
    go_wp2_with fail
    go_meet
    case rel => exact ⟨rfl, ⟨M1.out.drewN _⟩⟩
  case rest =>
  obtain ⟨rfl, M2⟩ := hcut
  clear M1 cM cG
  have HM0 := Aside0.mk (blk_cell (M2.out.blk_at 0 rfl))
  have HG0 := Aside0.mk (blk_cell (M2.out.blk_at 1 rfl))
  have cM := HM0.out
  have cG := HG0.out
  unfold Wa.wc at cG
  go_wp2_with fail
  have RISE : Aside0 (∀ wd : World, Mem w0 wd (mS w (k : Int) m A c <| wS g r (.slice B5 r.f5.length d5) r.f5 r.f6 v7 v8 v9 v10 (.slice none 0 0) [] F) → Calls Try.prog 105 #[.slice B5 k d5, .slice A m.f7.length c] wd fun e w' => e = .returned (.bool true) ∧ Mem w0 w' (mS w (k : Int) m A c <| wS g r (.slice B5 r.f5.length d5) r.f5 r.f6 v7 v8 v9 v10 (.slice none 0 0) [] F)) := ⟨fun wd hMd => by
    have q := rises_calls B5 A d5 c (r.f5.take k) m.f7 wd (Kd.C_take (hMd.row_C 3 rfl) HN.out.2.2.1) (Kd.C_below HL.out hMd.below) (by rw [HTK.out]; have := HN.out; omega) (by have := HN.out; omega) true HB.out
    rw [HTK.out] at q
    exact q.mono fun e w' q => ⟨q.1, hMd.trans q.2⟩⟩
  go_upto_region 4 with (fail)
  have M2D := Aside0.mk M2.out.drew
  have HS0 := Aside0.mk (show (∀ j : Nat, wc.drew.cell? ⟨w.heap.size, j, none⟩ = wc.cell? ⟨w.heap.size, j, none⟩) ∧ (∀ j : Nat, wc.drew.cell? ⟨g, j, none⟩ = wc.cell? ⟨g, j, none⟩) from ⟨fun _ => rfl, fun _ => rfl⟩)
  have H9 := HS0
  go_region_held3 (fun w' => (∀ j : Nat, w'.cell? ⟨w.heap.size, j, none⟩ = wc.cell? ⟨w.heap.size, j, none⟩) ∧ (∀ j : Nat, w'.cell? ⟨g, j, none⟩ = wc.cell? ⟨g, j, none⟩)) (first | with_reducible exact HS0.out | with_reducible exact H9.out | fail) ((go_at_call 105; refine (RISE.out _ M2D.out).mono ?_; rintro e w1 ⟨rfl, hM⟩; have M3 := Aside0.mk hM; clear hM; have H9 := Aside0.mk (show (∀ j : Nat, w1.cell? ⟨w.heap.size, j, none⟩ = wc.cell? ⟨w.heap.size, j, none⟩) ∧ (∀ j : Nat, w1.cell? ⟨g, j, none⟩ = wc.cell? ⟨g, j, none⟩) from ⟨fun j => (blk_cell (M3.out.blk_at 0 rfl) j).trans (HM0.out j).symm, fun j => (blk_cell (M3.out.blk_at 1 rfl) j).trans (HG0.out j).symm⟩)))
  clear H9 HS0 M2D RISE M2
  clear ew ew' e5 e6
  have CONC : Aside0 (∀ wd : World, Mem w0 wd (blk w1.heap.size 27 #[.slice B5 k d5, .slice A m.f7.length c] :: (mS w (k : Int) m A c (wS g r (.slice B5 r.f5.length d5) r.f5 r.f6 v7 v8 v9 v10 (.slice none 0 0) [] F))) → Calls Try.prog 111 #[.slice (some ⟨w1.heap.size, 0, none⟩) 2 2] wd fun e w' => ∃ v : Value, e = .returned v ∧ Mem w0 w' (row kE 102 v l3 :: blk w1.heap.size 27 #[.slice B5 k d5, .slice A m.f7.length c] :: (mS w (k : Int) m A c (wS g r (.slice B5 r.f5.length d5) r.f5 r.f6 v7 v8 v9 v10 (.slice none 0 0) [] F)))) := ⟨fun wd hMd => by
    have hb := hMd.blk_at 0 rfl
    have hc := Kd.C_take (hMd.row_C 4 rfl) HN.out.2.2.1
    rw [HTK.out] at hc
    have q := concat_calls w1.heap.size B5 A d5 c (r.f5.take k) m.f7 wd (by rw [HTK.out]; exact hb) (by rw [HTK.out]; exact hc) (Kd.C_below HL.out hMd.below) (by rw [HTK.out]; have := HN.out; omega) (by have := HN.out; omega)
    rw [HL3.out] at q
    exact q.mono fun e w' ⟨v, he, q⟩ => ⟨v, he, hMd.trans q⟩⟩
  go_upto_region 5 with (fail)
  refine start_ (n := 21) (S := fun w' => (∀ j : Nat, w'.cell? ⟨w.heap.size, j, none⟩ = wc.cell? ⟨w.heap.size, j, none⟩) ∧ (∀ j : Nat, w'.cell? ⟨g, j, none⟩ = wc.cell? ⟨g, j, none⟩)) (ds := [20]) #[false, false, false, false, false, false, false, false, false, false, false, false, false, false, false, false, false, false, false, false, false] (by kernel_rfl) rfl rfl ⟨(fun j => (blk_cell (M3.out.blk_at 0 rfl) j).trans (HM0.out j).symm), (fun j => (blk_cell (M3.out.blk_at 1 rfl) j).trans (HG0.out j).symm)⟩ (fun hHeld => ?_)
  refine pure_ (i := 0) (N := some 72) (v := ?_) (a' := ?_) #[true, false, false, false, false, false, false, false, false, false, false, false, false, false, false, false, false, false, false, false, false] rfl rfl (by kernel_rfl) (fun _ _ _ h => h) (Or.inl ⟨by rfl, ?_⟩) ?_ ?_
  rotate_left
  · intro w'
    go_simp
    with_reducible rfl
  rotate_left
  · simp only [Act.put, List.setIfInBounds_toArray, List.set_cons_zero, List.set_cons_succ, i64_w, i32_w]
    rfl
  refine pure_ (i := 1) (N := some 73) (v := ?_) (a' := ?_) #[true, true, false, false, false, false, false, false, false, false, false, false, false, false, false, false, false, false, false, false, false] rfl rfl (by kernel_rfl) (fun _ _ _ h => h) (Or.inl ⟨by rfl, ?_⟩) ?_ ?_
  rotate_left
  · intro w'
    go_simp
    with_reducible rfl
  rotate_left
  · simp only [Act.put, List.setIfInBounds_toArray, List.set_cons_zero, List.set_cons_succ, i64_w, i32_w]
    rfl
  refine pure_ (i := 2) (N := some 74) (v := ?_) (a' := ?_) #[true, true, true, false, false, false, false, false, false, false, false, false, false, false, false, false, false, false, false, false, false] rfl rfl (by kernel_rfl) (fun _ _ _ h => h) (Or.inl ⟨by rfl, ?_⟩) ?_ ?_
  rotate_left
  · intro w'
    go_simp
    with_reducible rfl
  rotate_left
  · simp only [Act.put, List.setIfInBounds_toArray, List.set_cons_zero, List.set_cons_succ, i64_w, i32_w]
    rfl
  refine pure_ (i := 3) (N := some 75) (v := ?_) (a' := ?_) #[true, true, true, true, false, false, false, false, false, false, false, false, false, false, false, false, false, false, false, false, false] rfl rfl (by kernel_rfl) (fun _ _ _ h => h) (Or.inl ⟨by rfl, ?_⟩) ?_ ?_
  rotate_left
  · intro w'
    go_simp
    with_reducible rfl
  rotate_left
  · simp only [Act.put, List.setIfInBounds_toArray, List.set_cons_zero, List.set_cons_succ, i64_w, i32_w]
    rfl
  refine pure_ (i := 4) (N := some 76) (v := ?_) (a' := ?_) #[true, true, true, true, true, false, false, false, false, false, false, false, false, false, false, false, false, false, false, false, false] rfl rfl (by kernel_rfl) (fun _ _ _ h => h) (Or.inl ⟨by rfl, ?_⟩) ?_ ?_
  rotate_left
  · intro w'
    go_simp
    with_reducible rfl
  rotate_left
  · simp only [Act.put, List.setIfInBounds_toArray, List.set_cons_zero, List.set_cons_succ, i64_w, i32_w]
    rfl
  refine pure_ (i := 6) (N := some 78) (v := ?_) (a' := ?_) #[true, true, true, true, true, false, true, false, false, false, false, false, false, false, false, false, false, false, false, false, false] rfl rfl (by kernel_rfl) (fun _ _ _ h => h) (Or.inl ⟨by rfl, ?_⟩) ?_ ?_
  rotate_left
  · intro w'
    go_simp
    with_reducible rfl
  rotate_left
  · simp only [Act.put, List.setIfInBounds_toArray, List.set_cons_zero, List.set_cons_succ, i64_w, i32_w]
    rfl
  refine pure_ (i := 7) (N := some 79) (v := ?_) (a' := ?_) #[true, true, true, true, true, false, true, true, false, false, false, false, false, false, false, false, false, false, false, false, false] rfl rfl (by kernel_rfl) (fun _ _ _ h => h) (Or.inl ⟨by rfl, ?_⟩) ?_ ?_
  rotate_left
  · intro w'
    go_simp
    with_reducible rfl
  rotate_left
  · simp only [Act.put, List.setIfInBounds_toArray, List.set_cons_zero, List.set_cons_succ, i64_w, i32_w]
    rfl
  refine pure_ (i := 8) (N := some 80) (v := ?_) (a' := ?_) #[true, true, true, true, true, false, true, true, true, false, false, false, false, false, false, false, false, false, false, false, false] rfl rfl (by kernel_rfl) (fun _ _ _ h => h) (Or.inl ⟨by rfl, ?_⟩) ?_ ?_
  rotate_left
  · intro w'
    go_simp
    with_reducible rfl
  rotate_left
  · simp only [Act.put, List.setIfInBounds_toArray, List.set_cons_zero, List.set_cons_succ, i64_w, i32_w]
    rfl
  refine pure_ (i := 9) (N := some 81) (v := ?_) (a' := ?_) #[true, true, true, true, true, false, true, true, true, true, false, false, false, false, false, false, false, false, false, false, false] rfl rfl (by kernel_rfl) (fun _ _ _ h => h) (Or.inl ⟨by rfl, ?_⟩) ?_ ?_
  rotate_left
  · intro w'
    go_simp
    with_reducible rfl
  rotate_left
  · simp only [Act.put, List.setIfInBounds_toArray, List.set_cons_zero, List.set_cons_succ, i64_w, i32_w]
    rfl
  refine pure_ (i := 11) (N := some 83) (v := ?_) (a' := ?_) #[true, true, true, true, true, false, true, true, true, true, false, true, false, false, false, false, false, false, false, false, false] rfl rfl (by kernel_rfl) (fun _ _ _ h => h) (Or.inl ⟨by rfl, ?_⟩) ?_ ?_
  rotate_left
  · intro w'
    go_simp
    with_reducible rfl
  rotate_left
  · simp only [Act.put, List.setIfInBounds_toArray, List.set_cons_zero, List.set_cons_succ, i64_w, i32_w]
    rfl
  refine pure_ (i := 14) (N := some 86) (v := ?_) (a' := ?_) #[true, true, true, true, true, false, true, true, true, true, false, true, false, false, true, false, false, false, false, false, false] rfl rfl (by kernel_rfl) (fun _ _ _ h => h) (Or.inl ⟨by rfl, ?_⟩) ?_ ?_
  rotate_left
  · intro w'
    go_simp
    with_reducible rfl
  rotate_left
  · simp only [Act.put, List.setIfInBounds_toArray, List.set_cons_zero, List.set_cons_succ, i64_w, i32_w]
    rfl
  refine pure_ (i := 18) (N := some 90) (v := ?_) (a' := ?_) #[true, true, true, true, true, false, true, true, true, true, false, true, false, false, true, false, false, false, true, false, false] rfl rfl (by kernel_rfl) (fun _ _ _ h => h) (Or.inl ⟨by rfl, ?_⟩) ?_ ?_
  rotate_left
  · intro w'
    go_simp
    with_reducible rfl
  rotate_left
  · simp only [Act.put, List.setIfInBounds_toArray, List.set_cons_zero, List.set_cons_succ, i64_w, i32_w]
    rfl
  refine take_ (i := 5) (N := some 77) (v := ?_) (a' := ?_) #[true, true, true, true, true, true, true, true, true, true, false, true, false, false, true, false, false, false, true, false, false] rfl rfl (by kernel_rfl) (fun _ _ _ h => h) (Or.inl ⟨by rfl, ?_⟩) hHeld ?_ ?_
  rotate_left
  · rintro w' ⟨s0, s1⟩
    go_simp
    with_reducible rfl
  rotate_left
  · simp only [Act.put, List.setIfInBounds_toArray, List.set_cons_zero, List.set_cons_succ, i64_w, i32_w]
    rfl
  refine take_ (i := 10) (N := some 82) (v := ?_) (a' := ?_) #[true, true, true, true, true, true, true, true, true, true, true, true, false, false, true, false, false, false, true, false, false] rfl rfl (by kernel_rfl) (fun _ _ _ h => h) (Or.inl ⟨by rfl, ?_⟩) hHeld ?_ ?_
  rotate_left
  · rintro w' ⟨s0, s1⟩
    go_simp
    with_reducible rfl
  rotate_left
  · simp only [Act.put, List.setIfInBounds_toArray, List.set_cons_zero, List.set_cons_succ, i64_w, i32_w]
    rfl
  refine take_ (i := 12) (N := some 84) (v := ?_) (a' := ?_) #[true, true, true, true, true, true, true, true, true, true, true, true, true, false, true, false, false, false, true, false, false] rfl rfl (by kernel_rfl) (fun _ _ _ h => h) (Or.inl ⟨by rfl, ?_⟩) hHeld ?_ ?_
  rotate_left
  · rintro w' ⟨s0, s1⟩
    go_simp
    with_reducible rfl
  rotate_left
  · simp only [Act.put, List.setIfInBounds_toArray, List.set_cons_zero, List.set_cons_succ, i64_w, i32_w]
    rfl
  refine pure_ (i := 13) (N := some 85) (v := ?_) (a' := ?_) #[true, true, true, true, true, true, true, true, true, true, true, true, true, true, true, false, false, false, true, false, false] rfl rfl (by kernel_rfl) (fun _ _ _ h => h) (Or.inl ⟨by rfl, ?_⟩) ?_ ?_
  rotate_left
  · intro w'
    go_simp
    with_reducible rfl
  rotate_left
  · simp only [Act.put, List.setIfInBounds_toArray, List.set_cons_zero, List.set_cons_succ, i64_w, i32_w]
    rfl
  refine take_ (i := 15) (N := some 87) (v := ?_) (a' := ?_) #[true, true, true, true, true, true, true, true, true, true, true, true, true, true, true, true, false, false, true, false, false] rfl rfl (by kernel_rfl) (fun _ _ _ h => h) (Or.inl ⟨by rfl, ?_⟩) hHeld ?_ ?_
  rotate_left
  · rintro w' ⟨s0, s1⟩
    go_simp
    with_reducible rfl
  rotate_left
  · simp only [Act.put, List.setIfInBounds_toArray, List.set_cons_zero, List.set_cons_succ, i64_w, i32_w]
    rfl
  refine take_ (i := 19) (N := some 91) (v := ?_) (a' := ?_) #[true, true, true, true, true, true, true, true, true, true, true, true, true, true, true, true, false, false, true, true, false] rfl rfl (by kernel_rfl) (fun _ _ _ h => h) (Or.inl ⟨by rfl, ?_⟩) hHeld ?_ ?_
  rotate_left
  · rintro w' ⟨s0, s1⟩
    go_simp
    with_reducible rfl
  rotate_left
  · simp only [Act.put, List.setIfInBounds_toArray, List.set_cons_zero, List.set_cons_succ, i64_w, i32_w]
    rfl
  refine one_ (i := 16) (N := some 88) #[true, true, true, true, true, true, true, true, true, true, true, true, true, true, true, true, true, false, true, true, false] rfl rfl (by kernel_rfl) (by decide) (fun K hK => ?_)
  refine value_ (w1 := ?_) (v := ?_) (by rfl) rfl ?_ ?_
  rotate_left 2
  · go_simp
    constructor
    · rfl
    · rfl
  have M4 := Aside0.mk (M3.out.allocAt #[.slice B5 k d5, .slice A m.f7.length c] 27 w1.heap.size rfl).drew
  refine hK.out _ _ ⟨(fun j => (blk_cell (M4.out.blk_at 1 rfl) j).trans (HM0.out j).symm), (fun j => (blk_cell (M4.out.blk_at 2 rfl) j).trans (HG0.out j).symm)⟩ (fun hHeld => ?_)
  clear hK K
  refine norm_ (a' := ?_) ?_ ?_
  rotate_left
  · show Act.put _ (some 88) _ = _
    simp only [Act.put, List.setIfInBounds_toArray, List.set_cons_zero, List.set_cons_succ, i64_w, i32_w]
    rfl
  refine one_ (i := 17) (N := some 89) #[true, true, true, true, true, true, true, true, true, true, true, true, true, true, true, true, true, true, true, true, false] rfl rfl (by kernel_rfl) (by decide) (fun K hK => ?_)
  refine goes_ Try.func111 (by kernel_rfl) rfl #[.slice (some ⟨w1.heap.size, 0, none⟩) 2 2] (by rfl) rfl rfl (by simp only [List.map_toArray, List.map_cons, List.map_nil]; rfl) ?_
  with_reducible refine (CONC.out _ M4.out).mono ?_
  rintro e w4 ⟨v3, rfl, hM⟩
  refine ⟨_, rfl, ?_⟩
  have M5 := Aside0.mk hM
  obtain ⟨B3, d3, rfl, _, _⟩ := M5.out.row_at 0 rfl
  clear hM
  refine hK.out _ _ ⟨(fun j => (blk_cell (M5.out.blk_at 2 rfl) j).trans (HM0.out j).symm), (fun j => (blk_cell (M5.out.blk_at 3 rfl) j).trans (HG0.out j).symm)⟩ (fun hHeld => ?_)
  clear hK K
  refine norm_ (a' := ?_) ?_ ?_
  rotate_left
  · show Act.put _ (some 89) _ = _
    simp only [Act.put, List.setIfInBounds_toArray, List.set_cons_zero, List.set_cons_succ, i64_w, i32_w]
    rfl
  refine last_ (i := 20) (N := some 92) #[true, true, true, true, true, true, true, true, true, true, true, true, true, true, true, true, true, true, true, true, true] rfl rfl (by kernel_rfl) (by decide) (fun K hK => ?_)
  refine goes_ Try.func78 (by kernel_rfl) rfl #[.pointer (some ⟨g, 0, none⟩), .int .i64 r.f2, .slice B3 l3.length d3, .int .i64 m.f5] (by rfl) rfl rfl (by simp only [List.map_toArray, List.map_cons, List.map_nil]; rfl) ?_
  with_reducible refine (normal_calls w0 _ _ g r.f0 r.f1 r.f2 r.f3 r.f4 _ r.f6 _ _ _ _ r.f11 r.f12 _ r.f2 m.f5 B3 d3 l3 (Mem.sel (ps := [_, _, _, _, _, _, _, _, _, _]) (F := F) [3, 0, 2, 4, 6, 7, 8, 9] 10 M5.out rfl rfl) (fun w' b hq => hq.row_C 1 rfl) (by have := HN3.out; omega) HI.out.1 HI.out.2.1 HI.out.2.2 cx HCX.out).mono ?_
  rintro e w5 ⟨vl, va, rfl, hM⟩
  refine ⟨_, rfl, ?_⟩
  have M6 := Aside0.mk hM
  obtain ⟨L5, l5, rfl, hl5, _⟩ := M6.out.row_at 2 rfl
  clear hM
  refine hK.out _ _ ?_
  clear hK K
  refine norm_ (a' := ?_) ?_ ?_
  rotate_left
  · show Act.put _ (some 92) _ = _
    simp only [Act.put, List.setIfInBounds_toArray, List.set_cons_zero, List.set_cons_succ, i64_w, i32_w]
    rfl
  refine done_ (by kernel_rfl) ?_
  clear q1 q2 cM cG HM0 HG0
  have M7 := Aside0.mk (Mem.sel (ps := [_, _, _, _, _, _, _, _, _, _]) (F := F) [0, 5, 4, 1, 2] 10 M6.out rfl rfl)
  have HM0 := Aside0.mk (blk_cell (M7.out.blk_at 2 rfl))
  have HG0 := Aside0.mk (blk_cell (M7.out.blk_at 0 rfl))
  have cM := HM0.out
  have cG := HG0.out
  unfold Wa.wc at cG
  go_wp2_with fail
  go_upto_region 12 with (fail)
  have M2D := Aside0.mk M7.out.drew
  have HS0 := Aside0.mk (show (∀ j : Nat, w5.drew.cell? ⟨w.heap.size, j, none⟩ = w5.cell? ⟨w.heap.size, j, none⟩) ∧ (∀ j : Nat, j < 13 → w5.drew.cell? ⟨g, j, none⟩ = w5.cell? ⟨g, j, none⟩) from ⟨fun _ => rfl, fun _ _ => rfl⟩)
  have H9 := HS0
  go_region_held3 (fun w' => (∀ j : Nat, w'.cell? ⟨w.heap.size, j, none⟩ = w5.cell? ⟨w.heap.size, j, none⟩) ∧ (∀ j : Nat, j < 13 → w'.cell? ⟨g, j, none⟩ = w5.cell? ⟨g, j, none⟩)) (first | with_reducible exact HS0.out | with_reducible exact H9.out | fail) ((go_at_call 94; refine (send_calls w0 _ emp _ g r.f0 r.f1 r.f2 r.f2 0 _ cx va (.slice none 0 0) (.slice none 0 0) (.slice none 0 0) (-1) 0 (.slice none 0 0) [] m.f1 2 0 0 0 (l3.length : Int) 0 0 none 0 [] (Mem.sel (ps := [_, _, _, _, _, _]) (F := F) [0, 1, 2, 3, 4, 5] 6 (Mem.cons_emp M2D.out) rfl rfl) (Rd.old (C_zero _)) (by decide) (by decide) (by decide)).mono ?_; rintro e w6 ⟨vo, rfl, hM⟩; have M8 := Aside0.mk (Mem.sel (ps := [_, _, _, _, _, _]) (F := F) [1, 2, 3, 4, 5] 6 hM rfl rfl); clear hM; have H9 := Aside0.mk (show (∀ j : Nat, w6.cell? ⟨w.heap.size, j, none⟩ = w5.cell? ⟨w.heap.size, j, none⟩) ∧ (∀ j : Nat, j < 13 → w6.cell? ⟨g, j, none⟩ = w5.cell? ⟨g, j, none⟩) from ⟨fun j => (blk_cell (M8.out.blk_at 2 rfl) j).trans (HM0.out j).symm, fun j hj => (blk_cell (M8.out.blk_at 0 rfl) j).trans (Eq.trans (wc_low _ _ _ _ _ _ _ _ _ _ _ _ _ _ _ j hj) (HG0.out j).symm)⟩)))
  go_wp2
  first | go_end0 | (refine bodyPost_ret (results_none rfl _ _ _) rfl ?_)
  have hs := HSS.out
  have hl3 := HL3.out
  have hcx := HCX.out
  subst hs
  subst hl3
  subst hcx
  exact ⟨rfl, _, _, _, _, _, _, Mem.sel (ps := [_, _, _, _, _, _, _, _]) (F := F) [3, 4, 7, 6, 1, 2, 0] 8 (Mem.row_nil (Mem.row_nil (Mem.row_nil M8.out (Kd.int .i64) 3) (Kd.int .i64) 3) kE 102) rfl rfl⟩
theorem log_n3 (w0 w : World) (F : List Res) (g : Nat) (r : Rep) (m : Msg) (v5 v7 v8 v9 v10 : Value) (A : Option Addr) (c : Nat) (hM : Mem w0 w (wS g r v5 r.f5 r.f6 v7 v8 v9 v10 (.slice none 0 0) [] F)) (k : Nat) (H0 : LogIn w0 r m A c k) (h1 : m.f3 = r.f2) (h4 : r.f4 = 0) (h7 : ¬ r.f2 % r.f1 = r.f0) (h8 : ¬ (r.f5.length : Int) < (k : Int) + (m.f7.length : Int)) (s : Rep) (hs : raise r m.f5 = s) :
    LogDoes w0 w F g m A c s [toOne s m.f1 ⟨2, 0, 0, 0, (s.f5.length : Int), 0, 0, []⟩] := by
  unfold LogDoes
  obtain ⟨hl, hlc, hn, hk, hkn, hlm, hcl, hw0, hw1, hi0, hi1, hn5⟩ := H0
  clear hcl
  have HSS := Aside0.mk hs
  obtain ⟨cx, hcx⟩ : ∃ cx : Int, max r.f6 (min m.f5 (r.f5.length : Int)) = cx := ⟨_, rfl⟩
  have HCX := Aside0.mk hcx
  clear hs hcx
  obtain ⟨e1, e1'⟩ := eq_b h1
  have e2 : decide ((r.f5.length : Int) < (k : Int)) = false := decide_eq_false (by omega)
  have e2n : decide (r.f5.length < k) = false := decide_eq_false (by omega)
  obtain ⟨e3, e3'⟩ := ne_b (show ¬ r.f4 = 2 by rw [h4]; decide)
  obtain ⟨e4, e4'⟩ := eq_b h4
  obtain ⟨e7, e7'⟩ := ne_b h7
  clear h1 h4 h7
  have e8 : decide ((r.f5.length : Int) < (k : Int) + (m.f7.length : Int)) = false := decide_eq_false h8
  have e8n : decide (r.f5.length < k + m.f7.length) = false := decide_eq_false (by omega)
  clear h8
  have HL := Aside0.mk hl
  have HN := Aside0.mk (show r.f5.length ≤ 1200 ∧ m.f7.length ≤ 1200 ∧ k ≤ r.f5.length ∧ m.f7.length ≤ c from ⟨hn, hlm, hkn, hlc⟩)
  have HV := Aside0.mk (show 0 ≤ r.f2 ∧ r.f2 ≤ 4611686018427387904 from ⟨hw0, hw1⟩)
  have HI := Aside0.mk (show 0 ≤ r.f0 ∧ r.f0 < r.f1 ∧ r.f1 ≤ 5 from ⟨hi0, hi1, hn5⟩)
  have HTK := Aside0.mk (show (r.f5.take k).length = k by rw [List.length_take]; exact Nat.min_eq_left hkn)
  obtain ⟨ew, ew'⟩ := wr3 (k := k) (n := m.f7.length) (by omega) hlm
  obtain ⟨B5, d5, rfl, hd5, _⟩ := hM.row_at 2 rfl
  have HD5 := Aside0.mk hd5
  have q1 : (k : Int) ≤ (d5 : Int) := by clear e1 e1' e2 e2n; omega
  have q2 : k ≤ d5 := by clear e1 e1' e2 e2n; omega
  rw [hk]
  have M1 := Aside0.mk (hM.alloc #[.int .i64 m.f0, .int .i64 m.f1, .int .i64 m.f2, .int .i64 m.f3, .int .i64 (k : Int), .int .i64 m.f5, .int .i64 m.f6, .slice A m.f7.length c] 29)
  clear hM hl hlc hn hk hkn hlm hw0 hw1 hi0 hi1 hn5 hd5
  have cM := blk_cell (M1.out.blk_at 0 rfl)
  have cG := blk_cell (M1.out.blk_at 1 rfl)
  unfold Wa.wc at cG
  go_enter Try.func102, Try.ntmps102
  go_wp2_with fail
  go_upto_region 2 with (fail)
  go_cut [26] (fun s26 wx => s26 = .bool false ∧ Aside0 (Mem w0 wx (mS w (k : Int) m A c <| wS g r (.slice B5 r.f5.length d5) r.f5 r.f6 v7 v8 v9 v10 (.slice none 0 0) [] F)))
  case first =>
    go_quiet (fail)
    go_wp2_with fail
    go_meet
    case rel => exact ⟨rfl, ⟨M1.out.drewN _⟩⟩
  case rest =>
  obtain ⟨rfl, M2⟩ := hcut
  clear M1 cM cG
  have HM0 := Aside0.mk (blk_cell (M2.out.blk_at 0 rfl))
  have HG0 := Aside0.mk (blk_cell (M2.out.blk_at 1 rfl))
  have cM := HM0.out
  have cG := HG0.out
  unfold Wa.wc at cG
  go_wp2_with fail
  go_upto_region 4 with (fail)
  go_cut [33] (fun s33 wx => s33 = .bool false ∧ Aside0 (Mem w0 wx (mS w (k : Int) m A c <| wS g r (.slice B5 r.f5.length d5) r.f5 r.f6 v7 v8 v9 v10 (.slice none 0 0) [] F)))
  case first =>
    go_quiet (fail)
    go_wp2_with fail
    go_meet
    case rel => exact ⟨rfl, ⟨M2.out.drewN _⟩⟩
  case rest =>
  obtain ⟨rfl, M3⟩ := hcut
  clear M2 cM cG HM0 HG0
  have cM := blk_cell (M3.out.blk_at 0 rfl)
  have cG := blk_cell (M3.out.blk_at 1 rfl)
  have hW := M3.out.blk_at 1 rfl
  unfold Wa.wc at cG
  go_wp2_with fail
  go_upto_region 6 with (fail)
  go_cut [93] (fun s93 wx => s93 = .bool true ∧ Aside0 (Mem w0 wx (mS w (k : Int) m A c <| wS g r (.slice B5 r.f5.length d5) r.f5 r.f6 v7 v8 v9 v10 (.slice none 0 0) [] F)))
  case first =>
    go_quiet ((go_at_call 74; exact primary_quiet _ _ g r.f0 r.f1 r.f2 r.f3 r.f4 _ r.f6 _ _ _ _ r.f11 r.f12 _ r.f2 hW HV.out.1 HV.out.2 (by have := HI.out; omega) HI.out.2.2))
    go_wp2_with fail
    go_meet
    case rel => exact ⟨rfl, ⟨M3.out.drewN _⟩⟩
  case rest =>
  obtain ⟨rfl, M4⟩ := hcut
  clear M3 cM cG hW
  have cM := blk_cell (M4.out.blk_at 0 rfl)
  have cG := blk_cell (M4.out.blk_at 1 rfl)
  unfold Wa.wc at cG
  go_wp2_with fail
  refine (commit_calls w0 _ _ g r.f0 r.f1 r.f2 r.f3 r.f4 B5 r.f5.length d5 r.f6 _ _ _ _ r.f11 r.f12 _ m.f5 (Mem.sel (ps := [_, _, _, _, _, _, _, _]) (F := F) [1, 0, 2, 3, 4, 5, 6, 7] 8 M4.out rfl rfl) cx HCX.out).mono ?_
  rintro e w5 ⟨rfl, hM⟩
  have M7 := Aside0.mk (Mem.sel (ps := [_, _, _, _, _, _, _, _]) (F := F) [0, 2, 1, 3, 4, 5, 6, 7] 8 hM rfl rfl)
  clear hM M4 cM cG
  have HM0 := Aside0.mk (blk_cell (M7.out.blk_at 2 rfl))
  have HG0 := Aside0.mk (blk_cell (M7.out.blk_at 0 rfl))
  have cM := HM0.out
  have cG := HG0.out
  unfold Wa.wc at cG
  go_wp2_with fail
  go_upto_region 12 with (fail)
  have M2D := Aside0.mk M7.out.drew
  have HS0 := Aside0.mk (show (∀ j : Nat, w5.drew.cell? ⟨w.heap.size, j, none⟩ = w5.cell? ⟨w.heap.size, j, none⟩) ∧ (∀ j : Nat, j < 13 → w5.drew.cell? ⟨g, j, none⟩ = w5.cell? ⟨g, j, none⟩) from ⟨fun _ => rfl, fun _ _ => rfl⟩)
  have H9 := HS0
  go_region_held3 (fun w' => (∀ j : Nat, w'.cell? ⟨w.heap.size, j, none⟩ = w5.cell? ⟨w.heap.size, j, none⟩) ∧ (∀ j : Nat, j < 13 → w'.cell? ⟨g, j, none⟩ = w5.cell? ⟨g, j, none⟩)) (first | with_reducible exact HS0.out | with_reducible exact H9.out | fail) ((go_at_call 94; refine (send_calls w0 _ emp _ g r.f0 r.f1 r.f2 r.f3 r.f4 _ cx v7 v8 v9 v10 r.f11 r.f12 (.slice none 0 0) [] m.f1 2 0 0 0 (r.f5.length : Int) 0 0 none 0 [] (Mem.sel (ps := [_, _, _, _, _, _, _, _, _]) (F := F) [0, 1, 2, 3, 4, 5, 6, 7, 8] 9 (Mem.cons_emp M2D.out) rfl rfl) (Rd.old (C_zero _)) (by decide) (by decide) (by decide)).mono ?_; rintro e w6 ⟨vo, rfl, hM⟩; have M8 := Aside0.mk (Mem.sel (ps := [_, _, _, _, _, _, _, _, _]) (F := F) [1, 2, 3, 4, 5, 6, 7, 8] 9 hM rfl rfl); clear hM; have H9 := Aside0.mk (show (∀ j : Nat, w6.cell? ⟨w.heap.size, j, none⟩ = w5.cell? ⟨w.heap.size, j, none⟩) ∧ (∀ j : Nat, j < 13 → w6.cell? ⟨g, j, none⟩ = w5.cell? ⟨g, j, none⟩) from ⟨fun j => (blk_cell (M8.out.blk_at 2 rfl) j).trans (HM0.out j).symm, fun j hj => (blk_cell (M8.out.blk_at 0 rfl) j).trans (Eq.trans (wc_low _ _ _ _ _ _ _ _ _ _ _ _ _ _ _ j hj) (HG0.out j).symm)⟩)))
  go_wp2
  first | go_end0 | (refine bodyPost_ret (results_none rfl _ _ _) rfl ?_)
  have hs := HSS.out
  have hcx := HCX.out
  subst hs
  subst hcx
  exact ⟨rfl, _, _, _, _, _, _, Mem.sel (ps := [_, _, _, _, _, _, _, _]) (F := F) [0, 1, 3, 4, 5, 6, 7] 8 M8.out rfl rfl⟩
theorem log_n1n (w0 w : World) (F : List Res) (g : Nat) (r : Rep) (m : Msg) (v5 v7 v8 v9 v10 : Value) (A : Option Addr) (c : Nat) (hM : Mem w0 w (wS g r v5 r.f5 r.f6 v7 v8 v9 v10 (.slice none 0 0) [] F)) (k : Nat) (H0 : LogIn w0 r m A c k) (h1 : m.f3 = r.f2) (h4 : r.f4 = 0) (h7 : ¬ r.f2 % r.f1 = r.f0) (q : Nat) (hq : r.f5.length = k + q) (hqp : q < m.f7.length) (hcq : ¬ c = q) (hb : log (r.f5 ++ m.f7.drop q) = false) :
    LogDoes w0 w F g m A c r [] := by
  unfold LogDoes
  obtain ⟨hl, hlc, hn, hk, hkn, hlm, hcl, hw0, hw1, hi0, hi1, hn5⟩ := H0
  clear hcl
  have HB := Aside0.mk hb
  clear hb
  obtain ⟨e1, e1'⟩ := eq_b h1
  have e2 : decide ((r.f5.length : Int) < (k : Int)) = false := decide_eq_false (by omega)
  have e2n : decide (r.f5.length < k) = false := decide_eq_false (by omega)
  obtain ⟨e3, e3'⟩ := ne_b (show ¬ r.f4 = 2 by rw [h4]; decide)
  obtain ⟨e4, e4'⟩ := eq_b h4
  obtain ⟨e7, e7'⟩ := ne_b h7
  clear h1 h4 h7
  have e8 : decide ((r.f5.length : Int) < (k : Int) + (m.f7.length : Int)) = true := decide_eq_true (by clear e2 e2n e3 e3' e4 e4' e7 e7'; omega)
  have e8n : decide (r.f5.length < k + m.f7.length) = true := decide_eq_true (by clear e2 e2n e3 e3' e4 e4' e7 e7'; omega)
  obtain ⟨es, es'⟩ := sub_ hq (by omega)
  have HCQ := Aside0.mk hcq
  have HDL := Aside0.mk (show (m.f7.drop q).length = m.f7.length - q from List.length_drop ..)
  have HQ := Aside0.mk (show q ≤ m.f7.length ∧ m.f7.length ≤ c from ⟨by omega, hlc⟩)
  have q3 : (0 : Int) ≤ (q : Int) := by clear e8 e2; omega
  have q4 : (q : Int) ≤ (m.f7.length : Int) := by clear e8 e2 e8n e2n; omega
  have q5 : q ≤ m.f7.length := by clear e8 e2 e8n e2n; omega
  have q6 : (m.f7.length : Int) ≤ (c : Int) := by clear e8 e2 e8n e2n; omega
  clear hq hqp
  have HL := Aside0.mk hl
  have HN := Aside0.mk (show r.f5.length ≤ 1200 ∧ m.f7.length ≤ 1200 ∧ k ≤ r.f5.length ∧ m.f7.length ≤ c from ⟨hn, hlm, hkn, hlc⟩)
  have HV := Aside0.mk (show 0 ≤ r.f2 ∧ r.f2 ≤ 4611686018427387904 from ⟨hw0, hw1⟩)
  have HI := Aside0.mk (show 0 ≤ r.f0 ∧ r.f0 < r.f1 ∧ r.f1 ≤ 5 from ⟨hi0, hi1, hn5⟩)
  have HTK := Aside0.mk (show (r.f5.take k).length = k by rw [List.length_take]; exact Nat.min_eq_left hkn)
  obtain ⟨ew, ew'⟩ := wr3 (k := k) (n := m.f7.length) (by omega) hlm
  obtain ⟨B5, d5, rfl, hd5, _⟩ := hM.row_at 2 rfl
  have HD5 := Aside0.mk hd5
  have q1 : (k : Int) ≤ (d5 : Int) := by clear e1 e1' e2 e2n; omega
  have q2 : k ≤ d5 := by clear e1 e1' e2 e2n; omega
  rw [hk]
  have M1 := Aside0.mk (hM.alloc #[.int .i64 m.f0, .int .i64 m.f1, .int .i64 m.f2, .int .i64 m.f3, .int .i64 (k : Int), .int .i64 m.f5, .int .i64 m.f6, .slice A m.f7.length c] 29)
  clear hM hl hlc hn hk hkn hlm hw0 hw1 hi0 hi1 hn5 hd5
  have cM := blk_cell (M1.out.blk_at 0 rfl)
  have cG := blk_cell (M1.out.blk_at 1 rfl)
  unfold Wa.wc at cG
  go_enter Try.func102, Try.ntmps102
  go_wp2_with fail
  go_upto_region 2 with (fail)
  go_cut [26] (fun s26 wx => s26 = .bool false ∧ Aside0 (Mem w0 wx (mS w (k : Int) m A c <| wS g r (.slice B5 r.f5.length d5) r.f5 r.f6 v7 v8 v9 v10 (.slice none 0 0) [] F)))
  case first =>
    go_quiet (fail)
    go_wp2_with fail
    go_meet
    case rel => exact ⟨rfl, ⟨M1.out.drewN _⟩⟩
  case rest =>
  obtain ⟨rfl, M2⟩ := hcut
  clear M1 cM cG
  have HM0 := Aside0.mk (blk_cell (M2.out.blk_at 0 rfl))
  have HG0 := Aside0.mk (blk_cell (M2.out.blk_at 1 rfl))
  have cM := HM0.out
  have cG := HG0.out
  unfold Wa.wc at cG
  go_wp2_with fail
  go_upto_region 4 with (fail)
  go_cut [33] (fun s33 wx => s33 = .bool false ∧ Aside0 (Mem w0 wx (mS w (k : Int) m A c <| wS g r (.slice B5 r.f5.length d5) r.f5 r.f6 v7 v8 v9 v10 (.slice none 0 0) [] F)))
  case first =>
    go_quiet (fail)
    go_wp2_with fail
    go_meet
    case rel => exact ⟨rfl, ⟨M2.out.drewN _⟩⟩
  case rest =>
  obtain ⟨rfl, M3⟩ := hcut
  clear M2 cM cG HM0 HG0
  have cM := blk_cell (M3.out.blk_at 0 rfl)
  have cG := blk_cell (M3.out.blk_at 1 rfl)
  have hW := M3.out.blk_at 1 rfl
  unfold Wa.wc at cG
  go_wp2_with fail
  go_upto_region 6 with (fail)
  go_cut [93] (fun s93 wx => s93 = .bool true ∧ Aside0 (Mem w0 wx (mS w (k : Int) m A c <| wS g r (.slice B5 r.f5.length d5) r.f5 r.f6 v7 v8 v9 v10 (.slice none 0 0) [] F)))
  case first =>
    go_quiet ((go_at_call 74; exact primary_quiet _ _ g r.f0 r.f1 r.f2 r.f3 r.f4 _ r.f6 _ _ _ _ r.f11 r.f12 _ r.f2 hW HV.out.1 HV.out.2 (by have := HI.out; omega) HI.out.2.2))
    go_wp2_with fail
    go_meet
    case rel => exact ⟨rfl, ⟨M3.out.drewN _⟩⟩
  case rest =>
  obtain ⟨rfl, M4⟩ := hcut
  clear M3 cM cG hW
  have cM := blk_cell (M4.out.blk_at 0 rfl)
  have cG := blk_cell (M4.out.blk_at 1 rfl)
  unfold Wa.wc at cG
  have RISE : Aside0 (∀ wd : World, Mem w0 wd (mS w (k : Int) m A c <| wS g r (.slice B5 r.f5.length d5) r.f5 r.f6 v7 v8 v9 v10 (.slice none 0 0) [] F) → Calls Try.prog 105 #[.slice B5 r.f5.length d5, .slice (A.map (fun x => x.add (q * 2))) (m.f7.length - q) (c - q)] wd fun e w' => e = .returned (.bool false) ∧ Mem w0 w' (mS w (k : Int) m A c <| wS g r (.slice B5 r.f5.length d5) r.f5 r.f6 v7 v8 v9 v10 (.slice none 0 0) [] F)) := ⟨fun wd hMd => by
    have hd := Kd.C_drop (c := c) (Kd.C_below HL.out hMd.below) HQ.out.1 HQ.out.2
    rw [if_neg HCQ.out] at hd
    have q := rises_calls B5 (A.map (fun x => x.add (q * 2))) d5 (c - q) r.f5 (m.f7.drop q) wd (hMd.row_C 3 rfl) hd (by have := HN.out; omega) (by rw [HDL.out]; have := HN.out; omega) false HB.out
    rw [HDL.out] at q
    exact q.mono fun e w' q => ⟨q.1, hMd.trans q.2⟩⟩
  go_wp2_with fail
  refine (RISE.out _ M4.out).mono ?_
  rintro e w1 ⟨rfl, hM⟩
  have M5 := Aside0.mk hM
  clear hM RISE cM cG M4
  have cM := blk_cell (M5.out.blk_at 0 rfl)
  have cG := blk_cell (M5.out.blk_at 1 rfl)
  unfold Wa.wc at cG
  go_wp2
  first | go_end0 | (refine bodyPost_ret (results_none rfl _ _ _) rfl ?_)
  exact ⟨rfl, _, _, _, _, _, _, Mem.sel (ps := [_, _, _, _, _, _, _, _]) (F := F) [1, 2, 3, 4, 5, 6, 7] 8 M5.out rfl rfl⟩
theorem log_n2n (w0 w : World) (F : List Res) (g : Nat) (r : Rep) (m : Msg) (v5 v7 v8 v9 v10 : Value) (A : Option Addr) (c : Nat) (hM : Mem w0 w (wS g r v5 r.f5 r.f6 v7 v8 v9 v10 (.slice none 0 0) [] F)) (k : Nat) (H0 : LogIn w0 r m A c k) (h1 : m.f3 = r.f2) (h4 : r.f4 = 0) (h7 : ¬ r.f2 % r.f1 = r.f0) (q : Nat) (hq : r.f5.length = k + q) (hqp : q < m.f7.length) (hcq : ¬ c = q) (hb : log (r.f5 ++ m.f7.drop q) = true) (s : Rep) (hs : raise { r with f5 := r.f5 ++ m.f7.drop q } m.f5 = s) :
    LogDoes w0 w F g m A c s [toOne s m.f1 ⟨2, 0, 0, 0, (s.f5.length : Int), 0, 0, []⟩] := by
  unfold LogDoes
  obtain ⟨hl, hlc, hn, hk, hkn, hlm, hcl, hw0, hw1, hi0, hi1, hn5⟩ := H0
  clear hcl
  have HB := Aside0.mk hb
  clear hb
  have HSS := Aside0.mk hs
  obtain ⟨l3, hl3⟩ : ∃ l3, r.f5 ++ m.f7.drop q = l3 := ⟨_, rfl⟩
  have HL3 := Aside0.mk hl3
  have HN3 := Aside0.mk (show l3.length ≤ 1000000000 by rw [← hl3, List.length_append, List.length_drop]; omega)
  obtain ⟨cx, hcx⟩ : ∃ cx : Int, max r.f6 (min m.f5 (l3.length : Int)) = cx := ⟨_, rfl⟩
  have HCX := Aside0.mk hcx
  clear hs hl3 hcx
  obtain ⟨e1, e1'⟩ := eq_b h1
  have e2 : decide ((r.f5.length : Int) < (k : Int)) = false := decide_eq_false (by omega)
  have e2n : decide (r.f5.length < k) = false := decide_eq_false (by omega)
  obtain ⟨e3, e3'⟩ := ne_b (show ¬ r.f4 = 2 by rw [h4]; decide)
  obtain ⟨e4, e4'⟩ := eq_b h4
  obtain ⟨e7, e7'⟩ := ne_b h7
  clear h1 h4 h7
  have e8 : decide ((r.f5.length : Int) < (k : Int) + (m.f7.length : Int)) = true := decide_eq_true (by clear e2 e2n e3 e3' e4 e4' e7 e7'; omega)
  have e8n : decide (r.f5.length < k + m.f7.length) = true := decide_eq_true (by clear e2 e2n e3 e3' e4 e4' e7 e7'; omega)
  obtain ⟨es, es'⟩ := sub_ hq (by omega)
  have HCQ := Aside0.mk hcq
  have HDL := Aside0.mk (show (m.f7.drop q).length = m.f7.length - q from List.length_drop ..)
  have HQ := Aside0.mk (show q ≤ m.f7.length ∧ m.f7.length ≤ c from ⟨by omega, hlc⟩)
  have q3 : (0 : Int) ≤ (q : Int) := by clear e8 e2; omega
  have q4 : (q : Int) ≤ (m.f7.length : Int) := by clear e8 e2 e8n e2n; omega
  have q5 : q ≤ m.f7.length := by clear e8 e2 e8n e2n; omega
  have q6 : (m.f7.length : Int) ≤ (c : Int) := by clear e8 e2 e8n e2n; omega
  clear hq hqp
  have HL := Aside0.mk hl
  have HN := Aside0.mk (show r.f5.length ≤ 1200 ∧ m.f7.length ≤ 1200 ∧ k ≤ r.f5.length ∧ m.f7.length ≤ c from ⟨hn, hlm, hkn, hlc⟩)
  have HV := Aside0.mk (show 0 ≤ r.f2 ∧ r.f2 ≤ 4611686018427387904 from ⟨hw0, hw1⟩)
  have HI := Aside0.mk (show 0 ≤ r.f0 ∧ r.f0 < r.f1 ∧ r.f1 ≤ 5 from ⟨hi0, hi1, hn5⟩)
  have HTK := Aside0.mk (show (r.f5.take k).length = k by rw [List.length_take]; exact Nat.min_eq_left hkn)
  obtain ⟨ew, ew'⟩ := wr3 (k := k) (n := m.f7.length) (by omega) hlm
  obtain ⟨B5, d5, rfl, hd5, _⟩ := hM.row_at 2 rfl
  have HD5 := Aside0.mk hd5
  have q1 : (k : Int) ≤ (d5 : Int) := by clear e1 e1' e2 e2n; omega
  have q2 : k ≤ d5 := by clear e1 e1' e2 e2n; omega
  rw [hk]
  have M1 := Aside0.mk (hM.alloc #[.int .i64 m.f0, .int .i64 m.f1, .int .i64 m.f2, .int .i64 m.f3, .int .i64 (k : Int), .int .i64 m.f5, .int .i64 m.f6, .slice A m.f7.length c] 29)
  clear hM hl hlc hn hk hkn hlm hw0 hw1 hi0 hi1 hn5 hd5
  have cM := blk_cell (M1.out.blk_at 0 rfl)
  have cG := blk_cell (M1.out.blk_at 1 rfl)
  unfold Wa.wc at cG
  go_enter Try.func102, Try.ntmps102
  go_wp2_with fail
  go_upto_region 2 with (fail)
  go_cut [26] (fun s26 wx => s26 = .bool false ∧ Aside0 (Mem w0 wx (mS w (k : Int) m A c <| wS g r (.slice B5 r.f5.length d5) r.f5 r.f6 v7 v8 v9 v10 (.slice none 0 0) [] F)))
  case first =>
    go_quiet (fail)
    go_wp2_with fail
    go_meet
    case rel => exact ⟨rfl, ⟨M1.out.drewN _⟩⟩
  case rest =>
  obtain ⟨rfl, M2⟩ := hcut
  clear M1 cM cG
  have HM0 := Aside0.mk (blk_cell (M2.out.blk_at 0 rfl))
  have HG0 := Aside0.mk (blk_cell (M2.out.blk_at 1 rfl))
  have cM := HM0.out
  have cG := HG0.out
  unfold Wa.wc at cG
  go_wp2_with fail
  go_upto_region 4 with (fail)
  go_cut [33] (fun s33 wx => s33 = .bool false ∧ Aside0 (Mem w0 wx (mS w (k : Int) m A c <| wS g r (.slice B5 r.f5.length d5) r.f5 r.f6 v7 v8 v9 v10 (.slice none 0 0) [] F)))
  case first =>
    go_quiet (fail)
    go_wp2_with fail
    go_meet
    case rel => exact ⟨rfl, ⟨M2.out.drewN _⟩⟩
  case rest =>
  obtain ⟨rfl, M3⟩ := hcut
  clear M2 cM cG HM0 HG0
  have cM := blk_cell (M3.out.blk_at 0 rfl)
  have cG := blk_cell (M3.out.blk_at 1 rfl)
  have hW := M3.out.blk_at 1 rfl
  unfold Wa.wc at cG
  go_wp2_with fail
  go_upto_region 6 with (fail)
  go_cut [93] (fun s93 wx => s93 = .bool true ∧ Aside0 (Mem w0 wx (mS w (k : Int) m A c <| wS g r (.slice B5 r.f5.length d5) r.f5 r.f6 v7 v8 v9 v10 (.slice none 0 0) [] F)))
  case first =>
    go_quiet ((go_at_call 74; exact primary_quiet _ _ g r.f0 r.f1 r.f2 r.f3 r.f4 _ r.f6 _ _ _ _ r.f11 r.f12 _ r.f2 hW HV.out.1 HV.out.2 (by have := HI.out; omega) HI.out.2.2))
    go_wp2_with fail
    go_meet
    case rel => exact ⟨rfl, ⟨M3.out.drewN _⟩⟩
  case rest =>
  obtain ⟨rfl, M4⟩ := hcut
  clear M3 cM cG hW
  have cM := blk_cell (M4.out.blk_at 0 rfl)
  have cG := blk_cell (M4.out.blk_at 1 rfl)
  unfold Wa.wc at cG
  have RISE : Aside0 (∀ wd : World, Mem w0 wd (mS w (k : Int) m A c <| wS g r (.slice B5 r.f5.length d5) r.f5 r.f6 v7 v8 v9 v10 (.slice none 0 0) [] F) → Calls Try.prog 105 #[.slice B5 r.f5.length d5, .slice (A.map (fun x => x.add (q * 2))) (m.f7.length - q) (c - q)] wd fun e w' => e = .returned (.bool true) ∧ Mem w0 w' (mS w (k : Int) m A c <| wS g r (.slice B5 r.f5.length d5) r.f5 r.f6 v7 v8 v9 v10 (.slice none 0 0) [] F)) := ⟨fun wd hMd => by
    have hd := Kd.C_drop (c := c) (Kd.C_below HL.out hMd.below) HQ.out.1 HQ.out.2
    rw [if_neg HCQ.out] at hd
    have q := rises_calls B5 (A.map (fun x => x.add (q * 2))) d5 (c - q) r.f5 (m.f7.drop q) wd (hMd.row_C 3 rfl) hd (by have := HN.out; omega) (by rw [HDL.out]; have := HN.out; omega) true HB.out
    rw [HDL.out] at q
    exact q.mono fun e w' q => ⟨q.1, hMd.trans q.2⟩⟩
  go_wp2_with fail
  refine (RISE.out _ M4.out).mono ?_
  rintro e w1 ⟨rfl, hM⟩
  have M5 := Aside0.mk hM
  clear hM RISE cM cG M4
  have cM := blk_cell (M5.out.blk_at 0 rfl)
  have cG := blk_cell (M5.out.blk_at 1 rfl)
  unfold Wa.wc at cG
  have HD := Aside0.mk (show Kd.C kE w1 (A.map (fun x => x.add (q * 2))) (m.f7.length - q) (m.f7.drop q) by
    have hd := Kd.C_drop (c := c) (Kd.C_below HL.out M5.out.below) HQ.out.1 HQ.out.2
    rw [if_neg HCQ.out] at hd
    rw [HDL.out] at hd
    exact hd)
  go_wp2_with (((with_reducible refine gate_builtin (b := .append) (xs := #[.tmp 138, .tmp 139]) rfl ?_); at_builtin; refine Mem.app kE M5.out 3 _ r.f5 (m.f7.drop q) rfl (.tmp 138) (.tmp 139) 27 102 _ _ rfl Try.underlying27 infoEntry rfl (by decide) (by omega) (A.map (fun x => x.add (q * 2))) _ (c - q) rfl rfl rfl HD.out (fun x cs h => h) (by have := HN.out; omega) ?_; intro v1 w3 hM; rw [HL3.out] at hM; have M6 := Aside0.mk hM; clear hM; obtain ⟨A3, c3, he, hc3, _⟩ := M6.out.row_at 3 rfl; subst he; have cM3 := blk_cell (M6.out.blk_at 0 rfl); have cG3 := blk_cell (M6.out.blk_at 1 rfl); have fG3 := blk_frozen (M6.out.blk_at 1 rfl); have gG3 := blk_lt (M6.out.blk_at 1 rfl); have nG1 := blk_ne M6.out 0 1 rfl rfl (by decide); have nG2 := blk_ne M6.out 1 0 rfl rfl (by decide); unfold Wa.wc at cG3; clear hc3))
  have M9 := Aside0.mk (M6.out.set 1 rfl 5 (.slice A3 l3.length c3))
  clear cM3 cG3 fG3 gG3 nG1 nG2
  refine (commit_calls w0 _ _ g r.f0 r.f1 r.f2 r.f3 r.f4 A3 l3.length c3 r.f6 _ _ _ _ r.f11 r.f12 _ m.f5 (Mem.sel (ps := [_, _, _, _, _, _, _, _]) (F := F) [1, 0, 2, 3, 4, 5, 6, 7] 8 M9.out rfl rfl) cx HCX.out).mono ?_
  rintro e w5 ⟨rfl, hM⟩
  have M7 := Aside0.mk (Mem.sel (ps := [_, _, _, _, _, _, _, _]) (F := F) [0, 2, 1, 3, 4, 5, 6, 7] 8 hM rfl rfl)
  clear hM M9 M5 cM cG
  have HM0 := Aside0.mk (blk_cell (M7.out.blk_at 2 rfl))
  have HG0 := Aside0.mk (blk_cell (M7.out.blk_at 0 rfl))
  have cM := HM0.out
  have cG := HG0.out
  unfold Wa.wc at cG
  go_wp2_with fail
  go_upto_region 12 with (fail)
  have M2D := Aside0.mk M7.out.drew
  have HS0 := Aside0.mk (show (∀ j : Nat, w5.drew.cell? ⟨w.heap.size, j, none⟩ = w5.cell? ⟨w.heap.size, j, none⟩) ∧ (∀ j : Nat, j < 13 → w5.drew.cell? ⟨g, j, none⟩ = w5.cell? ⟨g, j, none⟩) from ⟨fun _ => rfl, fun _ _ => rfl⟩)
  have H9 := HS0
  go_region_held3 (fun w' => (∀ j : Nat, w'.cell? ⟨w.heap.size, j, none⟩ = w5.cell? ⟨w.heap.size, j, none⟩) ∧ (∀ j : Nat, j < 13 → w'.cell? ⟨g, j, none⟩ = w5.cell? ⟨g, j, none⟩)) (first | with_reducible exact HS0.out | with_reducible exact H9.out | fail) ((go_at_call 94; refine (send_calls w0 _ emp _ g r.f0 r.f1 r.f2 r.f3 r.f4 _ cx v7 v8 v9 v10 r.f11 r.f12 (.slice none 0 0) [] m.f1 2 0 0 0 (l3.length : Int) 0 0 none 0 [] (Mem.sel (ps := [_, _, _, _, _, _, _, _, _]) (F := F) [0, 1, 2, 3, 4, 5, 6, 7, 8] 9 (Mem.cons_emp M2D.out) rfl rfl) (Rd.old (C_zero _)) (by decide) (by decide) (by decide)).mono ?_; rintro e w6 ⟨vo, rfl, hM⟩; have M8 := Aside0.mk (Mem.sel (ps := [_, _, _, _, _, _, _, _, _]) (F := F) [1, 2, 3, 4, 5, 6, 7, 8] 9 hM rfl rfl); clear hM; have H9 := Aside0.mk (show (∀ j : Nat, w6.cell? ⟨w.heap.size, j, none⟩ = w5.cell? ⟨w.heap.size, j, none⟩) ∧ (∀ j : Nat, j < 13 → w6.cell? ⟨g, j, none⟩ = w5.cell? ⟨g, j, none⟩) from ⟨fun j => (blk_cell (M8.out.blk_at 2 rfl) j).trans (HM0.out j).symm, fun j hj => (blk_cell (M8.out.blk_at 0 rfl) j).trans (Eq.trans (wc_low _ _ _ _ _ _ _ _ _ _ _ _ _ _ _ j hj) (HG0.out j).symm)⟩)))
  go_wp2
  first | go_end0 | (refine bodyPost_ret (results_none rfl _ _ _) rfl ?_)
  have hs := HSS.out
  have hcx := HCX.out
  have hl3 := HL3.out
  subst hl3
  subst hs
  subst hcx
  exact ⟨rfl, _, _, _, _, _, _, Mem.sel (ps := [_, _, _, _, _, _, _, _]) (F := F) [0, 1, 3, 4, 5, 6, 7] 8 M8.out rfl rfl⟩
end Go.Proofs.Ytggbjokhniigkaa.Ti
