/- Texts laid together: La. No condition. -/
import Derived.Test.YtggbjokhniigkaaGreatYTz23
set_option linter.unusedVariables false
set_option linter.unusedSimpArgs false
set_option maxRecDepth 100000
set_option maxHeartbeats 8000000
namespace Go.Proofs.YtggbjokhniigkaaGreat.La
open Lx Ty Go.RowKit YtggbjokhniigkaaGreatW.PrintWords YtggbjokhniigkaaGreatW.PrintLast YtggbjokhniigkaaGreatW.PrintMore Mx Kx Wa Tk Sa To Wd Wj Tn Rp
theorem wr3 {k n : Nat} (h0 : k ≤ 1200) (hn : n ≤ 1200) : IntKind.i64.wrap ((k : Int) + (n : Int)) = (k : Int) + (n : Int) ∧ wrap64 ((k : Int) + (n : Int)) = (k : Int) + (n : Int) := ⟨by rw [IntKind.wrap_i64]; omega, by unfold wrap64; omega⟩
theorem eq_b {a b : Int} (h : a = b) : (a == b) = true ∧ (a != b) = false := by simp [h]
theorem ne_b {a b : Int} (h : ¬ a = b) : (a == b) = false ∧ (a != b) = true := by simp [h]
theorem blk_ne {w0 w : World} {rs : List Res} (h : Mem w0 w rs) (i j : Nat) {g T g' T' : Nat} {cs cs' : Array Value} (hi : rs[i]? = some (blk g T cs)) (hj : rs[j]? = some (blk g' T' cs')) (hij : i ≠ j) : ¬ g = g' := by
  obtain ⟨f, q, h1, h2, _, _, h5, _⟩ := h.take2 hi hj hij
  intro e
  subst e
  exact h5 _ h1.2 h2.2
theorem sub_ {n k q : Nat} (h : n = k + q) (hn : n ≤ 1200) : wrap64 ((n : Int) - (k : Int)) = (q : Int) ∧ IntKind.i64.wrap ((n : Int) - (k : Int)) = (q : Int) := ⟨by unfold wrap64; omega, by rw [IntKind.wrap_i64]; omega⟩
theorem lack_a3 (w0 w : World) (F : List Res) (g : Nat) (r : Rep) (m : Msg) (v5 v7 v8 v9 v10 : Value) (A : Option Addr) (c : Nat) (hM : Mem w0 w (qS g r v5 r.f5 r.f6 v7 v8 v9 v10 F)) (k : Nat) (H0 : LogIn w0 r m A c k) (h1 : m.f3 = r.f2) (h3 : r.f4 = 2) (h5 : (k : Int) ≤ r.f6) (h6 : r.f6 ≤ (k : Int) + (m.f7.length : Int)) (hb : log (r.f5.take k ++ m.f7) = false) :
    LackDoes w0 w F g m A c r [] := by
  unfold LackDoes
  obtain ⟨hl, hlc, hn, hk, hkn, hlm, hcl, hw0, hw1, hi0, hi1, hn5⟩ := H0
  obtain ⟨l3, hl3⟩ : ∃ l3, r.f5.take k ++ m.f7 = l3 := ⟨_, rfl⟩
  rw [hl3] at hb
  have HB := Aside0.mk hb
  have HL3 := Aside0.mk hl3
  have HN3 := Aside0.mk (show l3.length ≤ 3000 by rw [← hl3, List.length_append]; rw [List.length_take]; omega)
  clear hb
  clear hl3
  obtain ⟨e1, e1'⟩ := eq_b h1
  have e2 : decide ((r.f5.length : Int) < (k : Int)) = false := decide_eq_false (by omega)
  have e2n : decide (r.f5.length < k) = false := decide_eq_false (by omega)
  obtain ⟨e3, e3'⟩ := eq_b h3
  obtain ⟨e4, e4'⟩ := ne_b (show ¬ r.f4 = 0 by rw [h3]; decide)
  have e5 : decide ((k : Int) ≤ r.f6) = true := decide_eq_true h5
  have e6 : decide (r.f6 ≤ (k : Int) + (m.f7.length : Int)) = true := decide_eq_true h6
  clear h1 h3 h5 h6
  have HL := Aside0.mk hl
  have HN := Aside0.mk (show r.f5.length ≤ 1200 ∧ m.f7.length ≤ 1200 ∧ k ≤ r.f5.length ∧ m.f7.length ≤ c from ⟨hn, hlm, hkn, hlc⟩)
  have HCL := Aside0.mk hcl
  have HV := Aside0.mk (show 0 ≤ r.f2 ∧ r.f2 ≤ 4611686018427387904 from ⟨hw0, hw1⟩)
  have HI := Aside0.mk (show 0 ≤ r.f0 ∧ r.f0 < r.f1 ∧ r.f1 ≤ 5 from ⟨hi0, hi1, hn5⟩)
  have HTK := Aside0.mk (show (r.f5.take k).length = k by rw [List.length_take]; exact Nat.min_eq_left hkn)
  obtain ⟨ew, ew'⟩ := wr3 (k := k) (n := m.f7.length) (by omega) hlm
  obtain ⟨B5, d5, rfl, hd5, _⟩ := hM.row_at 1 rfl
  have HD5 := Aside0.mk hd5
  have q1 : (k : Int) ≤ (d5 : Int) := by clear e1 e1' e2 e2n; omega
  have q2 : k ≤ d5 := by clear e1 e1' e2 e2n; omega
  rw [hk]
  have M1 := Aside0.mk (hM.alloc #[.int .i64 m.f0, .int .i64 m.f1, .int .i64 m.f2, .int .i64 m.f3, .int .i64 (k : Int), .int .i64 m.f5, .int .i64 m.f6, .slice A m.f7.length c] 27)
  clear hM hl hlc hn hk hkn hlm hcl hw0 hw1 hi0 hi1 hn5 hd5
  have cM := blk_cell (M1.out.blk_at 0 rfl)
  have cG := blk_cell (M1.out.blk_at 1 rfl)
  unfold qc at cG
  go_enter Tryz.func73, Tryz.ntmps73
  go_wp2_with fail
  go_quiet (fail)
  go_upto_region 3 with (fail)
  go_cut [50] (fun s50 wx => s50 = .bool true ∧ Aside0 (Mem w0 wx (mS w (k : Int) m A c <| qS g r (.slice B5 r.f5.length d5) r.f5 r.f6 v7 v8 v9 v10 F)))
  case first =>
    go_quiet (fail)
    go_wp2_with fail
    go_meet
    case rel => exact ⟨rfl, ⟨(M1.out.drewN _).drewN _⟩⟩
  case rest =>
  obtain ⟨rfl, M3⟩ := hcut
  clear M1 cM cG
  have HM0 := Aside0.mk (blk_cell (M3.out.blk_at 0 rfl))
  have HG0 := Aside0.mk (blk_cell (M3.out.blk_at 1 rfl))
  have cM := HM0.out
  have cG := HG0.out
  unfold qc at cG
  go_wp2_with fail
  go_upto_region 4 with (fail)
  refine start_ (n := 10) (S := fun w' => (∀ j : Nat, w'.cell? ⟨w.heap.size, j, none⟩ = wc.cell? ⟨w.heap.size, j, none⟩) ∧ (∀ j : Nat, w'.cell? ⟨g, j, none⟩ = wc.cell? ⟨g, j, none⟩)) (ds := []) #[false, false, false, false, false, false, false, false, false, false] (by kernel_rfl) rfl rfl ⟨(fun j => rfl), (fun j => rfl)⟩ (fun hHeld => ?_)
  refine pure_ (i := 1) (N := some 52) (v := ?_) (a' := ?_) #[false, true, false, false, false, false, false, false, false, false] rfl rfl (by kernel_rfl) (fun _ _ _ h => h) (Or.inl ⟨by rfl, ?_⟩) ?_ ?_
  rotate_left
  · intro w'
    go_simp
    with_reducible rfl
  rotate_left
  · simp only [Act.put, List.setIfInBounds_toArray, List.set_cons_zero, List.set_cons_succ, i64_w, i32_w]
    rfl
  refine pure_ (i := 2) (N := some 53) (v := ?_) (a' := ?_) #[false, true, true, false, false, false, false, false, false, false] rfl rfl (by kernel_rfl) (fun _ _ _ h => h) (Or.inl ⟨by rfl, ?_⟩) ?_ ?_
  rotate_left
  · intro w'
    go_simp
    with_reducible rfl
  rotate_left
  · simp only [Act.put, List.setIfInBounds_toArray, List.set_cons_zero, List.set_cons_succ, i64_w, i32_w]
    rfl
  refine pure_ (i := 3) (N := some 54) (v := ?_) (a' := ?_) #[false, true, true, true, false, false, false, false, false, false] rfl rfl (by kernel_rfl) (fun _ _ _ h => h) (Or.inl ⟨by rfl, ?_⟩) ?_ ?_
  rotate_left
  · intro w'
    go_simp
    with_reducible rfl
  rotate_left
  · simp only [Act.put, List.setIfInBounds_toArray, List.set_cons_zero, List.set_cons_succ, i64_w, i32_w]
    rfl
  refine pure_ (i := 5) (N := some 56) (v := ?_) (a' := ?_) #[false, true, true, true, false, true, false, false, false, false] rfl rfl (by kernel_rfl) (fun _ _ _ h => h) (Or.inl ⟨by rfl, ?_⟩) ?_ ?_
  rotate_left
  · intro w'
    go_simp
    with_reducible rfl
  rotate_left
  · simp only [Act.put, List.setIfInBounds_toArray, List.set_cons_zero, List.set_cons_succ, i64_w, i32_w]
    rfl
  refine take_ (i := 4) (N := some 55) (v := ?_) (a' := ?_) #[false, true, true, true, true, true, false, false, false, false] rfl rfl (by kernel_rfl) (fun _ _ _ h => h) (Or.inl ⟨by rfl, ?_⟩) hHeld ?_ ?_
  rotate_left
  · rintro w' ⟨s0, s1⟩
    go_simp
    with_reducible rfl
  rotate_left
  · simp only [Act.put, List.setIfInBounds_toArray, List.set_cons_zero, List.set_cons_succ, i64_w, i32_w]
    rfl
  refine take_ (i := 6) (N := some 57) (v := ?_) (a' := ?_) #[false, true, true, true, true, true, true, false, false, false] rfl rfl (by kernel_rfl) (fun _ _ _ h => h) (Or.inl ⟨by rfl, ?_⟩) hHeld ?_ ?_
  rotate_left
  · rintro w' ⟨s0, s1⟩
    go_simp
    with_reducible rfl
  rotate_left
  · simp only [Act.put, List.setIfInBounds_toArray, List.set_cons_zero, List.set_cons_succ, i64_w, i32_w]
    rfl
  refine pure_ (i := 7) (N := some 58) (v := ?_) (a' := ?_) #[false, true, true, true, true, true, true, true, false, false] rfl rfl (by kernel_rfl) (fun _ _ _ h => h) (Or.inl ⟨by rfl, ?_⟩) ?_ ?_
  rotate_left
  · intro w'
    go_simp
    with_reducible rfl
  rotate_left
  · simp only [Act.put, List.setIfInBounds_toArray, List.set_cons_zero, List.set_cons_succ, i64_w, i32_w]
    rfl
  refine one_ (i := 0) (N := some 51) #[true, true, true, true, true, true, true, true, false, false] rfl rfl (by kernel_rfl) (by decide) (fun K hK => ?_)
  refine value_ (w1 := ?_) (v := ?_) (by rfl) rfl ?_ ?_
  rotate_left 2
  · go_simp
    constructor
    · rfl
    · rfl
  have M4 := Aside0.mk (Mem.lit (M3.out.allocAt #[] 68 wc.heap.size rfl).drew 0 kE [] rfl (Reps.none _ _) (by decide))
  refine hK.out _ _ ⟨(fun j => (blk_cell (M4.out.blk_at 1 rfl) j).trans (HM0.out j).symm), (fun j => (blk_cell (M4.out.blk_at 2 rfl) j).trans (HG0.out j).symm)⟩ (fun hHeld => ?_)
  clear hK K
  refine norm_ (a' := ?_) ?_ ?_
  rotate_left
  · show Act.put _ (some 51) _ = _
    simp only [Act.put, List.setIfInBounds_toArray, List.set_cons_zero, List.set_cons_succ, i64_w, i32_w]
    rfl
  refine one_ (i := 8) (N := some 59) #[true, true, true, true, true, true, true, true, true, false] rfl rfl (by kernel_rfl) (by decide) (fun K hK => ?_)
  refine Mem.app_step kE M4.out 0 _ [] (r.f5.take k) (by rfl) (.tmp 51) (.tmp 58) 22 68 _ _ rfl Tryz.underlying22 infoEntry rfl (by decide) (by omega) B5 k d5 (by first | rfl | simp [Act.eval, Act.put]) (by first | rfl | simp [Act.eval, Act.put]) rfl (by have q := Kd.C_take (M4.out.row_C 3 rfl) HN.out.2.2.1; rw [HTK.out] at q; exact q) (fun x cs h => h) (by have := HN.out; simp; omega) ?_
  intro v1 w4 hM
  rw [List.nil_append] at hM
  have M5 := Aside0.mk hM
  clear hM
  obtain ⟨A1, a1, he, _, _⟩ := M5.out.row_at 0 rfl
  rw [HTK.out] at he
  subst he
  refine hK.out _ _ ⟨(fun j => (blk_cell (M5.out.blk_at 1 rfl) j).trans (HM0.out j).symm), (fun j => (blk_cell (M5.out.blk_at 2 rfl) j).trans (HG0.out j).symm)⟩ (fun hHeld => ?_)
  clear hK K
  refine norm_ (a' := ?_) ?_ ?_
  rotate_left
  · show Act.put _ (some 59) _ = _
    simp only [Act.put, List.setIfInBounds_toArray, List.set_cons_zero, List.set_cons_succ, i64_w, i32_w]
    rfl
  refine pure_ (i := 9) (N := some 5) (v := ?_) (a' := ?_) #[true, true, true, true, true, true, true, true, true, true] rfl rfl (by kernel_rfl) (fun _ _ _ h => h) (Or.inl ⟨by rfl, ?_⟩) ?_ ?_
  rotate_left
  · intro w'
    go_simp
    with_reducible rfl
  rotate_left
  · simp only [Act.put, List.setIfInBounds_toArray, List.set_cons_zero, List.set_cons_succ, i64_w, i32_w]
    rfl
  refine done_ (by kernel_rfl) ?_
  (try clear hHeld)
  clear ew ew' e5 e6 q1 q2 M3 cM cG HM0 HG0 M4
  have cM := blk_cell (M5.out.blk_at 1 rfl)
  have cG := blk_cell (M5.out.blk_at 2 rfl)
  unfold qc at cG
  go_wp2_with (((with_reducible refine gate_builtin (b := .append) (xs := #[.tmp 60, .tmp 62]) rfl ?_); at_builtin; refine Mem.app kE M5.out 0 _ (r.f5.take k) m.f7 rfl (.tmp 60) (.tmp 62) 22 68 _ _ rfl Tryz.underlying22 infoEntry rfl (by decide) (by omega) A m.f7.length c rfl rfl rfl (Kd.C_below HL.out M5.out.below) (fun x cs h => h) (by rw [HTK.out]; have := HN.out; omega) ?_; intro v1 w5 hM; rw [HL3.out] at hM; have M6 := Aside0.mk hM; clear hM; obtain ⟨A3, c3, he, hc3, _⟩ := M6.out.row_at 0 rfl; subst he; have HC3 := Aside0.mk hc3; clear hc3))
  refine (Entries11_calls A3 c3 l3 _ (M6.out.row_C 0 rfl) HC3.out (Nat.le_trans HN3.out (by decide))).mono ?_
  rintro e w6 ⟨he, hb⟩
  rw [HB.out] at he
  subst he
  have M7 := Aside0.mk (M6.out.grow hb)
  clear hb M5 M6 cM cG
  have HM0 := Aside0.mk (blk_cell (M7.out.blk_at 1 rfl))
  have HG0 := Aside0.mk (blk_cell (M7.out.blk_at 2 rfl))
  have cM := HM0.out
  have cG := HG0.out
  unfold qc at cG
  go_wp2
  go_ret
  exact ⟨_, _, _, _, _, _, rfl, Mem.sel (ps := [_, _, _, _, _, _, _, _, _]) (F := F) [3, 4, 5, 6, 7, 8, 0] 9 (Mem.row_nil M7.out kM 27) rfl rfl⟩
theorem lack_a4 (w0 w : World) (F : List Res) (g : Nat) (r : Rep) (m : Msg) (v5 v7 v8 v9 v10 : Value) (A : Option Addr) (c : Nat) (hM : Mem w0 w (qS g r v5 r.f5 r.f6 v7 v8 v9 v10 F)) (k : Nat) (H0 : LogIn w0 r m A c k) (h1 : m.f3 = r.f2) (h3 : r.f4 = 2) (h5 : (k : Int) ≤ r.f6) (h6 : r.f6 ≤ (k : Int) + (m.f7.length : Int)) (hb : log (r.f5.take k ++ m.f7) = true) (s : Rep) (hs : normal r r.f2 (r.f5.take k ++ m.f7) m.f5 = s) :
    LackDoes w0 w F g m A c s [toOne s m.f1 ⟨2, 0, 0, 0, (s.f5.length : Int), 0, 0, []⟩] := by
  unfold LackDoes
  obtain ⟨hl, hlc, hn, hk, hkn, hlm, hcl, hw0, hw1, hi0, hi1, hn5⟩ := H0
  have HSS := Aside0.mk hs
  clear hs
  obtain ⟨l3, hl3⟩ : ∃ l3, r.f5.take k ++ m.f7 = l3 := ⟨_, rfl⟩
  rw [hl3] at hb
  have HB := Aside0.mk hb
  have HL3 := Aside0.mk hl3
  have HN3 := Aside0.mk (show l3.length ≤ 3000 by rw [← hl3, List.length_append]; rw [List.length_take]; omega)
  clear hb
  obtain ⟨cx, hcx⟩ : ∃ cx : Int, (if r.f1 = 1 then (l3.length : Int) else min (max r.f6 m.f5) (l3.length : Int)) = cx := ⟨_, rfl⟩
  have HCX := Aside0.mk hcx
  clear hl3 hcx
  obtain ⟨e1, e1'⟩ := eq_b h1
  have e2 : decide ((r.f5.length : Int) < (k : Int)) = false := decide_eq_false (by omega)
  have e2n : decide (r.f5.length < k) = false := decide_eq_false (by omega)
  obtain ⟨e3, e3'⟩ := eq_b h3
  obtain ⟨e4, e4'⟩ := ne_b (show ¬ r.f4 = 0 by rw [h3]; decide)
  have e5 : decide ((k : Int) ≤ r.f6) = true := decide_eq_true h5
  have e6 : decide (r.f6 ≤ (k : Int) + (m.f7.length : Int)) = true := decide_eq_true h6
  clear h1 h3 h5 h6
  have HL := Aside0.mk hl
  have HN := Aside0.mk (show r.f5.length ≤ 1200 ∧ m.f7.length ≤ 1200 ∧ k ≤ r.f5.length ∧ m.f7.length ≤ c from ⟨hn, hlm, hkn, hlc⟩)
  have HCL := Aside0.mk hcl
  have HV := Aside0.mk (show 0 ≤ r.f2 ∧ r.f2 ≤ 4611686018427387904 from ⟨hw0, hw1⟩)
  have HI := Aside0.mk (show 0 ≤ r.f0 ∧ r.f0 < r.f1 ∧ r.f1 ≤ 5 from ⟨hi0, hi1, hn5⟩)
  have HTK := Aside0.mk (show (r.f5.take k).length = k by rw [List.length_take]; exact Nat.min_eq_left hkn)
  obtain ⟨ew, ew'⟩ := wr3 (k := k) (n := m.f7.length) (by omega) hlm
  obtain ⟨B5, d5, rfl, hd5, _⟩ := hM.row_at 1 rfl
  have HD5 := Aside0.mk hd5
  have q1 : (k : Int) ≤ (d5 : Int) := by clear e1 e1' e2 e2n; omega
  have q2 : k ≤ d5 := by clear e1 e1' e2 e2n; omega
  rw [hk]
  have M1 := Aside0.mk (hM.alloc #[.int .i64 m.f0, .int .i64 m.f1, .int .i64 m.f2, .int .i64 m.f3, .int .i64 (k : Int), .int .i64 m.f5, .int .i64 m.f6, .slice A m.f7.length c] 27)
  clear hM hl hlc hn hk hkn hlm hcl hw0 hw1 hi0 hi1 hn5 hd5
  have cM := blk_cell (M1.out.blk_at 0 rfl)
  have cG := blk_cell (M1.out.blk_at 1 rfl)
  unfold qc at cG
  go_enter Tryz.func73, Tryz.ntmps73
  go_wp2_with fail
  go_quiet (fail)
  go_upto_region 3 with (fail)
  go_cut [50] (fun s50 wx => s50 = .bool true ∧ Aside0 (Mem w0 wx (mS w (k : Int) m A c <| qS g r (.slice B5 r.f5.length d5) r.f5 r.f6 v7 v8 v9 v10 F)))
  case first =>
    go_quiet (fail)
    go_wp2_with fail
    go_meet
    case rel => exact ⟨rfl, ⟨(M1.out.drewN _).drewN _⟩⟩
  case rest =>
  obtain ⟨rfl, M3⟩ := hcut
  clear M1 cM cG
  have HM0 := Aside0.mk (blk_cell (M3.out.blk_at 0 rfl))
  have HG0 := Aside0.mk (blk_cell (M3.out.blk_at 1 rfl))
  have cM := HM0.out
  have cG := HG0.out
  unfold qc at cG
  go_wp2_with fail
  go_upto_region 4 with (fail)
  refine start_ (n := 10) (S := fun w' => (∀ j : Nat, w'.cell? ⟨w.heap.size, j, none⟩ = wc.cell? ⟨w.heap.size, j, none⟩) ∧ (∀ j : Nat, w'.cell? ⟨g, j, none⟩ = wc.cell? ⟨g, j, none⟩)) (ds := []) #[false, false, false, false, false, false, false, false, false, false] (by kernel_rfl) rfl rfl ⟨(fun j => rfl), (fun j => rfl)⟩ (fun hHeld => ?_)
  refine pure_ (i := 1) (N := some 52) (v := ?_) (a' := ?_) #[false, true, false, false, false, false, false, false, false, false] rfl rfl (by kernel_rfl) (fun _ _ _ h => h) (Or.inl ⟨by rfl, ?_⟩) ?_ ?_
  rotate_left
  · intro w'
    go_simp
    with_reducible rfl
  rotate_left
  · simp only [Act.put, List.setIfInBounds_toArray, List.set_cons_zero, List.set_cons_succ, i64_w, i32_w]
    rfl
  refine pure_ (i := 2) (N := some 53) (v := ?_) (a' := ?_) #[false, true, true, false, false, false, false, false, false, false] rfl rfl (by kernel_rfl) (fun _ _ _ h => h) (Or.inl ⟨by rfl, ?_⟩) ?_ ?_
  rotate_left
  · intro w'
    go_simp
    with_reducible rfl
  rotate_left
  · simp only [Act.put, List.setIfInBounds_toArray, List.set_cons_zero, List.set_cons_succ, i64_w, i32_w]
    rfl
  refine pure_ (i := 3) (N := some 54) (v := ?_) (a' := ?_) #[false, true, true, true, false, false, false, false, false, false] rfl rfl (by kernel_rfl) (fun _ _ _ h => h) (Or.inl ⟨by rfl, ?_⟩) ?_ ?_
  rotate_left
  · intro w'
    go_simp
    with_reducible rfl
  rotate_left
  · simp only [Act.put, List.setIfInBounds_toArray, List.set_cons_zero, List.set_cons_succ, i64_w, i32_w]
    rfl
  refine pure_ (i := 5) (N := some 56) (v := ?_) (a' := ?_) #[false, true, true, true, false, true, false, false, false, false] rfl rfl (by kernel_rfl) (fun _ _ _ h => h) (Or.inl ⟨by rfl, ?_⟩) ?_ ?_
  rotate_left
  · intro w'
    go_simp
    with_reducible rfl
  rotate_left
  · simp only [Act.put, List.setIfInBounds_toArray, List.set_cons_zero, List.set_cons_succ, i64_w, i32_w]
    rfl
  refine take_ (i := 4) (N := some 55) (v := ?_) (a' := ?_) #[false, true, true, true, true, true, false, false, false, false] rfl rfl (by kernel_rfl) (fun _ _ _ h => h) (Or.inl ⟨by rfl, ?_⟩) hHeld ?_ ?_
  rotate_left
  · rintro w' ⟨s0, s1⟩
    go_simp
    with_reducible rfl
  rotate_left
  · simp only [Act.put, List.setIfInBounds_toArray, List.set_cons_zero, List.set_cons_succ, i64_w, i32_w]
    rfl
  refine take_ (i := 6) (N := some 57) (v := ?_) (a' := ?_) #[false, true, true, true, true, true, true, false, false, false] rfl rfl (by kernel_rfl) (fun _ _ _ h => h) (Or.inl ⟨by rfl, ?_⟩) hHeld ?_ ?_
  rotate_left
  · rintro w' ⟨s0, s1⟩
    go_simp
    with_reducible rfl
  rotate_left
  · simp only [Act.put, List.setIfInBounds_toArray, List.set_cons_zero, List.set_cons_succ, i64_w, i32_w]
    rfl
  refine pure_ (i := 7) (N := some 58) (v := ?_) (a' := ?_) #[false, true, true, true, true, true, true, true, false, false] rfl rfl (by kernel_rfl) (fun _ _ _ h => h) (Or.inl ⟨by rfl, ?_⟩) ?_ ?_
  rotate_left
  · intro w'
    go_simp
    with_reducible rfl
  rotate_left
  · simp only [Act.put, List.setIfInBounds_toArray, List.set_cons_zero, List.set_cons_succ, i64_w, i32_w]
    rfl
  refine one_ (i := 0) (N := some 51) #[true, true, true, true, true, true, true, true, false, false] rfl rfl (by kernel_rfl) (by decide) (fun K hK => ?_)
  refine value_ (w1 := ?_) (v := ?_) (by rfl) rfl ?_ ?_
  rotate_left 2
  · go_simp
    constructor
    · rfl
    · rfl
  have M4 := Aside0.mk (Mem.lit (M3.out.allocAt #[] 68 wc.heap.size rfl).drew 0 kE [] rfl (Reps.none _ _) (by decide))
  refine hK.out _ _ ⟨(fun j => (blk_cell (M4.out.blk_at 1 rfl) j).trans (HM0.out j).symm), (fun j => (blk_cell (M4.out.blk_at 2 rfl) j).trans (HG0.out j).symm)⟩ (fun hHeld => ?_)
  clear hK K
  refine norm_ (a' := ?_) ?_ ?_
  rotate_left
  · show Act.put _ (some 51) _ = _
    simp only [Act.put, List.setIfInBounds_toArray, List.set_cons_zero, List.set_cons_succ, i64_w, i32_w]
    rfl
  refine one_ (i := 8) (N := some 59) #[true, true, true, true, true, true, true, true, true, false] rfl rfl (by kernel_rfl) (by decide) (fun K hK => ?_)
  refine Mem.app_step kE M4.out 0 _ [] (r.f5.take k) (by rfl) (.tmp 51) (.tmp 58) 22 68 _ _ rfl Tryz.underlying22 infoEntry rfl (by decide) (by omega) B5 k d5 (by first | rfl | simp [Act.eval, Act.put]) (by first | rfl | simp [Act.eval, Act.put]) rfl (by have q := Kd.C_take (M4.out.row_C 3 rfl) HN.out.2.2.1; rw [HTK.out] at q; exact q) (fun x cs h => h) (by have := HN.out; simp; omega) ?_
  intro v1 w4 hM
  rw [List.nil_append] at hM
  have M5 := Aside0.mk hM
  clear hM
  obtain ⟨A1, a1, he, _, _⟩ := M5.out.row_at 0 rfl
  rw [HTK.out] at he
  subst he
  refine hK.out _ _ ⟨(fun j => (blk_cell (M5.out.blk_at 1 rfl) j).trans (HM0.out j).symm), (fun j => (blk_cell (M5.out.blk_at 2 rfl) j).trans (HG0.out j).symm)⟩ (fun hHeld => ?_)
  clear hK K
  refine norm_ (a' := ?_) ?_ ?_
  rotate_left
  · show Act.put _ (some 59) _ = _
    simp only [Act.put, List.setIfInBounds_toArray, List.set_cons_zero, List.set_cons_succ, i64_w, i32_w]
    rfl
  refine pure_ (i := 9) (N := some 5) (v := ?_) (a' := ?_) #[true, true, true, true, true, true, true, true, true, true] rfl rfl (by kernel_rfl) (fun _ _ _ h => h) (Or.inl ⟨by rfl, ?_⟩) ?_ ?_
  rotate_left
  · intro w'
    go_simp
    with_reducible rfl
  rotate_left
  · simp only [Act.put, List.setIfInBounds_toArray, List.set_cons_zero, List.set_cons_succ, i64_w, i32_w]
    rfl
  refine done_ (by kernel_rfl) ?_
  (try clear hHeld)
  clear ew ew' e5 e6 q1 q2 M3 cM cG HM0 HG0 M4
  have cM := blk_cell (M5.out.blk_at 1 rfl)
  have cG := blk_cell (M5.out.blk_at 2 rfl)
  unfold qc at cG
  go_wp2_with (((with_reducible refine gate_builtin (b := .append) (xs := #[.tmp 60, .tmp 62]) rfl ?_); at_builtin; refine Mem.app kE M5.out 0 _ (r.f5.take k) m.f7 rfl (.tmp 60) (.tmp 62) 22 68 _ _ rfl Tryz.underlying22 infoEntry rfl (by decide) (by omega) A m.f7.length c rfl rfl rfl (Kd.C_below HL.out M5.out.below) (fun x cs h => h) (by rw [HTK.out]; have := HN.out; omega) ?_; intro v1 w5 hM; rw [HL3.out] at hM; have M6 := Aside0.mk hM; clear hM; obtain ⟨A3, c3, he, hc3, _⟩ := M6.out.row_at 0 rfl; subst he; have HC3 := Aside0.mk hc3; clear hc3))
  refine (Entries11_calls A3 c3 l3 _ (M6.out.row_C 0 rfl) HC3.out (Nat.le_trans HN3.out (by decide))).mono ?_
  rintro e w6 ⟨he, hb⟩
  rw [HB.out] at he
  subst he
  have M7 := Aside0.mk (M6.out.grow hb)
  clear hb M5 M6 cM cG
  have HM0 := Aside0.mk (blk_cell (M7.out.blk_at 1 rfl))
  have HG0 := Aside0.mk (blk_cell (M7.out.blk_at 2 rfl))
  have cM := HM0.out
  have cG := HG0.out
  unfold qc at cG
  go_wp2_with fail
  go_upto_region 8 with (fail)
  refine start_ (n := 9) (S := fun w' => (∀ j : Nat, w'.cell? ⟨w.heap.size, j, none⟩ = w6.cell? ⟨w.heap.size, j, none⟩) ∧ (∀ j : Nat, w'.cell? ⟨g, j, none⟩ = w6.cell? ⟨g, j, none⟩)) (ds := [8]) #[false, false, false, false, false, false, false, false, false] (by kernel_rfl) rfl rfl ⟨(fun j => rfl), (fun j => rfl)⟩ (fun hHeld => ?_)
  refine pure_ (i := 0) (N := some 67) (v := ?_) (a' := ?_) #[true, false, false, false, false, false, false, false, false] rfl rfl (by kernel_rfl) (fun _ _ _ h => h) (Or.inl ⟨by rfl, ?_⟩) ?_ ?_
  rotate_left
  · intro w'
    go_simp
    with_reducible rfl
  rotate_left
  · simp only [Act.put, List.setIfInBounds_toArray, List.set_cons_zero, List.set_cons_succ, i64_w, i32_w]
    rfl
  refine pure_ (i := 1) (N := some 68) (v := ?_) (a' := ?_) #[true, true, false, false, false, false, false, false, false] rfl rfl (by kernel_rfl) (fun _ _ _ h => h) (Or.inl ⟨by rfl, ?_⟩) ?_ ?_
  rotate_left
  · intro w'
    go_simp
    with_reducible rfl
  rotate_left
  · simp only [Act.put, List.setIfInBounds_toArray, List.set_cons_zero, List.set_cons_succ, i64_w, i32_w]
    rfl
  refine pure_ (i := 2) (N := some 69) (v := ?_) (a' := ?_) #[true, true, true, false, false, false, false, false, false] rfl rfl (by kernel_rfl) (fun _ _ _ h => h) (Or.inl ⟨by rfl, ?_⟩) ?_ ?_
  rotate_left
  · intro w'
    go_simp
    with_reducible rfl
  rotate_left
  · simp only [Act.put, List.setIfInBounds_toArray, List.set_cons_zero, List.set_cons_succ, i64_w, i32_w]
    rfl
  refine pure_ (i := 3) (N := some 70) (v := ?_) (a' := ?_) #[true, true, true, true, false, false, false, false, false] rfl rfl (by kernel_rfl) (fun _ _ _ h => h) (Or.inl ⟨by rfl, ?_⟩) ?_ ?_
  rotate_left
  · intro w'
    go_simp
    with_reducible rfl
  rotate_left
  · simp only [Act.put, List.setIfInBounds_toArray, List.set_cons_zero, List.set_cons_succ, i64_w, i32_w]
    rfl
  refine pure_ (i := 4) (N := some 71) (v := ?_) (a' := ?_) #[true, true, true, true, true, false, false, false, false] rfl rfl (by kernel_rfl) (fun _ _ _ h => h) (Or.inl ⟨by rfl, ?_⟩) ?_ ?_
  rotate_left
  · intro w'
    go_simp
    with_reducible rfl
  rotate_left
  · simp only [Act.put, List.setIfInBounds_toArray, List.set_cons_zero, List.set_cons_succ, i64_w, i32_w]
    rfl
  refine pure_ (i := 6) (N := some 73) (v := ?_) (a' := ?_) #[true, true, true, true, true, false, true, false, false] rfl rfl (by kernel_rfl) (fun _ _ _ h => h) (Or.inl ⟨by rfl, ?_⟩) ?_ ?_
  rotate_left
  · intro w'
    go_simp
    with_reducible rfl
  rotate_left
  · simp only [Act.put, List.setIfInBounds_toArray, List.set_cons_zero, List.set_cons_succ, i64_w, i32_w]
    rfl
  refine take_ (i := 5) (N := some 72) (v := ?_) (a' := ?_) #[true, true, true, true, true, true, true, false, false] rfl rfl (by kernel_rfl) (fun _ _ _ h => h) (Or.inl ⟨by rfl, ?_⟩) hHeld ?_ ?_
  rotate_left
  · rintro w' ⟨s0, s1⟩
    go_simp
    with_reducible rfl
  rotate_left
  · simp only [Act.put, List.setIfInBounds_toArray, List.set_cons_zero, List.set_cons_succ, i64_w, i32_w]
    rfl
  refine take_ (i := 7) (N := some 74) (v := ?_) (a' := ?_) #[true, true, true, true, true, true, true, true, false] rfl rfl (by kernel_rfl) (fun _ _ _ h => h) (Or.inl ⟨by rfl, ?_⟩) hHeld ?_ ?_
  rotate_left
  · rintro w' ⟨s0, s1⟩
    go_simp
    with_reducible rfl
  rotate_left
  · simp only [Act.put, List.setIfInBounds_toArray, List.set_cons_zero, List.set_cons_succ, i64_w, i32_w]
    rfl
  refine last_ (i := 8) (N := some 75) #[true, true, true, true, true, true, true, true, true] rfl rfl (by kernel_rfl) (by decide) (fun K hK => ?_)
  refine goes_ Tryz.func116 (by kernel_rfl) rfl #[.pointer (some ⟨g, 0, none⟩), .slice A3 l3.length c3, .int .i64 r.f2, .int .i64 m.f5] (by rfl) rfl rfl (by simp only [List.map_toArray, List.map_cons, List.map_nil]; rfl) ?_
  with_reducible refine (normal11_calls w0 _ _ g r.f0 r.f1 r.f2 r.f3 r.f4 _ r.f6 _ _ _ _ r.f11 r.f12 r.f2 m.f5 A3 c3 l3 (Mem.sel (ps := [_, _, _, _, _, _, _, _]) (F := F) [2, 0, 1, 3, 4, 5, 6, 7] 8 M7.out.drew rfl rfl) (fun w' b hq => hq.row_C 1 rfl) (Nat.le_trans HN3.out (by decide)) HI.out.1 HI.out.2.1 HI.out.2.2 cx HCX.out).mono ?_
  rintro e w7 ⟨vl, va, rfl, hM⟩
  refine ⟨_, rfl, ?_⟩
  have M8 := Aside0.mk hM
  obtain ⟨L5, l5, rfl, hl5, _⟩ := M8.out.row_at 2 rfl
  clear hM
  refine hK.out _ _ ?_
  clear hK K
  refine norm_ (a' := ?_) ?_ ?_
  rotate_left
  · show Act.put _ (some 75) _ = _
    simp only [Act.put, List.setIfInBounds_toArray, List.set_cons_zero, List.set_cons_succ, i64_w, i32_w]
    rfl
  refine done_ (by kernel_rfl) ?_
  (try clear hHeld)
  clear cM cG HM0 HG0 M7
  have MA := Aside0.mk (Mem.sel (ps := [_, _, _, _, _, _, _, _, _, _]) (F := F) [0, 4, 1, 2] 10 M8.out rfl rfl)
  clear M8
  have HM0 := Aside0.mk (blk_cell (MA.out.blk_at 1 rfl))
  have HG0 := Aside0.mk (blk_cell (MA.out.blk_at 0 rfl))
  have cM := HM0.out
  have cG := HG0.out
  unfold qc at cG
  go_wp2_with fail
  go_upto_region 9 with (fail)
  have M2D := Aside0.mk MA.out.drew
  have HS0 := Aside0.mk (show (∀ j : Nat, w7.drew.cell? ⟨w.heap.size, j, none⟩ = w7.cell? ⟨w.heap.size, j, none⟩) ∧ (∀ j : Nat, w7.drew.cell? ⟨g, j, none⟩ = w7.cell? ⟨g, j, none⟩) from ⟨fun _ => rfl, fun _ => rfl⟩)
  have H9 := HS0
  go_region_held3 (fun w' => (∀ j : Nat, w'.cell? ⟨w.heap.size, j, none⟩ = w7.cell? ⟨w.heap.size, j, none⟩) ∧ (∀ j : Nat, w'.cell? ⟨g, j, none⟩ = w7.cell? ⟨g, j, none⟩)) (first | with_reducible exact HS0.out | with_reducible exact H9.out | fail) ((go_at_call 72; refine (one11_calls w0 _ emp _ g r.f0 r.f1 r.f2 r.f2 0 _ cx va (.slice none 0 0) (.slice none 0 0) (.slice none 0 0) (-1) 0 m.f1 2 0 0 0 (l3.length : Int) 0 0 none 0 [] (Mem.sel (ps := [_, _, _, _, _]) (F := F) [0, 1, 2, 3, 4] 5 (Mem.cons_emp M2D.out) rfl rfl) (Rd.old (C_zero _)) (by decide) (by decide)).mono ?_; rintro e w9 ⟨vo, rfl, hM⟩; obtain ⟨Bo, co, rfl, _, _⟩ := hM.row_at 0 rfl; have MB := Aside0.mk (Mem.sel (ps := [_, _, _, _, _, _]) (F := F) [0, 2, 3, 4, 5] 6 hM rfl rfl); clear hM; have H9 := Aside0.mk (show (∀ j : Nat, w9.cell? ⟨w.heap.size, j, none⟩ = w7.cell? ⟨w.heap.size, j, none⟩) ∧ (∀ j : Nat, w9.cell? ⟨g, j, none⟩ = w7.cell? ⟨g, j, none⟩) from ⟨fun j => (blk_cell (MB.out.blk_at 2 rfl) j).trans (HM0.out j).symm, fun j => (blk_cell (MB.out.blk_at 1 rfl) j).trans (HG0.out j).symm⟩)))
  go_wp2
  go_ret
  have hs := HSS.out
  have hl3 := HL3.out
  have hcx := HCX.out
  subst hs
  subst hl3
  subst hcx
  exact ⟨_, _, _, _, _, _, rfl, Mem.sel (ps := [_, _, _, _, _, _, _, _]) (F := F) [4, 7, 6, 1, 2, 0, 3] 8 (Mem.row_nil (Mem.row_nil (Mem.row_nil MB.out (Kd.int .i64) 3) (Kd.int .i64) 3) kE 68) rfl rfl⟩
end Go.Proofs.YtggbjokhniigkaaGreat.La
