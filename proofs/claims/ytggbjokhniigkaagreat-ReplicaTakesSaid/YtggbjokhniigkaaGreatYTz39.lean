/- Texts laid together: Lb. No condition. -/
import Derived.Test.YtggbjokhniigkaaGreatYTz23
set_option linter.unusedVariables false
set_option linter.unusedSimpArgs false
set_option maxRecDepth 100000
set_option maxHeartbeats 8000000
namespace Go.Proofs.YtggbjokhniigkaaGreat.Lb
open Lx Ty Go.RowKit YtggbjokhniigkaaGreatW.PrintWords YtggbjokhniigkaaGreatW.PrintLast YtggbjokhniigkaaGreatW.PrintMore Mx Kx Wa Tk Sa To Wd Wj Tn Rp
theorem wr3 {k n : Nat} (h0 : k ≤ 1200) (hn : n ≤ 1200) : IntKind.i64.wrap ((k : Int) + (n : Int)) = (k : Int) + (n : Int) ∧ wrap64 ((k : Int) + (n : Int)) = (k : Int) + (n : Int) := ⟨by rw [IntKind.wrap_i64]; omega, by unfold wrap64; omega⟩
theorem eq_b {a b : Int} (h : a = b) : (a == b) = true ∧ (a != b) = false := by simp [h]
theorem ne_b {a b : Int} (h : ¬ a = b) : (a == b) = false ∧ (a != b) = true := by simp [h]
theorem blk_ne {w0 w : World} {rs : List Res} (h : Mem w0 w rs) (i j : Nat) {g T g' T' : Nat} {cs cs' : Array Value} (hi : rs[i]? = some (blk g T cs)) (hj : rs[j]? = some (blk g' T' cs')) (hij : i ≠ j) : ¬ g = g' := by
  obtain ⟨f, q, h1, h2, _, _, h5, _⟩ := h.take2 hi hj hij
  intro e
  subst e
  exact h5 _ h1.2 h2.2
theorem sub_ {n k q : Nat} (h : n = k + q) (hn : n ≤ 1200) : wrap64 ((n : Int) - (k : Int)) = (q : Int) ∧ IntKind.i64.wrap ((n : Int) - (k : Int)) = (q : Int) := ⟨by unfold wrap64; omega, by rw [IntKind.wrap_i64]; omega⟩
theorem lack_n3 (w0 w : World) (F : List Res) (g : Nat) (r : Rep) (m : Msg) (v5 v7 v8 v9 v10 : Value) (A : Option Addr) (c : Nat) (hM : Mem w0 w (qS g r v5 r.f5 r.f6 v7 v8 v9 v10 F)) (k : Nat) (H0 : LogIn w0 r m A c k) (h1 : m.f3 = r.f2) (h4 : r.f4 = 0) (h7 : ¬ r.f2 % r.f1 = r.f0) (h8 : ¬ (r.f5.length : Int) < (k : Int) + (m.f7.length : Int)) (s : Rep) (hs : raise r m.f5 = s) :
    LackDoes w0 w F g m A c s [toOne s m.f1 ⟨2, 0, 0, 0, (s.f5.length : Int), 0, 0, []⟩] := by
  unfold LackDoes
  obtain ⟨hl, hlc, hn, hk, hkn, hlm, hcl, hw0, hw1, hi0, hi1, hn5⟩ := H0
  have HSS := Aside0.mk hs
  clear hs
  obtain ⟨e1, e1'⟩ := eq_b h1
  have e2 : decide ((r.f5.length : Int) < (k : Int)) = false := decide_eq_false (by omega)
  have e2n : decide (r.f5.length < k) = false := decide_eq_false (by omega)
  obtain ⟨e3, e3'⟩ := ne_b (show ¬ r.f4 = 2 by rw [h4]; decide)
  obtain ⟨e4, e4'⟩ := eq_b h4
  obtain ⟨e7, e7'⟩ := ne_b h7
  clear h1 h4 h7
  have e8 : decide ((r.f5.length : Int) < (k : Int) + (m.f7.length : Int)) = false := decide_eq_false h8
  have e8n : decide (r.f5.length < k + m.f7.length) = false := decide_eq_false (by omega)
  clear h8
  have HL := Aside0.mk hl
  have HN := Aside0.mk (show r.f5.length ≤ 1200 ∧ m.f7.length ≤ 1200 ∧ k ≤ r.f5.length ∧ m.f7.length ≤ c from ⟨hn, hlm, hkn, hlc⟩)
  have HCL := Aside0.mk hcl
  have HV := Aside0.mk (show 0 ≤ r.f2 ∧ r.f2 ≤ 4611686018427387904 from ⟨hw0, hw1⟩)
  have HI := Aside0.mk (show 0 ≤ r.f0 ∧ r.f0 < r.f1 ∧ r.f1 ≤ 5 from ⟨hi0, hi1, hn5⟩)
  have HTK := Aside0.mk (show (r.f5.take k).length = k by rw [List.length_take]; exact Nat.min_eq_left hkn)
  obtain ⟨ew, ew'⟩ := wr3 (k := k) (n := m.f7.length) (by omega) hlm
  obtain ⟨B5, d5, rfl, hd5, _⟩ := hM.row_at 1 rfl
  have HD5 := Aside0.mk hd5
  have q1 : (k : Int) ≤ (d5 : Int) := by clear e1 e1' e2 e2n; omega
  have q2 : k ≤ d5 := by clear e1 e1' e2 e2n; omega
  rw [hk]
  have M1 := Aside0.mk (hM.alloc #[.int .i64 m.f0, .int .i64 m.f1, .int .i64 m.f2, .int .i64 m.f3, .int .i64 (k : Int), .int .i64 m.f5, .int .i64 m.f6, .slice A m.f7.length c] 27)
  clear hM hl hlc hn hk hkn hlm hcl hw0 hw1 hi0 hi1 hn5 hd5
  have cM := blk_cell (M1.out.blk_at 0 rfl)
  have cG := blk_cell (M1.out.blk_at 1 rfl)
  unfold qc at cG
  go_enter Tryz.func73, Tryz.ntmps73
  go_wp2_with fail
  go_quiet (fail)
  go_upto_region 3 with (fail)
  go_cut [50] (fun s50 wx => s50 = .bool false ∧ Aside0 (Mem w0 wx (mS w (k : Int) m A c <| qS g r (.slice B5 r.f5.length d5) r.f5 r.f6 v7 v8 v9 v10 F)))
  case first =>
    go_quiet (fail)
    go_wp2_with fail
    go_meet
    case rel => exact ⟨rfl, ⟨(M1.out.drewN _).drewN _⟩⟩
  case rest =>
  obtain ⟨rfl, M3⟩ := hcut
  clear M1 cM cG
  have HM0 := Aside0.mk (blk_cell (M3.out.blk_at 0 rfl))
  have HG0 := Aside0.mk (blk_cell (M3.out.blk_at 1 rfl))
  have cM := HM0.out
  have cG := HG0.out
  unfold qc at cG
  go_wp2_with fail
  refine (primary11_calls _ g r.f0 r.f1 r.f2 r.f3 r.f4 _ r.f6 _ _ _ _ r.f11 r.f12 (M3.out.blk_at 1 rfl) HV.out.1 HV.out.2 (by have := HI.out; omega) HI.out.2.2).mono ?_
  rintro e w3 ⟨he, hD⟩
  rw [e7] at he
  subst he
  have M4 := Aside0.mk (M3.out.drawn hD)
  clear hD M3 cM cG HM0 HG0
  have cM := blk_cell (M4.out.blk_at 0 rfl)
  have cG := blk_cell (M4.out.blk_at 1 rfl)
  unfold qc at cG
  go_wp2_with fail
  go_upto_region 12 with (fail)
  go_cut [106] (fun s106 wx => s106 = .bool false ∧ Aside0 (Mem w0 wx (mS w (k : Int) m A c <| qS g r (.slice B5 r.f5.length d5) r.f5 r.f6 v7 v8 v9 v10 F)))
  case first =>
    go_quiet (fail)
    go_wp2_with fail
    go_meet
    case rel => exact ⟨rfl, ⟨M4.out.drewN _⟩⟩
  case rest =>
  obtain ⟨rfl, M5⟩ := hcut
  clear M4 cM cG ew ew' e8 e8n q1 q2
  have cM := blk_cell (M5.out.blk_at 0 rfl)
  have cG := blk_cell (M5.out.blk_at 1 rfl)
  unfold qc at cG
  have fG := blk_frozen (M5.out.blk_at 1 rfl)
  have hg := blk_lt (M5.out.blk_at 1 rfl)
  go_upto_region 18 with (fail)
  go_cut [] (fun wy => ∃ y : Int, Aside0 (y = max r.f6 (min m.f5 (r.f5.length : Int))) ∧ Aside0 (Mem w0 wy (mS w (k : Int) m A c <| qS g r (.slice B5 r.f5.length d5) r.f5 y v7 v8 v9 v10 F)))
  case first =>
    go_region
    all_goals
      go_wp2_with fail
      all_goals
        go_meet
        case rel => exact ⟨_, ⟨by have := HCL.out; first | omega | (split <;> omega) | (split <;> split <;> omega)⟩, ⟨(M5.out.set 1 rfl 6 _).drew⟩⟩
  case rest =>
  obtain ⟨y, HY, M7⟩ := hcut
  clear M5 cM cG fG hg
  have HM0 := Aside0.mk (blk_cell (M7.out.blk_at 0 rfl))
  have HG0 := Aside0.mk (blk_cell (M7.out.blk_at 1 rfl))
  have cM := HM0.out
  have cG := HG0.out
  unfold qc at cG
  go_wp2_with fail
  go_upto_region 19 with (fail)
  have M2D := Aside0.mk M7.out.drew
  have HS0 := Aside0.mk (show (∀ j : Nat, wc.drew.cell? ⟨w.heap.size, j, none⟩ = wc.cell? ⟨w.heap.size, j, none⟩) ∧ (∀ j : Nat, wc.drew.cell? ⟨g, j, none⟩ = wc.cell? ⟨g, j, none⟩) from ⟨fun _ => rfl, fun _ => rfl⟩)
  have H9 := HS0
  go_region_held3 (fun w' => (∀ j : Nat, w'.cell? ⟨w.heap.size, j, none⟩ = wc.cell? ⟨w.heap.size, j, none⟩) ∧ (∀ j : Nat, w'.cell? ⟨g, j, none⟩ = wc.cell? ⟨g, j, none⟩)) (first | with_reducible exact HS0.out | with_reducible exact H9.out | fail) ((go_at_call 72; refine (one11_calls w0 _ emp _ g r.f0 r.f1 r.f2 r.f3 r.f4 _ y v7 v8 v9 v10 r.f11 r.f12 m.f1 2 0 0 0 (r.f5.length : Int) 0 0 none 0 [] (Mem.sel (ps := [_, _, _, _, _, _, _, _]) (F := F) [0, 2, 1, 3, 4, 5, 6, 7] 8 (Mem.cons_emp M2D.out) rfl rfl) (Rd.old (C_zero _)) (by decide) (by decide)).mono ?_; rintro e w9 ⟨vo, rfl, hM⟩; obtain ⟨Bo, co, rfl, _, _⟩ := hM.row_at 0 rfl; have M8 := Aside0.mk (Mem.sel (ps := [_, _, _, _, _, _, _, _, _]) (F := F) [0, 2, 3, 4, 5, 6, 7, 8] 9 hM rfl rfl); clear hM; have H9 := Aside0.mk (show (∀ j : Nat, w9.cell? ⟨w.heap.size, j, none⟩ = wc.cell? ⟨w.heap.size, j, none⟩) ∧ (∀ j : Nat, w9.cell? ⟨g, j, none⟩ = wc.cell? ⟨g, j, none⟩) from ⟨fun j => (blk_cell (M8.out.blk_at 2 rfl) j).trans (HM0.out j).symm, fun j => (blk_cell (M8.out.blk_at 1 rfl) j).trans (HG0.out j).symm⟩)))
  go_wp2
  go_ret
  have hy := HY.out
  have hs := HSS.out
  subst hs
  subst hy
  exact ⟨_, _, _, _, _, _, rfl, Mem.sel (ps := [_, _, _, _, _, _, _, _]) (F := F) [1, 3, 4, 5, 6, 7, 0] 8 M8.out rfl rfl⟩
theorem lack_n1n (w0 w : World) (F : List Res) (g : Nat) (r : Rep) (m : Msg) (v5 v7 v8 v9 v10 : Value) (A : Option Addr) (c : Nat) (hM : Mem w0 w (qS g r v5 r.f5 r.f6 v7 v8 v9 v10 F)) (k : Nat) (H0 : LogIn w0 r m A c k) (h1 : m.f3 = r.f2) (h4 : r.f4 = 0) (h7 : ¬ r.f2 % r.f1 = r.f0) (q : Nat) (hq : r.f5.length = k + q) (hqp : q < m.f7.length) (hcq : ¬ c = q) (hb : log (r.f5 ++ m.f7.drop q) = false) :
    LackDoes w0 w F g m A c r [] := by
  unfold LackDoes
  obtain ⟨hl, hlc, hn, hk, hkn, hlm, hcl, hw0, hw1, hi0, hi1, hn5⟩ := H0
  obtain ⟨l3, hl3⟩ : ∃ l3, r.f5 ++ m.f7.drop q = l3 := ⟨_, rfl⟩
  rw [hl3] at hb
  have HB := Aside0.mk hb
  have HL3 := Aside0.mk hl3
  have HGE := Aside0.mk (show r.f5.length ≤ l3.length by rw [← hl3, List.length_append]; exact Nat.le_add_right _ _)
  have HN3 := Aside0.mk (show l3.length ≤ 3000 by rw [← hl3, List.length_append]; rw [List.length_drop]; omega)
  clear hb
  clear hl3
  obtain ⟨e1, e1'⟩ := eq_b h1
  have e2 : decide ((r.f5.length : Int) < (k : Int)) = false := decide_eq_false (by omega)
  have e2n : decide (r.f5.length < k) = false := decide_eq_false (by omega)
  obtain ⟨e3, e3'⟩ := ne_b (show ¬ r.f4 = 2 by rw [h4]; decide)
  obtain ⟨e4, e4'⟩ := eq_b h4
  obtain ⟨e7, e7'⟩ := ne_b h7
  clear h1 h4 h7
  have e8 : decide ((r.f5.length : Int) < (k : Int) + (m.f7.length : Int)) = true := decide_eq_true (by clear e2 e2n e3 e3' e4 e4' e7 e7'; omega)
  have e8n : decide (r.f5.length < k + m.f7.length) = true := decide_eq_true (by clear e2 e2n e3 e3' e4 e4' e7 e7'; omega)
  obtain ⟨es, es'⟩ := sub_ hq (by omega)
  have HCQ := Aside0.mk hcq
  have HDL := Aside0.mk (show (m.f7.drop q).length = m.f7.length - q from List.length_drop ..)
  have HQ := Aside0.mk (show q ≤ m.f7.length ∧ m.f7.length ≤ c from ⟨by omega, hlc⟩)
  have q3 : (0 : Int) ≤ (q : Int) := by clear e8 e2; omega
  have q4 : (q : Int) ≤ (m.f7.length : Int) := by clear e8 e2 e8n e2n; omega
  have q5 : q ≤ m.f7.length := by clear e8 e2 e8n e2n; omega
  have q6 : (m.f7.length : Int) ≤ (c : Int) := by clear e8 e2 e8n e2n; omega
  clear hq hqp
  have HL := Aside0.mk hl
  have HN := Aside0.mk (show r.f5.length ≤ 1200 ∧ m.f7.length ≤ 1200 ∧ k ≤ r.f5.length ∧ m.f7.length ≤ c from ⟨hn, hlm, hkn, hlc⟩)
  have HCL := Aside0.mk hcl
  have HV := Aside0.mk (show 0 ≤ r.f2 ∧ r.f2 ≤ 4611686018427387904 from ⟨hw0, hw1⟩)
  have HI := Aside0.mk (show 0 ≤ r.f0 ∧ r.f0 < r.f1 ∧ r.f1 ≤ 5 from ⟨hi0, hi1, hn5⟩)
  have HTK := Aside0.mk (show (r.f5.take k).length = k by rw [List.length_take]; exact Nat.min_eq_left hkn)
  obtain ⟨ew, ew'⟩ := wr3 (k := k) (n := m.f7.length) (by omega) hlm
  obtain ⟨B5, d5, rfl, hd5, _⟩ := hM.row_at 1 rfl
  have HD5 := Aside0.mk hd5
  have q1 : (k : Int) ≤ (d5 : Int) := by clear e1 e1' e2 e2n; omega
  have q2 : k ≤ d5 := by clear e1 e1' e2 e2n; omega
  rw [hk]
  have M1 := Aside0.mk (hM.alloc #[.int .i64 m.f0, .int .i64 m.f1, .int .i64 m.f2, .int .i64 m.f3, .int .i64 (k : Int), .int .i64 m.f5, .int .i64 m.f6, .slice A m.f7.length c] 27)
  clear hM hl hlc hn hk hkn hlm hcl hw0 hw1 hi0 hi1 hn5 hd5
  have cM := blk_cell (M1.out.blk_at 0 rfl)
  have cG := blk_cell (M1.out.blk_at 1 rfl)
  unfold qc at cG
  go_enter Tryz.func73, Tryz.ntmps73
  go_wp2_with fail
  go_quiet (fail)
  go_upto_region 3 with (fail)
  go_cut [50] (fun s50 wx => s50 = .bool false ∧ Aside0 (Mem w0 wx (mS w (k : Int) m A c <| qS g r (.slice B5 r.f5.length d5) r.f5 r.f6 v7 v8 v9 v10 F)))
  case first =>
    go_quiet (fail)
    go_wp2_with fail
    go_meet
    case rel => exact ⟨rfl, ⟨(M1.out.drewN _).drewN _⟩⟩
  case rest =>
  obtain ⟨rfl, M3⟩ := hcut
  clear M1 cM cG
  have HM0 := Aside0.mk (blk_cell (M3.out.blk_at 0 rfl))
  have HG0 := Aside0.mk (blk_cell (M3.out.blk_at 1 rfl))
  have cM := HM0.out
  have cG := HG0.out
  unfold qc at cG
  go_wp2_with fail
  refine (primary11_calls _ g r.f0 r.f1 r.f2 r.f3 r.f4 _ r.f6 _ _ _ _ r.f11 r.f12 (M3.out.blk_at 1 rfl) HV.out.1 HV.out.2 (by have := HI.out; omega) HI.out.2.2).mono ?_
  rintro e w3 ⟨he, hD⟩
  rw [e7] at he
  subst he
  have M4 := Aside0.mk (M3.out.drawn hD)
  clear hD M3 cM cG HM0 HG0
  have cM := blk_cell (M4.out.blk_at 0 rfl)
  have cG := blk_cell (M4.out.blk_at 1 rfl)
  unfold qc at cG
  go_wp2_with fail
  go_upto_region 12 with (fail)
  go_cut [106] (fun s106 wx => s106 = .bool true ∧ Aside0 (Mem w0 wx (mS w (k : Int) m A c <| qS g r (.slice B5 r.f5.length d5) r.f5 r.f6 v7 v8 v9 v10 F)))
  case first =>
    go_quiet (fail)
    go_wp2_with fail
    go_meet
    case rel => exact ⟨rfl, ⟨M4.out.drewN _⟩⟩
  case rest =>
  obtain ⟨rfl, M5⟩ := hcut
  clear M4 cM cG ew ew' e8 e8n q1 q2
  have cM := blk_cell (M5.out.blk_at 0 rfl)
  have cG := blk_cell (M5.out.blk_at 1 rfl)
  unfold qc at cG
  have hg := blk_lt (M5.out.blk_at 1 rfl)
  have hm := blk_lt (M5.out.blk_at 0 rfl)
  go_wp2_with (((with_reducible refine gate_builtin (b := .append) (xs := #[.tmp 107, .tmp 111]) rfl ?_); at_builtin; refine Mem.app kE ((M5.out.alloc #[] 68).lit 0 kE [] rfl (Reps.none _ _) (by decide)) 0 _ [] r.f5 rfl (.tmp 107) (.tmp 111) 22 68 _ _ rfl Tryz.underlying22 infoEntry rfl (by decide) (by omega) B5 _ d5 rfl rfl rfl (Kd.C_alloc (M5.out.row_C 2 rfl) _) (fun x cs h => h) (by have := HN.out; simp; omega) ?_; intro v1 w5 hM; rw [List.nil_append] at hM; have M6 := Aside0.mk hM; clear hM; obtain ⟨A1, a1, he, _, _⟩ := M6.out.row_at 0 rfl; subst he; have cM6 := blk_cell (M6.out.blk_at 1 rfl); have cG6 := blk_cell (M6.out.blk_at 2 rfl); unfold qc at cG6))
  clear cM cG cM6 cG6 M5 hg hm
  have HM0 := Aside0.mk (blk_cell (M6.out.blk_at 1 rfl))
  have HG0 := Aside0.mk (blk_cell (M6.out.blk_at 2 rfl))
  have cM := HM0.out
  have cG := HG0.out
  unfold qc at cG
  have HD := Aside0.mk (show Kd.C kE w5.drew (A.map (fun x => x.add (q * 2))) (m.f7.length - q) (m.f7.drop q) by
    have hd := Kd.C_drop (c := c) (Kd.C_below HL.out M6.out.drew.below) HQ.out.1 HQ.out.2
    rw [if_neg HCQ.out] at hd
    rw [HDL.out] at hd
    exact hd)
  go_upto_region 14 with (fail)
  refine start_ (n := 14) (S := fun w' => (∀ j : Nat, w'.cell? ⟨w.heap.size, j, none⟩ = w5.cell? ⟨w.heap.size, j, none⟩) ∧ (∀ j : Nat, w'.cell? ⟨g, j, none⟩ = w5.cell? ⟨g, j, none⟩)) (ds := []) #[false, false, false, false, false, false, false, false, false, false, false, false, false, false] (by kernel_rfl) rfl rfl ⟨(fun j => rfl), (fun j => rfl)⟩ (fun hHeld => ?_)
  refine pure_ (i := 0) (N := some 113) (v := ?_) (a' := ?_) #[true, false, false, false, false, false, false, false, false, false, false, false, false, false] rfl rfl (by kernel_rfl) (fun _ _ _ h => h) (Or.inl ⟨by rfl, ?_⟩) ?_ ?_
  rotate_left
  · intro w'
    go_simp
    with_reducible rfl
  rotate_left
  · simp only [Act.put, List.setIfInBounds_toArray, List.set_cons_zero, List.set_cons_succ, i64_w, i32_w]
    rfl
  refine pure_ (i := 1) (N := some 114) (v := ?_) (a' := ?_) #[true, true, false, false, false, false, false, false, false, false, false, false, false, false] rfl rfl (by kernel_rfl) (fun _ _ _ h => h) (Or.inl ⟨by rfl, ?_⟩) ?_ ?_
  rotate_left
  · intro w'
    go_simp
    with_reducible rfl
  rotate_left
  · simp only [Act.put, List.setIfInBounds_toArray, List.set_cons_zero, List.set_cons_succ, i64_w, i32_w]
    rfl
  refine pure_ (i := 3) (N := some 116) (v := ?_) (a' := ?_) #[true, true, false, true, false, false, false, false, false, false, false, false, false, false] rfl rfl (by kernel_rfl) (fun _ _ _ h => h) (Or.inl ⟨by rfl, ?_⟩) ?_ ?_
  rotate_left
  · intro w'
    go_simp
    with_reducible rfl
  rotate_left
  · simp only [Act.put, List.setIfInBounds_toArray, List.set_cons_zero, List.set_cons_succ, i64_w, i32_w]
    rfl
  refine pure_ (i := 4) (N := some 117) (v := ?_) (a' := ?_) #[true, true, false, true, true, false, false, false, false, false, false, false, false, false] rfl rfl (by kernel_rfl) (fun _ _ _ h => h) (Or.inl ⟨by rfl, ?_⟩) ?_ ?_
  rotate_left
  · intro w'
    go_simp
    with_reducible rfl
  rotate_left
  · simp only [Act.put, List.setIfInBounds_toArray, List.set_cons_zero, List.set_cons_succ, i64_w, i32_w]
    rfl
  refine pure_ (i := 5) (N := some 118) (v := ?_) (a' := ?_) #[true, true, false, true, true, true, false, false, false, false, false, false, false, false] rfl rfl (by kernel_rfl) (fun _ _ _ h => h) (Or.inl ⟨by rfl, ?_⟩) ?_ ?_
  rotate_left
  · intro w'
    go_simp
    with_reducible rfl
  rotate_left
  · simp only [Act.put, List.setIfInBounds_toArray, List.set_cons_zero, List.set_cons_succ, i64_w, i32_w]
    rfl
  refine pure_ (i := 8) (N := some 121) (v := ?_) (a' := ?_) #[true, true, false, true, true, true, false, false, true, false, false, false, false, false] rfl rfl (by kernel_rfl) (fun _ _ _ h => h) (Or.inl ⟨by rfl, ?_⟩) ?_ ?_
  rotate_left
  · intro w'
    go_simp
    with_reducible rfl
  rotate_left
  · simp only [Act.put, List.setIfInBounds_toArray, List.set_cons_zero, List.set_cons_succ, i64_w, i32_w]
    rfl
  refine take_ (i := 2) (N := some 115) (v := ?_) (a' := ?_) #[true, true, true, true, true, true, false, false, true, false, false, false, false, false] rfl rfl (by kernel_rfl) (fun _ _ _ h => h) (Or.inl ⟨by rfl, ?_⟩) hHeld ?_ ?_
  rotate_left
  · rintro w' ⟨s0, s1⟩
    go_simp
    with_reducible rfl
  rotate_left
  · simp only [Act.put, List.setIfInBounds_toArray, List.set_cons_zero, List.set_cons_succ, i64_w, i32_w]
    rfl
  refine take_ (i := 6) (N := some 119) (v := ?_) (a' := ?_) #[true, true, true, true, true, true, true, false, true, false, false, false, false, false] rfl rfl (by kernel_rfl) (fun _ _ _ h => h) (Or.inl ⟨by rfl, ?_⟩) hHeld ?_ ?_
  rotate_left
  · rintro w' ⟨s0, s1⟩
    go_simp
    with_reducible rfl
  rotate_left
  · simp only [Act.put, List.setIfInBounds_toArray, List.set_cons_zero, List.set_cons_succ, i64_w, i32_w]
    rfl
  refine pure_ (i := 7) (N := some 120) (v := ?_) (a' := ?_) #[true, true, true, true, true, true, true, true, true, false, false, false, false, false] rfl rfl (by kernel_rfl) (fun _ _ _ h => h) (Or.inl ⟨by rfl, ?_⟩) ?_ ?_
  rotate_left
  · intro w'
    go_simp
    with_reducible rfl
  rotate_left
  · simp only [Act.put, List.setIfInBounds_toArray, List.set_cons_zero, List.set_cons_succ, i64_w, i32_w]
    rfl
  refine take_ (i := 9) (N := some 122) (v := ?_) (a' := ?_) #[true, true, true, true, true, true, true, true, true, true, false, false, false, false] rfl rfl (by kernel_rfl) (fun _ _ _ h => h) (Or.inl ⟨by rfl, ?_⟩) hHeld ?_ ?_
  rotate_left
  · rintro w' ⟨s0, s1⟩
    go_simp
    with_reducible rfl
  rotate_left
  · simp only [Act.put, List.setIfInBounds_toArray, List.set_cons_zero, List.set_cons_succ, i64_w, i32_w]
    rfl
  refine pure_ (i := 10) (N := some 123) (v := ?_) (a' := ?_) #[true, true, true, true, true, true, true, true, true, true, true, false, false, false] rfl rfl (by kernel_rfl) (fun _ _ _ h => h) (Or.inl ⟨by rfl, ?_⟩) ?_ ?_
  rotate_left
  · intro w'
    go_simp
    with_reducible rfl
  rotate_left
  · simp only [Act.put, List.setIfInBounds_toArray, List.set_cons_zero, List.set_cons_succ, i64_w, i32_w]
    rfl
  refine pure_ (i := 11) (N := some 124) (v := ?_) (a' := ?_) #[true, true, true, true, true, true, true, true, true, true, true, true, false, false] rfl rfl (by kernel_rfl) (fun _ _ _ h => h) (Or.inl ⟨by rfl, ?_⟩) ?_ ?_
  rotate_left
  · intro w'
    go_simp
    with_reducible rfl
  rotate_left
  · simp only [Act.put, List.setIfInBounds_toArray, List.set_cons_zero, List.set_cons_succ, i64_w, i32_w]
    rfl
  refine one_ (i := 12) (N := some 125) #[true, true, true, true, true, true, true, true, true, true, true, true, true, false] rfl rfl (by kernel_rfl) (by decide) (fun K hK => ?_)
  refine Mem.app_step kE M6.out.drew 0 _ r.f5 (m.f7.drop q) (by rfl) (.tmp 113) (.tmp 124) 22 68 _ _ rfl Tryz.underlying22 infoEntry rfl (by decide) (by omega) (A.map (fun x => x.add (q * 2))) (m.f7.length - q) (c - q) (by first | rfl | simp [Act.eval, Act.put]) (by first | rfl | simp [Act.eval, Act.put]) rfl HD.out (fun x cs h => h) (by have := HN.out; omega) ?_
  intro v1 w6 hM
  rw [HL3.out] at hM
  have M7 := Aside0.mk hM
  clear hM
  obtain ⟨A3, c3, he, hc3, _⟩ := M7.out.row_at 0 rfl
  have HC3 := Aside0.mk hc3
  subst he
  clear hc3
  refine hK.out _ _ ⟨(fun j => (blk_cell (M7.out.blk_at 1 rfl) j).trans (HM0.out j).symm), (fun j => (blk_cell (M7.out.blk_at 2 rfl) j).trans (HG0.out j).symm)⟩ (fun hHeld => ?_)
  clear hK K
  refine norm_ (a' := ?_) ?_ ?_
  rotate_left
  · show Act.put _ (some 125) _ = _
    simp only [Act.put, List.setIfInBounds_toArray, List.set_cons_zero, List.set_cons_succ, i64_w, i32_w]
    rfl
  refine pure_ (i := 13) (N := some 6) (v := ?_) (a' := ?_) #[true, true, true, true, true, true, true, true, true, true, true, true, true, true] rfl rfl (by kernel_rfl) (fun _ _ _ h => h) (Or.inl ⟨by rfl, ?_⟩) ?_ ?_
  rotate_left
  · intro w'
    go_simp
    with_reducible rfl
  rotate_left
  · simp only [Act.put, List.setIfInBounds_toArray, List.set_cons_zero, List.set_cons_succ, i64_w, i32_w]
    rfl
  refine done_ (by kernel_rfl) ?_
  (try clear hHeld)
  clear es es' q3 q4 q5 q6 M6 cM cG HM0 HG0 HD
  go_wp2_with fail
  refine (Entries11_calls A3 c3 l3 _ (M7.out.row_C 0 rfl) HC3.out (Nat.le_trans HN3.out (by decide))).mono ?_
  rintro e w7 ⟨he, hb⟩
  rw [HB.out] at he
  subst he
  have M8 := Aside0.mk (M7.out.grow hb)
  clear hb M7
  go_wp2
  go_ret
  exact ⟨_, _, _, _, _, _, rfl, Mem.sel (ps := [_, _, _, _, _, _, _, _, _]) (F := F) [3, 4, 5, 6, 7, 8, 0] 9 (Mem.row_nil M8.out kM 27) rfl rfl⟩
theorem lack_n2n (w0 w : World) (F : List Res) (g : Nat) (r : Rep) (m : Msg) (v5 v7 v8 v9 v10 : Value) (A : Option Addr) (c : Nat) (hM : Mem w0 w (qS g r v5 r.f5 r.f6 v7 v8 v9 v10 F)) (k : Nat) (H0 : LogIn w0 r m A c k) (h1 : m.f3 = r.f2) (h4 : r.f4 = 0) (h7 : ¬ r.f2 % r.f1 = r.f0) (q : Nat) (hq : r.f5.length = k + q) (hqp : q < m.f7.length) (hcq : ¬ c = q) (hb : log (r.f5 ++ m.f7.drop q) = true) (s : Rep) (hs : raise { r with f5 := r.f5 ++ m.f7.drop q } m.f5 = s) :
    LackDoes w0 w F g m A c s [toOne s m.f1 ⟨2, 0, 0, 0, (s.f5.length : Int), 0, 0, []⟩] := by
  unfold LackDoes
  obtain ⟨hl, hlc, hn, hk, hkn, hlm, hcl, hw0, hw1, hi0, hi1, hn5⟩ := H0
  have HSS := Aside0.mk hs
  clear hs
  obtain ⟨l3, hl3⟩ : ∃ l3, r.f5 ++ m.f7.drop q = l3 := ⟨_, rfl⟩
  rw [hl3] at hb
  have HB := Aside0.mk hb
  have HL3 := Aside0.mk hl3
  have HGE := Aside0.mk (show r.f5.length ≤ l3.length by rw [← hl3, List.length_append]; exact Nat.le_add_right _ _)
  have HN3 := Aside0.mk (show l3.length ≤ 3000 by rw [← hl3, List.length_append]; rw [List.length_drop]; omega)
  clear hb
  clear hl3
  obtain ⟨e1, e1'⟩ := eq_b h1
  have e2 : decide ((r.f5.length : Int) < (k : Int)) = false := decide_eq_false (by omega)
  have e2n : decide (r.f5.length < k) = false := decide_eq_false (by omega)
  obtain ⟨e3, e3'⟩ := ne_b (show ¬ r.f4 = 2 by rw [h4]; decide)
  obtain ⟨e4, e4'⟩ := eq_b h4
  obtain ⟨e7, e7'⟩ := ne_b h7
  clear h1 h4 h7
  have e8 : decide ((r.f5.length : Int) < (k : Int) + (m.f7.length : Int)) = true := decide_eq_true (by clear e2 e2n e3 e3' e4 e4' e7 e7'; omega)
  have e8n : decide (r.f5.length < k + m.f7.length) = true := decide_eq_true (by clear e2 e2n e3 e3' e4 e4' e7 e7'; omega)
  obtain ⟨es, es'⟩ := sub_ hq (by omega)
  have HCQ := Aside0.mk hcq
  have HDL := Aside0.mk (show (m.f7.drop q).length = m.f7.length - q from List.length_drop ..)
  have HQ := Aside0.mk (show q ≤ m.f7.length ∧ m.f7.length ≤ c from ⟨by omega, hlc⟩)
  have q3 : (0 : Int) ≤ (q : Int) := by clear e8 e2; omega
  have q4 : (q : Int) ≤ (m.f7.length : Int) := by clear e8 e2 e8n e2n; omega
  have q5 : q ≤ m.f7.length := by clear e8 e2 e8n e2n; omega
  have q6 : (m.f7.length : Int) ≤ (c : Int) := by clear e8 e2 e8n e2n; omega
  clear hq hqp
  have HL := Aside0.mk hl
  have HN := Aside0.mk (show r.f5.length ≤ 1200 ∧ m.f7.length ≤ 1200 ∧ k ≤ r.f5.length ∧ m.f7.length ≤ c from ⟨hn, hlm, hkn, hlc⟩)
  have HCL := Aside0.mk hcl
  have HV := Aside0.mk (show 0 ≤ r.f2 ∧ r.f2 ≤ 4611686018427387904 from ⟨hw0, hw1⟩)
  have HI := Aside0.mk (show 0 ≤ r.f0 ∧ r.f0 < r.f1 ∧ r.f1 ≤ 5 from ⟨hi0, hi1, hn5⟩)
  have HTK := Aside0.mk (show (r.f5.take k).length = k by rw [List.length_take]; exact Nat.min_eq_left hkn)
  obtain ⟨ew, ew'⟩ := wr3 (k := k) (n := m.f7.length) (by omega) hlm
  obtain ⟨B5, d5, rfl, hd5, _⟩ := hM.row_at 1 rfl
  have HD5 := Aside0.mk hd5
  have q1 : (k : Int) ≤ (d5 : Int) := by clear e1 e1' e2 e2n; omega
  have q2 : k ≤ d5 := by clear e1 e1' e2 e2n; omega
  rw [hk]
  have M1 := Aside0.mk (hM.alloc #[.int .i64 m.f0, .int .i64 m.f1, .int .i64 m.f2, .int .i64 m.f3, .int .i64 (k : Int), .int .i64 m.f5, .int .i64 m.f6, .slice A m.f7.length c] 27)
  clear hM hl hlc hn hk hkn hlm hcl hw0 hw1 hi0 hi1 hn5 hd5
  have cM := blk_cell (M1.out.blk_at 0 rfl)
  have cG := blk_cell (M1.out.blk_at 1 rfl)
  unfold qc at cG
  go_enter Tryz.func73, Tryz.ntmps73
  go_wp2_with fail
  go_quiet (fail)
  go_upto_region 3 with (fail)
  go_cut [50] (fun s50 wx => s50 = .bool false ∧ Aside0 (Mem w0 wx (mS w (k : Int) m A c <| qS g r (.slice B5 r.f5.length d5) r.f5 r.f6 v7 v8 v9 v10 F)))
  case first =>
    go_quiet (fail)
    go_wp2_with fail
    go_meet
    case rel => exact ⟨rfl, ⟨(M1.out.drewN _).drewN _⟩⟩
  case rest =>
  obtain ⟨rfl, M3⟩ := hcut
  clear M1 cM cG
  have HM0 := Aside0.mk (blk_cell (M3.out.blk_at 0 rfl))
  have HG0 := Aside0.mk (blk_cell (M3.out.blk_at 1 rfl))
  have cM := HM0.out
  have cG := HG0.out
  unfold qc at cG
  go_wp2_with fail
  refine (primary11_calls _ g r.f0 r.f1 r.f2 r.f3 r.f4 _ r.f6 _ _ _ _ r.f11 r.f12 (M3.out.blk_at 1 rfl) HV.out.1 HV.out.2 (by have := HI.out; omega) HI.out.2.2).mono ?_
  rintro e w3 ⟨he, hD⟩
  rw [e7] at he
  subst he
  have M4 := Aside0.mk (M3.out.drawn hD)
  clear hD M3 cM cG HM0 HG0
  have cM := blk_cell (M4.out.blk_at 0 rfl)
  have cG := blk_cell (M4.out.blk_at 1 rfl)
  unfold qc at cG
  go_wp2_with fail
  go_upto_region 12 with (fail)
  go_cut [106] (fun s106 wx => s106 = .bool true ∧ Aside0 (Mem w0 wx (mS w (k : Int) m A c <| qS g r (.slice B5 r.f5.length d5) r.f5 r.f6 v7 v8 v9 v10 F)))
  case first =>
    go_quiet (fail)
    go_wp2_with fail
    go_meet
    case rel => exact ⟨rfl, ⟨M4.out.drewN _⟩⟩
  case rest =>
  obtain ⟨rfl, M5⟩ := hcut
  clear M4 cM cG ew ew' e8 e8n q1 q2
  have cM := blk_cell (M5.out.blk_at 0 rfl)
  have cG := blk_cell (M5.out.blk_at 1 rfl)
  unfold qc at cG
  have hg := blk_lt (M5.out.blk_at 1 rfl)
  have hm := blk_lt (M5.out.blk_at 0 rfl)
  go_wp2_with (((with_reducible refine gate_builtin (b := .append) (xs := #[.tmp 107, .tmp 111]) rfl ?_); at_builtin; refine Mem.app kE ((M5.out.alloc #[] 68).lit 0 kE [] rfl (Reps.none _ _) (by decide)) 0 _ [] r.f5 rfl (.tmp 107) (.tmp 111) 22 68 _ _ rfl Tryz.underlying22 infoEntry rfl (by decide) (by omega) B5 _ d5 rfl rfl rfl (Kd.C_alloc (M5.out.row_C 2 rfl) _) (fun x cs h => h) (by have := HN.out; simp; omega) ?_; intro v1 w5 hM; rw [List.nil_append] at hM; have M6 := Aside0.mk hM; clear hM; obtain ⟨A1, a1, he, _, _⟩ := M6.out.row_at 0 rfl; subst he; have cM6 := blk_cell (M6.out.blk_at 1 rfl); have cG6 := blk_cell (M6.out.blk_at 2 rfl); unfold qc at cG6))
  clear cM cG cM6 cG6 M5 hg hm
  have HM0 := Aside0.mk (blk_cell (M6.out.blk_at 1 rfl))
  have HG0 := Aside0.mk (blk_cell (M6.out.blk_at 2 rfl))
  have cM := HM0.out
  have cG := HG0.out
  unfold qc at cG
  have HD := Aside0.mk (show Kd.C kE w5.drew (A.map (fun x => x.add (q * 2))) (m.f7.length - q) (m.f7.drop q) by
    have hd := Kd.C_drop (c := c) (Kd.C_below HL.out M6.out.drew.below) HQ.out.1 HQ.out.2
    rw [if_neg HCQ.out] at hd
    rw [HDL.out] at hd
    exact hd)
  go_upto_region 14 with (fail)
  refine start_ (n := 14) (S := fun w' => (∀ j : Nat, w'.cell? ⟨w.heap.size, j, none⟩ = w5.cell? ⟨w.heap.size, j, none⟩) ∧ (∀ j : Nat, w'.cell? ⟨g, j, none⟩ = w5.cell? ⟨g, j, none⟩)) (ds := []) #[false, false, false, false, false, false, false, false, false, false, false, false, false, false] (by kernel_rfl) rfl rfl ⟨(fun j => rfl), (fun j => rfl)⟩ (fun hHeld => ?_)
  refine pure_ (i := 0) (N := some 113) (v := ?_) (a' := ?_) #[true, false, false, false, false, false, false, false, false, false, false, false, false, false] rfl rfl (by kernel_rfl) (fun _ _ _ h => h) (Or.inl ⟨by rfl, ?_⟩) ?_ ?_
  rotate_left
  · intro w'
    go_simp
    with_reducible rfl
  rotate_left
  · simp only [Act.put, List.setIfInBounds_toArray, List.set_cons_zero, List.set_cons_succ, i64_w, i32_w]
    rfl
  refine pure_ (i := 1) (N := some 114) (v := ?_) (a' := ?_) #[true, true, false, false, false, false, false, false, false, false, false, false, false, false] rfl rfl (by kernel_rfl) (fun _ _ _ h => h) (Or.inl ⟨by rfl, ?_⟩) ?_ ?_
  rotate_left
  · intro w'
    go_simp
    with_reducible rfl
  rotate_left
  · simp only [Act.put, List.setIfInBounds_toArray, List.set_cons_zero, List.set_cons_succ, i64_w, i32_w]
    rfl
  refine pure_ (i := 3) (N := some 116) (v := ?_) (a' := ?_) #[true, true, false, true, false, false, false, false, false, false, false, false, false, false] rfl rfl (by kernel_rfl) (fun _ _ _ h => h) (Or.inl ⟨by rfl, ?_⟩) ?_ ?_
  rotate_left
  · intro w'
    go_simp
    with_reducible rfl
  rotate_left
  · simp only [Act.put, List.setIfInBounds_toArray, List.set_cons_zero, List.set_cons_succ, i64_w, i32_w]
    rfl
  refine pure_ (i := 4) (N := some 117) (v := ?_) (a' := ?_) #[true, true, false, true, true, false, false, false, false, false, false, false, false, false] rfl rfl (by kernel_rfl) (fun _ _ _ h => h) (Or.inl ⟨by rfl, ?_⟩) ?_ ?_
  rotate_left
  · intro w'
    go_simp
    with_reducible rfl
  rotate_left
  · simp only [Act.put, List.setIfInBounds_toArray, List.set_cons_zero, List.set_cons_succ, i64_w, i32_w]
    rfl
  refine pure_ (i := 5) (N := some 118) (v := ?_) (a' := ?_) #[true, true, false, true, true, true, false, false, false, false, false, false, false, false] rfl rfl (by kernel_rfl) (fun _ _ _ h => h) (Or.inl ⟨by rfl, ?_⟩) ?_ ?_
  rotate_left
  · intro w'
    go_simp
    with_reducible rfl
  rotate_left
  · simp only [Act.put, List.setIfInBounds_toArray, List.set_cons_zero, List.set_cons_succ, i64_w, i32_w]
    rfl
  refine pure_ (i := 8) (N := some 121) (v := ?_) (a' := ?_) #[true, true, false, true, true, true, false, false, true, false, false, false, false, false] rfl rfl (by kernel_rfl) (fun _ _ _ h => h) (Or.inl ⟨by rfl, ?_⟩) ?_ ?_
  rotate_left
  · intro w'
    go_simp
    with_reducible rfl
  rotate_left
  · simp only [Act.put, List.setIfInBounds_toArray, List.set_cons_zero, List.set_cons_succ, i64_w, i32_w]
    rfl
  refine take_ (i := 2) (N := some 115) (v := ?_) (a' := ?_) #[true, true, true, true, true, true, false, false, true, false, false, false, false, false] rfl rfl (by kernel_rfl) (fun _ _ _ h => h) (Or.inl ⟨by rfl, ?_⟩) hHeld ?_ ?_
  rotate_left
  · rintro w' ⟨s0, s1⟩
    go_simp
    with_reducible rfl
  rotate_left
  · simp only [Act.put, List.setIfInBounds_toArray, List.set_cons_zero, List.set_cons_succ, i64_w, i32_w]
    rfl
  refine take_ (i := 6) (N := some 119) (v := ?_) (a' := ?_) #[true, true, true, true, true, true, true, false, true, false, false, false, false, false] rfl rfl (by kernel_rfl) (fun _ _ _ h => h) (Or.inl ⟨by rfl, ?_⟩) hHeld ?_ ?_
  rotate_left
  · rintro w' ⟨s0, s1⟩
    go_simp
    with_reducible rfl
  rotate_left
  · simp only [Act.put, List.setIfInBounds_toArray, List.set_cons_zero, List.set_cons_succ, i64_w, i32_w]
    rfl
  refine pure_ (i := 7) (N := some 120) (v := ?_) (a' := ?_) #[true, true, true, true, true, true, true, true, true, false, false, false, false, false] rfl rfl (by kernel_rfl) (fun _ _ _ h => h) (Or.inl ⟨by rfl, ?_⟩) ?_ ?_
  rotate_left
  · intro w'
    go_simp
    with_reducible rfl
  rotate_left
  · simp only [Act.put, List.setIfInBounds_toArray, List.set_cons_zero, List.set_cons_succ, i64_w, i32_w]
    rfl
  refine take_ (i := 9) (N := some 122) (v := ?_) (a' := ?_) #[true, true, true, true, true, true, true, true, true, true, false, false, false, false] rfl rfl (by kernel_rfl) (fun _ _ _ h => h) (Or.inl ⟨by rfl, ?_⟩) hHeld ?_ ?_
  rotate_left
  · rintro w' ⟨s0, s1⟩
    go_simp
    with_reducible rfl
  rotate_left
  · simp only [Act.put, List.setIfInBounds_toArray, List.set_cons_zero, List.set_cons_succ, i64_w, i32_w]
    rfl
  refine pure_ (i := 10) (N := some 123) (v := ?_) (a' := ?_) #[true, true, true, true, true, true, true, true, true, true, true, false, false, false] rfl rfl (by kernel_rfl) (fun _ _ _ h => h) (Or.inl ⟨by rfl, ?_⟩) ?_ ?_
  rotate_left
  · intro w'
    go_simp
    with_reducible rfl
  rotate_left
  · simp only [Act.put, List.setIfInBounds_toArray, List.set_cons_zero, List.set_cons_succ, i64_w, i32_w]
    rfl
  refine pure_ (i := 11) (N := some 124) (v := ?_) (a' := ?_) #[true, true, true, true, true, true, true, true, true, true, true, true, false, false] rfl rfl (by kernel_rfl) (fun _ _ _ h => h) (Or.inl ⟨by rfl, ?_⟩) ?_ ?_
  rotate_left
  · intro w'
    go_simp
    with_reducible rfl
  rotate_left
  · simp only [Act.put, List.setIfInBounds_toArray, List.set_cons_zero, List.set_cons_succ, i64_w, i32_w]
    rfl
  refine one_ (i := 12) (N := some 125) #[true, true, true, true, true, true, true, true, true, true, true, true, true, false] rfl rfl (by kernel_rfl) (by decide) (fun K hK => ?_)
  refine Mem.app_step kE M6.out.drew 0 _ r.f5 (m.f7.drop q) (by rfl) (.tmp 113) (.tmp 124) 22 68 _ _ rfl Tryz.underlying22 infoEntry rfl (by decide) (by omega) (A.map (fun x => x.add (q * 2))) (m.f7.length - q) (c - q) (by first | rfl | simp [Act.eval, Act.put]) (by first | rfl | simp [Act.eval, Act.put]) rfl HD.out (fun x cs h => h) (by have := HN.out; omega) ?_
  intro v1 w6 hM
  rw [HL3.out] at hM
  have M7 := Aside0.mk hM
  clear hM
  obtain ⟨A3, c3, he, hc3, _⟩ := M7.out.row_at 0 rfl
  have HC3 := Aside0.mk hc3
  subst he
  clear hc3
  refine hK.out _ _ ⟨(fun j => (blk_cell (M7.out.blk_at 1 rfl) j).trans (HM0.out j).symm), (fun j => (blk_cell (M7.out.blk_at 2 rfl) j).trans (HG0.out j).symm)⟩ (fun hHeld => ?_)
  clear hK K
  refine norm_ (a' := ?_) ?_ ?_
  rotate_left
  · show Act.put _ (some 125) _ = _
    simp only [Act.put, List.setIfInBounds_toArray, List.set_cons_zero, List.set_cons_succ, i64_w, i32_w]
    rfl
  refine pure_ (i := 13) (N := some 6) (v := ?_) (a' := ?_) #[true, true, true, true, true, true, true, true, true, true, true, true, true, true] rfl rfl (by kernel_rfl) (fun _ _ _ h => h) (Or.inl ⟨by rfl, ?_⟩) ?_ ?_
  rotate_left
  · intro w'
    go_simp
    with_reducible rfl
  rotate_left
  · simp only [Act.put, List.setIfInBounds_toArray, List.set_cons_zero, List.set_cons_succ, i64_w, i32_w]
    rfl
  refine done_ (by kernel_rfl) ?_
  (try clear hHeld)
  clear es es' q3 q4 q5 q6 M6 cM cG HM0 HG0 HD
  go_wp2_with fail
  refine (Entries11_calls A3 c3 l3 _ (M7.out.row_C 0 rfl) HC3.out (Nat.le_trans HN3.out (by decide))).mono ?_
  rintro e w7 ⟨he, hb⟩
  rw [HB.out] at he
  subst he
  have M8 := Aside0.mk (M7.out.grow hb)
  clear hb M7
  have cM := blk_cell (M8.out.blk_at 1 rfl)
  have cG := blk_cell (M8.out.blk_at 2 rfl)
  have fG := blk_frozen (M8.out.blk_at 2 rfl)
  have hg := blk_lt (M8.out.blk_at 2 rfl)
  unfold qc at cG
  go_wp2_with fail
  go_upto_region 18 with (fail)
  have M9 := Aside0.mk (Mem.sel (ps := [_, _, _, _, _, _, _, _]) (F := F) [1, 2, 0, 4, 5, 6, 7] 8 (M8.out.set 2 rfl 5 (.slice A3 l3.length c3)) rfl rfl)
  obtain ⟨wz, hwz⟩ : ∃ wz : World, w7.setCell ⟨g, 5, none⟩ (.slice A3 l3.length c3) = wz := ⟨_, rfl⟩
  rw [hwz] at M9 ⊢
  clear hwz M8 cM cG fG hg
  have cM := blk_cell (M9.out.blk_at 0 rfl)
  have cG := blk_cell (M9.out.blk_at 1 rfl)
  unfold qc at cG
  have fG := blk_frozen (M9.out.blk_at 1 rfl)
  have hg := blk_lt (M9.out.blk_at 1 rfl)
  go_upto_region 18 with (fail)
  go_cut [] (fun wy => ∃ y : Int, Aside0 (y = max r.f6 (min m.f5 (l3.length : Int))) ∧ Aside0 (Mem w0 wy (mS w (k : Int) m A c <| qS g r (.slice A3 l3.length c3) l3 y v7 v8 v9 v10 F)))
  case first =>
    go_region
    all_goals
      go_wp2_with fail
      all_goals
        go_meet
        case rel => exact ⟨_, ⟨by have := HCL.out; have := HN3.out; have := HGE.out; first | omega | (split <;> omega) | (split <;> split <;> omega)⟩, ⟨(M9.out.set 1 rfl 6 _).drew⟩⟩
  case rest =>
  obtain ⟨y, HY, M7⟩ := hcut
  clear M9 cM cG fG hg
  have HM0 := Aside0.mk (blk_cell (M7.out.blk_at 0 rfl))
  have HG0 := Aside0.mk (blk_cell (M7.out.blk_at 1 rfl))
  have cM := HM0.out
  have cG := HG0.out
  unfold qc at cG
  go_wp2_with fail
  go_upto_region 19 with (fail)
  have M2D := Aside0.mk M7.out.drew
  have HS0 := Aside0.mk (show (∀ j : Nat, wc.drew.cell? ⟨w.heap.size, j, none⟩ = wc.cell? ⟨w.heap.size, j, none⟩) ∧ (∀ j : Nat, wc.drew.cell? ⟨g, j, none⟩ = wc.cell? ⟨g, j, none⟩) from ⟨fun _ => rfl, fun _ => rfl⟩)
  have H9 := HS0
  go_region_held3 (fun w' => (∀ j : Nat, w'.cell? ⟨w.heap.size, j, none⟩ = wc.cell? ⟨w.heap.size, j, none⟩) ∧ (∀ j : Nat, w'.cell? ⟨g, j, none⟩ = wc.cell? ⟨g, j, none⟩)) (first | with_reducible exact HS0.out | with_reducible exact H9.out | fail) ((go_at_call 72; refine (one11_calls w0 _ emp _ g r.f0 r.f1 r.f2 r.f3 r.f4 _ y v7 v8 v9 v10 r.f11 r.f12 m.f1 2 0 0 0 (l3.length : Int) 0 0 none 0 [] (Mem.sel (ps := [_, _, _, _, _, _, _, _]) (F := F) [0, 2, 1, 3, 4, 5, 6, 7] 8 (Mem.cons_emp M2D.out) rfl rfl) (Rd.old (C_zero _)) (by decide) (by decide)).mono ?_; rintro e w9 ⟨vo, rfl, hM⟩; obtain ⟨Bo, co, rfl, _, _⟩ := hM.row_at 0 rfl; have M8 := Aside0.mk (Mem.sel (ps := [_, _, _, _, _, _, _, _, _]) (F := F) [0, 2, 3, 4, 5, 6, 7, 8] 9 hM rfl rfl); clear hM; have H9 := Aside0.mk (show (∀ j : Nat, w9.cell? ⟨w.heap.size, j, none⟩ = wc.cell? ⟨w.heap.size, j, none⟩) ∧ (∀ j : Nat, w9.cell? ⟨g, j, none⟩ = wc.cell? ⟨g, j, none⟩) from ⟨fun j => (blk_cell (M8.out.blk_at 2 rfl) j).trans (HM0.out j).symm, fun j => (blk_cell (M8.out.blk_at 1 rfl) j).trans (HG0.out j).symm⟩)))
  go_wp2
  go_ret
  have hy := HY.out
  have hs := HSS.out
  have hl3 := HL3.out
  subst hl3
  subst hs
  subst hy
  exact ⟨_, _, _, _, _, _, rfl, Mem.sel (ps := [_, _, _, _, _, _, _, _]) (F := F) [1, 3, 4, 5, 6, 7, 0] 8 M8.out rfl rfl⟩
end Go.Proofs.YtggbjokhniigkaaGreat.Lb
