/- Texts laid together: Pr0, Pr1, Pr2, Wj, Lx, Tx, Ta. No condition. -/
import Derived.Deep.RegionHeld3
import Derived.Defers
import Derived.Recover
import Derived.Laws.Pointers
import Derived.KernelRfl
import Derived.Test.YtggbjokhniigkaaYGz6
set_option linter.unusedVariables false
set_option linter.unusedSimpArgs false
set_option maxRecDepth 100000
set_option maxHeartbeats 8000000
namespace Go.Proofs.Ytggbjokhniigkaa.PReplicaProposes
open Go.RowKit YtggbjokhniigkaaW.PrintWords YtggbjokhniigkaaW.PrintLast YtggbjokhniigkaaW.PrintMore
attribute [local go_sem] max2_int min2_int max_two min_two max_three min_three max_four min_four   -- for this text's walks alone
attribute [local go_sem high] eqA102
/-! ### falseworklaw11_num: function 28 -/
def falseworklaw11_num.f (a0 : Int) : Option (Int) := some a0
theorem falseworklaw11_num.calls (a0 : Int) (r : Int) (w : World) (h : falseworklaw11_num.f a0 = some r) :
    Calls Try.prog 28 #[.int .i64 a0] w fun e w' => e = .returned (.int .i64 r) ∧ Drawn0 w w' := by
  have H : (some a0) = some r := h
  clear h
  obtain rfl := Option.some.inj H
  go_enter Try.func28, Try.ntmps28
  go_wp2
  go_ret
  exact ⟨by first | rfl | (simp; done) | (simp [*]; done), by repeat (first | exact Drawn0.refl _ | apply Drawn0.step)⟩
/-! ### falseworkref11_odd: function 65 -/
/-! ### falseworklaw11_entries: function 40 -/
def falseworklaw11_entries.l0 : Nat → List (S102) → Int → Int → Option (Bool)
  | 0, _, _, _ => none
  | k + 1, x0, x3, x4 => if x4 < (x0.length : Int) then (if x3 ≤ 100000 then (if 0 ≤ x4 then (falseworklaw11_entries.l0 k x0 (wrap64 ((wrap64 (x3 + 1)) + (mn (((rd_T102 x0 x4).f1).size : Int) 100000))) (wrap64 (x4 + 1))) else (none)) else (if x3 > 100000 then (some true) else (some (decide ((x0.length : Int) > 1200))))) else (if x3 > 100000 then (some true) else (some (decide ((x0.length : Int) > 1200))))
def falseworklaw11_entries.f (k : Nat) (l0 : List (S102)) : Option (Bool) := falseworklaw11_entries.l0 k l0 0 0
theorem falseworklaw11_entries.mono_l : ∀ k, (∀ y0 y1 y2, LeO (falseworklaw11_entries.l0 k y0 y1 y2) (falseworklaw11_entries.l0 (k + 1) y0 y1 y2))
  | 0 => fun _ _ _ r h => by simp [falseworklaw11_entries.l0] at h
  | k + 1 => by
    have ih0 := falseworklaw11_entries.mono_l k
    · intro y0 y1 y2
      unfold falseworklaw11_entries.l0
      repeat' first
      | (with_reducible exact ih0 _ _ _)
      | (with_reducible exact LeO.refl _)
      | (with_reducible exact LeO.none _)
      | (with_reducible refine LeO.ite ?_ ?_)
      | (with_reducible refine LeO.bind ?_ (fun _ => ?_))
      | exact ih0 _ _ _
      | exact LeO.none _
      | refine LeO.ite ?_ ?_
      | refine LeO.bind ?_ (fun _ => ?_)
theorem falseworklaw11_entries.mono : ∀ a0 k, LeO (falseworklaw11_entries.f k a0) (falseworklaw11_entries.f (k + 1) a0) := by
  intro a0 k
  have ih0 := falseworklaw11_entries.mono_l k
  unfold falseworklaw11_entries.f
  repeat' first
      | (with_reducible exact ih0 _ _ _)
      | (with_reducible exact LeO.refl _)
      | (with_reducible exact LeO.none _)
      | (with_reducible refine LeO.ite ?_ ?_)
      | (with_reducible refine LeO.bind ?_ (fun _ => ?_))
      | exact ih0 _ _ _
      | exact LeO.none _
      | refine LeO.ite ?_ ?_
      | refine LeO.bind ?_ (fun _ => ?_)
theorem falseworklaw11_entries.calls (k : Nat) (A0 : Option Addr) (c0 : Nat) (l0 : List (S102)) (r : Bool) (w : World) (hr0 : Kd.C k102 w A0 l0.length l0) (hc0 : l0.length ≤ c0) (h : falseworklaw11_entries.f k l0 = some r) :
    Calls Try.prog 40 #[.slice A0 l0.length c0] w fun e w' => e = .returned (.bool r) ∧ Below w.heap.size w w' := by
  have HR0 := Aside0.mk hr0
  have HC0 := Aside0.mk hc0
  clear hr0 hc0
  have HB := Aside0.mk (Below.refl w.heap.size w)
  have H : (falseworklaw11_entries.l0 k l0 0 0) = some r := h
  clear h
  have H' := Aside0.mk H
  clear H
  go_enter Try.func40, Try.ntmps40
  go_wp2
  go_loopg [3, 4] k (fun kq v3 v4 w' => ∃ (x3_1 : Int) (x4_1 : Int), v3 = .int .i64 x3_1 ∧ v4 = .int .i64 x4_1 ∧ Aside0 (falseworklaw11_entries.l0 kq l0 x3_1 x4_1 = some r) ∧ Aside0 (kq ≤ k) ∧ Aside0 (Below w.heap.size w w'))
  case atStart => exact ⟨(0), (0), (by first | rfl | (simp; done) | (simp [*]; done)), (by first | rfl | (simp; done) | (simp [*]; done)), H', ⟨Nat.le_refl _⟩, ⟨by repeat (first | (with_reducible first | exact HB.out | apply below_alloc | apply pw_below_drewN | apply below_drew1) | exact HB.out)⟩⟩
  case round =>
    clear H'
    obtain ⟨x3_1, x4_1, rfl, rfl, HA, HK1, HB⟩ := hrel
    cases gk with
    | zero => exact absurd HA.out (by simp [falseworklaw11_entries.l0])
    | succ k1 =>
      have H := HA.out
      clear HA
      simp only [falseworklaw11_entries.l0] at H
      by_cases c2 : x4_1 < (l0.length : Int)
      · rw [if_pos c2] at H
        have c2b0 : decide (x4_1 < (l0.length : Int)) = true := decide_eq_true c2
        clear c2
        by_cases c3 : x3_1 ≤ 100000
        · rw [if_pos c3] at H
          have c3b0 : decide (x3_1 ≤ 100000) = true := decide_eq_true c3
          clear c3
          by_cases c4 : 0 ≤ x4_1
          · rw [if_pos c4] at H
            have c4b0 : decide (0 ≤ x4_1) = true := decide_eq_true c4
            clear c4
            obtain ⟨ji5, hji5⟩ : ∃ j_ : Int, (mn (((rd_T102 l0 x4_1).f1).size : Int) 100000) = j_ := ⟨_, rfl⟩
            replace H : (falseworklaw11_entries.l0 k1 l0 (wrap64 ((wrap64 (x3_1 + 1)) + (ji5))) (wrap64 (x4_1 + 1))) = some r := by first | (rw [hji5] at H; exact H) | (simp only [hji5] at H ⊢; exact H)
            have hji5_ : (if 100000 < (((rd_T102 l0 x4_1).f1).size : Int) then 100000 else (((rd_T102 l0 x4_1).f1).size : Int)) = ji5 := hji5
            have H' := Aside0.mk H
            clear H
            have p192 : 0 ≤ (x4_1 : Int) := of_decide_eq_true (by first | (with_reducible assumption) | assumption)
            have q192 : x4_1 < (l0.length : Int) := of_decide_eq_true (by first | (with_reducible assumption) | assumption)
            obtain ⟨ad192, e192, hx192_0, hx192_1⟩ := at_T102 HR0.out x4_1 p192 q192
            cases e192
            replace hx192_0 := (HB.out.cell (World.block_lt_of_cell? w _ hx192_0)).trans hx192_0
            replace hx192_1 := (HB.out.cell (World.block_lt_of_cell? w _ hx192_1)).trans hx192_1
            replace p192 := eq_true p192
            replace q192 := eq_true q192
            go_wp2
            go_roundg k1
            case measure => have := HK1.out; omega
            case rel => exact ⟨(wrap64 ((wrap64 (x3_1 + 1)) + (ji5))), (wrap64 (x4_1 + 1)), (by first | rfl | (simp; done) | (simp only [← hji5] <;> (first | rfl | simp)) | (simp [*]; done)), (by first | rfl | (simp; done) | (simp [*]; done)), H', ⟨by have := HK1.out; omega⟩, ⟨by repeat (first | (with_reducible first | exact HB.out | apply below_alloc | apply pw_below_drewN | apply below_drew1) | exact HB.out)⟩⟩
          · rw [if_neg c4] at H
            exact absurd H (by simp)
        · rw [if_neg c3] at H
          have c3b0 : decide (x3_1 ≤ 100000) = false := decide_eq_false c3
          clear c3
          by_cases c6 : x3_1 > 100000
          · rw [if_pos c6] at H
            have c6b0 : decide (100000 < x3_1) = true := decide_eq_true c6
            clear c6
            obtain rfl := Option.some.inj H
            go_wp2
            go_ret
            exact ⟨by first | rfl | (simp [errW_none, errW_some] <;> rfl) | (simp [*, errW_none, errW_some] <;> rfl), by repeat (first | (with_reducible first | exact HB.out | apply below_alloc | apply pw_below_drewN | apply below_drew1) | exact HB.out)⟩
          · rw [if_neg c6] at H
            have c6b0 : decide (100000 < x3_1) = false := decide_eq_false c6
            clear c6
            obtain rfl := Option.some.inj H
            go_wp2
            go_ret
            exact ⟨by first | rfl | (simp [errW_none, errW_some] <;> rfl) | (simp [*, errW_none, errW_some] <;> rfl), by repeat (first | (with_reducible first | exact HB.out | apply below_alloc | apply pw_below_drewN | apply below_drew1) | exact HB.out)⟩
      · rw [if_neg c2] at H
        have c2b0 : decide (x4_1 < (l0.length : Int)) = false := decide_eq_false c2
        clear c2
        by_cases c7 : x3_1 > 100000
        · rw [if_pos c7] at H
          have c7b0 : decide (100000 < x3_1) = true := decide_eq_true c7
          clear c7
          obtain rfl := Option.some.inj H
          go_wp2
          go_ret
          exact ⟨by first | rfl | (simp [errW_none, errW_some] <;> rfl) | (simp [*, errW_none, errW_some] <;> rfl), by repeat (first | (with_reducible first | exact HB.out | apply below_alloc | apply pw_below_drewN | apply below_drew1) | exact HB.out)⟩
        · rw [if_neg c7] at H
          have c7b0 : decide (100000 < x3_1) = false := decide_eq_false c7
          clear c7
          obtain rfl := Option.some.inj H
          go_wp2
          go_ret
          exact ⟨by first | rfl | (simp [errW_none, errW_some] <;> rfl) | (simp [*, errW_none, errW_some] <;> rfl), by repeat (first | (with_reducible first | exact HB.out | apply below_alloc | apply pw_below_drewN | apply below_drew1) | exact HB.out)⟩
end Go.Proofs.Ytggbjokhniigkaa.PReplicaProposes
namespace Go.Proofs.Ytggbjokhniigkaa.PReplicaProposes
end Go.Proofs.Ytggbjokhniigkaa.PReplicaProposes
namespace Go.Proofs.Ytggbjokhniigkaa.PReplicaProposes
end Go.Proofs.Ytggbjokhniigkaa.PReplicaProposes
namespace Go.Proofs.Ytggbjokhniigkaa.Wj
open Ty Go.RowKit YtggbjokhniigkaaW.PrintWords YtggbjokhniigkaaW.PrintLast YtggbjokhniigkaaW.PrintMore Mx Kx Wa Wb Wc Wd We Wf PReplicaProposes
abbrev SE := S102
def toS (e : Entry) : SE := ⟨e.f0, e.f1⟩
theorem C_toS {w : World} {A : Option Addr} {n : Nat} {l : List Entry} (h : Kd.C kE w A n l) : Kd.C k102 w A n (l.map toS) := by
  obtain ⟨h1, h2, h3⟩ := h
  refine ⟨by rw [List.length_map]; exact h1, by first | exact h2 | (rw [List.length_map]; exact h2), fun hp => ?_⟩
  obtain ⟨ad, e, hc⟩ := h3 hp
  refine ⟨ad, e, fun j p hj => ?_⟩
  rw [List.getElem?_map] at hj
  cases hl : l[j]? with
  | none => rw [hl] at hj; cases hj
  | some x =>
    rw [hl] at hj
    obtain rfl : toS x = p := by simpa using hj
    obtain ⟨c, g1, g2, g3⟩ := hc j x hl
    refine ⟨c, g1, ?_, g3⟩
    obtain rfl := kE_open g2
    exact k102_mk w (toS x)
theorem C_zero {α : Type} {w : World} {A : Option Addr} (d : Kd α) : Kd.C d w A 0 [] := ⟨rfl, by decide, fun h => absurd h (by decide)⟩
theorem R_form {α : Type} {d : Kd α} {e : Nat} {w w' : World} {v : Value} {xs : List α} {ok : Nat → Prop} (hb : Below w.heap.size w w') (h : d.R e w' w.heap.size ok v xs) : ∃ A c, v = .slice A xs.length c ∧ xs.length ≤ c ∧ d.C w' A xs.length xs :=
  ((Mem.nil w).fresh hb h).row_at 0 rfl
theorem wrap64_id {x : Int} (h : -9000000000000000000 ≤ x) (h2 : x ≤ 9000000000000000000) : wrap64 x = x := by
  unfold wrap64
  go_num
theorem wrap1 (j : Nat) (h : j ≤ 100000000) : wrap64 ((j : Int) + 1) = ((j + 1 : Nat) : Int) := by
  rw [wrap64_id (by omega) (by omega)]
  push_cast
  rfl
end Go.Proofs.Ytggbjokhniigkaa.Wj
namespace Go.Proofs.Ytggbjokhniigkaa.Lx
open Ty Go.RowKit YtggbjokhniigkaaW.PrintWords YtggbjokhniigkaaW.PrintLast YtggbjokhniigkaaW.PrintMore Mx Kx Wa Tk We Sa Tl Wj Wd
abbrev wS (g : Nat) (r : Rep) (v5 : Value) (l5 : List Entry) (cm : Int) (v7 v8 v9 v10 vo : Value) (out : List Msg) (F : List Res) : List Res :=
  blk g 99 (Wa.wc r.f0 r.f1 r.f2 r.f3 r.f4 v5 cm v7 v8 v9 v10 r.f11 r.f12 vo) :: row kM 29 vo out :: row kE 102 v5 l5 :: row (Kd.int .i64) 3 v7 r.f7 :: row (Kd.int .i64) 3 v8 r.f8 :: row (Kd.int .i64) 3 v9 r.f9 :: row kE 102 v10 r.f10 :: F
abbrev mS (w : World) (x : Int) (m : Msg) (A : Option Addr) (c : Nat) (L : List Res) : List Res :=
  blk w.heap.size 29 #[.int .i64 m.f0, .int .i64 m.f1, .int .i64 m.f2, .int .i64 m.f3, .int .i64 x, .int .i64 m.f5, .int .i64 m.f6, .slice A m.f7.length c] :: L
theorem commit_calls (w0 w : World) (F : List Res) (g : Nat) (i n vw nr hw : Int) (A5 : Option Addr) (n5 c5 : Nat) (cm : Int) (va vv vo vb : Value) (bv bd : Int) (vout : Value) (k : Int)
    (hM : Mem w0 w (blk g 99 (Wa.wc i n vw nr hw (.slice A5 n5 c5) cm va vv vo vb bv bd vout) :: F)) (x : Int) (hx : max cm (min k (n5 : Int)) = x) :
    Calls Try.prog 106 #[.pointer (some ⟨g, 0, none⟩), .int .i64 k] w fun e w' => e = .returned (.tuple #[]) ∧ Mem w0 w' (blk g 99 (Wa.wc i n vw nr hw (.slice A5 n5 c5) x va vv vo vb bv bd vout) :: F) := by
  have HX := Aside0.mk hx
  have M1 := Aside0.mk hM
  have cG := blk_cell (hM.blk_at 0 rfl)
  have fG := blk_frozen (hM.blk_at 0 rfl)
  have hg := blk_lt (hM.blk_at 0 rfl)
  unfold Wa.wc at cG
  clear hM hx
  go_enter Try.func106, Try.ntmps106
  go_region
  all_goals
    go_wp2_with fail
    all_goals
      first | go_end0 | (refine bodyPost_ret (results_none rfl _ _ _) rfl ?_)
      have hx := HX.out
      clear cG fG hg
      first
        | (have e : x = (n5 : Int) := by omega
           subst e
           exact ⟨rfl, (M1.out.set 0 rfl 6 (.int .i64 (n5 : Int))).drew⟩)
        | (have e : x = cm := by omega
           subst e
           exact ⟨rfl, (M1.out.set 0 rfl 6 (.int .i64 x)).drew⟩)
        | (have e : x = k := by omega
           subst e
           exact ⟨rfl, (M1.out.set 0 rfl 6 (.int .i64 x)).drew⟩)
def LogDoes (w0 w : World) (F : List Res) (g : Nat) (m : Msg) (A : Option Addr) (c : Nat) (s : Rep) (out : List Msg) : Prop :=
  Calls Try.prog 102 #[.pointer (some ⟨g, 0, none⟩), .agg #[.int .i64 m.f0, .int .i64 m.f1, .int .i64 m.f2, .int .i64 m.f3, .int .i64 m.f4, .int .i64 m.f5, .int .i64 m.f6, .slice A m.f7.length c]] w fun e w' => e = .returned (.tuple #[]) ∧ ∃ v5' v7' v8' v9' v10' vout' : Value, Mem w0 w' (wS g s v5' s.f5 s.f6 v7' v8' v9' v10' vout' out F)
structure IdleIn (r : Rep) (m : Msg) : Prop where
  hx : 0 ≤ m.f4
  hx1 : m.f4 ≤ 4611686018427387904
  hlm : m.f7.length ≤ 1200
  hw0 : 0 ≤ r.f2
  hw1 : r.f2 ≤ 4611686018427387904
  hn0 : 0 < r.f1
  hn5 : r.f1 ≤ 5
structure LogIn (w0 : World) (r : Rep) (m : Msg) (A : Option Addr) (c k : Nat) : Prop where
  hl : Kd.C kE w0 A m.f7.length m.f7
  hlc : m.f7.length ≤ c
  hn : r.f5.length ≤ 1200
  hk : m.f4 = (k : Int)
  hkn : k ≤ r.f5.length
  hlm : m.f7.length ≤ 1200
  hcl : r.f6 ≤ (r.f5.length : Int)
  hw0 : 0 ≤ r.f2
  hw1 : r.f2 ≤ 4611686018427387904
  hi0 : 0 ≤ r.f0
  hi1 : r.f0 < r.f1
  hn5 : r.f1 ≤ 5
end Go.Proofs.Ytggbjokhniigkaa.Lx
namespace Go.Proofs.Ytggbjokhniigkaa.Tx
open Ty Go.RowKit YtggbjokhniigkaaW.PrintWords YtggbjokhniigkaaW.PrintLast YtggbjokhniigkaaW.PrintMore Mx Kx Wa Wb Wc Wd
theorem Take_e2 (r : Rep) (m : Msg) (A5 A7 A8 A9 A10 A : Option Addr) (c5 c7 c8 c9 c10 c : Nat) (w : World) (h : RdRep w r A5 A7 A8 A9 A10) (hn : Small r) (hl : Kd.C kE w A m.f7.length m.f7) (h1 : may r = true) (hT : ∀ (w0 w : World) (F : List Res) (g : Nat) (v5 v7 v8 v9 v10 : Value), Mem w0 w (blk g 99 (Wa.wc r.f0 r.f1 r.f2 r.f3 r.f4 v5 r.f6 v7 v8 v9 v10 r.f11 r.f12 (.slice none 0 0)) :: row kM 29 (.slice none 0 0) [] :: Kx.sL r v5 v7 v8 v9 v10 F) → Kd.C kE w0 A m.f7.length m.f7 → Calls Try.prog 86 #[.pointer (some ⟨g, 0, none⟩), .agg (Kx.mA m A c)] w fun e w' => e = .returned (.bool false) ∧ Mem w0 w' (blk g 99 (Wa.wc r.f0 r.f1 r.f2 r.f3 r.f4 v5 r.f6 v7 v8 v9 v10 r.f11 r.f12 (.slice none 0 0)) :: row kM 29 (.slice none 0 0) [] :: Kx.sL r v5 v7 v8 v9 v10 F)) :
    Calls Try.prog 42 #[.agg (rc r (.slice A5 r.f5.length c5) (.slice A7 r.f7.length c7) (.slice A8 r.f8.length c8) (.slice A9 r.f9.length c9) (.slice A10 r.f10.length c10)), .agg (Kx.mA m A c)] w fun e w' => ∃ v5 v7 v8 v9 v10 vout : Value, e = .returned (.tuple #[.agg (rc r v5 v7 v8 v9 v10), vout, .int .i64 1]) ∧ Mem w w' (rows r v5 v7 v8 v9 v10 ++ [row kM 29 vout []]) := by
  have E1 := Aside0.mk h1
  replace hT := Aside0.mk hT
  clear h1
  have H := Aside0.mk h
  have HN := Aside0.mk hn
  have HL := Aside0.mk hl
  have M1 := Aside0.mk ((((Mem.nil w).alloc (Kx.rA r A5 A7 A8 A9 A10 c5 c7 c8 c9 c10) 45).allocAt (Kx.mA m A c) 29 (w.heap.size + 1) (by simp)).allocAt #[.int .i64 0, .int .i64 0, .int .i64 0, .int .i64 0, .int .i64 0, .slice none 0 0, .int .i64 0, .slice none 0 0, .slice none 0 0, .slice none 0 0, .slice none 0 0, .int .i64 0, .int .i64 0] 45 (w.heap.size + 2) (by simp))
  clear h hn hl
  unfold rc
  go_enter Try.func42, Try.ntmps42
  go_wp2_with fail
  refine (copied_calls r A5 A7 A8 A9 A10 c5 c7 c8 c9 c10 _ (H.out.below M1.out.below) HN.out).mono ?_
  rintro e w2 ⟨v5, v7, v8, v9, v10, rfl, hM⟩
  unfold rc
  obtain ⟨B5, d5, rfl, _, _⟩ := hM.row_at 0 rfl
  obtain ⟨B7, d7, rfl, _, _⟩ := hM.row_at 1 rfl
  obtain ⟨B8, d8, rfl, _, _⟩ := hM.row_at 2 rfl
  obtain ⟨B9, d9, rfl, _, _⟩ := hM.row_at 3 rfl
  obtain ⟨B10, d10, rfl, _, _⟩ := hM.row_at 4 rfl
  have M3 := Aside0.mk (Mem.sel (ps := [_, _, _, _, _, _, _, _]) (F := []) [0, 1, 2, 3, 4, 5, 6, 7] 8 (M1.out.trans hM) rfl rfl)
  clear hM M1
  have hb0 := blk_lt (M3.out.blk_at 5 rfl)
  have hb1 := blk_lt (M3.out.blk_at 6 rfl)
  have hb2 := blk_lt (M3.out.blk_at 7 rfl)
  have M4 := Aside0.mk (M3.out.allocAt #[.int .i64 r.f0, .int .i64 r.f1, .int .i64 r.f2, .int .i64 r.f3, .int .i64 r.f4, .slice B5 r.f5.length d5, .int .i64 r.f6, .slice B7 r.f7.length d7, .slice B8 r.f8.length d8, .slice B9 r.f9.length d9, .slice B10 r.f10.length d10, .int .i64 r.f11, .int .i64 r.f12, .slice none 0 0] 99 w2.heap.size rfl)
  clear M3
  have cR := blk_cell (M4.out.blk_at 8 rfl)
  go_wp2_with fail
  refine (May_calls r A5 A7 A8 A9 A10 c5 c7 c8 c9 c10 _ (Kd.C_below H.out.h5 M4.out.below) (Kd.C_below H.out.h7 M4.out.below) (Kd.C_below H.out.h8 M4.out.below) (Kd.C_below H.out.h9 M4.out.below) (Kd.C_below H.out.h10 M4.out.below) HN.out).mono ?_
  rintro e w3 ⟨he, hM⟩
  rw [E1.out] at he
  subst he
  have M5 := Aside0.mk (Mem.sel (ps := [_, _, _, _, _, _, _, _, _]) (F := []) [0, 1, 2, 3, 4, 5, 6, 7, 8] 9 (M4.out.trans hM) rfl rfl)
  clear hM M4 cR hb0 hb1 hb2
  have cR := blk_cell (M5.out.blk_at 8 rfl)
  have cM := blk_cell (M5.out.blk_at 7 rfl)
  have cZ := blk_cell (M5.out.blk_at 6 rfl)
  have fZ := blk_frozen (M5.out.blk_at 6 rfl)
  have hbW := blk_lt (M5.out.blk_at 0 rfl)
  have hbZ := blk_lt (M5.out.blk_at 6 rfl)
  go_wp2_with fail
  refine (hT.out w _ [_, _, _] w2.heap.size _ _ _ _ _ (Mem.sel (ps := [_, _, _, _, _, _, _, _, _, _]) (F := []) [1, 0, 2, 3, 4, 5, 6, 7, 8, 9] 10 (Mem.row_nil M5.out kM 29) rfl rfl) HL.out).mono ?_
  rintro e w4 ⟨rfl, hM⟩
  have M7 := Aside0.mk hM
  clear hM M5 cR cM cZ fZ hbW hbZ
  have cR := blk_cell (M7.out.blk_at 9 rfl)
  go_wp2_with fail
  refine (copied_calls r A5 A7 A8 A9 A10 c5 c7 c8 c9 c10 _ (H.out.below M7.out.below) HN.out).mono ?_
  rintro e w5 ⟨v5, v7, v8, v9, v10, rfl, hM⟩
  unfold rc
  obtain ⟨C5, e5, rfl, _, _⟩ := hM.row_at 0 rfl
  obtain ⟨C7, e7, rfl, _, _⟩ := hM.row_at 1 rfl
  obtain ⟨C8, e8, rfl, _, _⟩ := hM.row_at 2 rfl
  obtain ⟨C9, e9, rfl, _, _⟩ := hM.row_at 3 rfl
  obtain ⟨C10, e10, rfl, _, _⟩ := hM.row_at 4 rfl
  have M6 := Aside0.mk (M7.out.trans hM)
  clear hM M7
  have cZ := blk_cell (M6.out.blk_at 12 rfl)
  have fZ := blk_frozen (M6.out.blk_at 12 rfl)
  have hbZ := blk_lt (M6.out.blk_at 12 rfl)
  go_wp2_with fail
  all_goals
    have MF := (M6.out.setRow 12 rfl [.int .i64 r.f0, .int .i64 r.f1, .int .i64 r.f2, .int .i64 r.f3, .int .i64 r.f4, .slice C5 r.f5.length e5, .int .i64 r.f6, .slice C7 r.f7.length e7, .slice C8 r.f8.length e8, .slice C9 r.f9.length e9, .slice C10 r.f10.length e10, .int .i64 r.f11, .int .i64 r.f12] rfl)
    have hgF := MF.blk_at 12 rfl
    refine bodyPost_ret (results_list (rs := [.cell 4 45, .tmp 5, .tmp 6]) rfl (by simp) (.cell (w.heap.size + 2) 45 #[.int .i64 r.f0, .int .i64 r.f1, .int .i64 r.f2, .int .i64 r.f3, .int .i64 r.f4, .slice C5 r.f5.length e5, .int .i64 r.f6, .slice C7 r.f7.length e7, .slice C8 r.f8.length e8, .slice C9 r.f9.length e9, .slice C10 r.f10.length e10, .int .i64 r.f11, .int .i64 r.f12] (0, 0) _ rfl hgF Try.underlying45 rfl (by kernel_rfl) (.tmp (.tmp .nil)))) rfl ?_
    exact ⟨_, _, _, _, _, _, rfl, Mem.sel (ps := [_, _, _, _, _, _, _, _, _, _, _, _, _, _, _, _]) (F := []) [1, 2, 3, 4, 5, 0] 16 (Mem.row_nil MF kM 29) rfl rfl⟩
theorem Take_ok (r : Rep) (m : Msg) (A5 A7 A8 A9 A10 A : Option Addr) (c5 c7 c8 c9 c10 c : Nat) (w : World) (h : RdRep w r A5 A7 A8 A9 A10) (hn : Small r) (hl : Kd.C kE w A m.f7.length m.f7) (h1 : may r = true) (s : Rep) (out : List Msg) (hT : ∀ (w0 w : World) (F : List Res) (g : Nat) (v5 v7 v8 v9 v10 : Value), Mem w0 w (blk g 99 (Wa.wc r.f0 r.f1 r.f2 r.f3 r.f4 v5 r.f6 v7 v8 v9 v10 r.f11 r.f12 (.slice none 0 0)) :: row kM 29 (.slice none 0 0) [] :: Kx.sL r v5 v7 v8 v9 v10 F) → Kd.C kE w0 A m.f7.length m.f7 → Calls Try.prog 86 #[.pointer (some ⟨g, 0, none⟩), .agg (Kx.mA m A c)] w fun e w' => e = .returned (.bool true) ∧ ∃ v5' v7' v8' v9' v10' vout' : Value, Mem w0 w' (blk g 99 (Wa.wc s.f0 s.f1 s.f2 s.f3 s.f4 v5' s.f6 v7' v8' v9' v10' s.f11 s.f12 vout') :: row kM 29 vout' out :: Kx.sL s v5' v7' v8' v9' v10' F)) :
    Calls Try.prog 42 #[.agg (rc r (.slice A5 r.f5.length c5) (.slice A7 r.f7.length c7) (.slice A8 r.f8.length c8) (.slice A9 r.f9.length c9) (.slice A10 r.f10.length c10)), .agg (Kx.mA m A c)] w fun e w' => ∃ v5 v7 v8 v9 v10 vout : Value, e = .returned (.tuple #[.agg (rc s v5 v7 v8 v9 v10), vout, .int .i64 0]) ∧ Mem w w' (rows s v5 v7 v8 v9 v10 ++ [row kM 29 vout out]) := by
  have E1 := Aside0.mk h1
  replace hT := Aside0.mk hT
  clear h1
  have H := Aside0.mk h
  have HN := Aside0.mk hn
  have HL := Aside0.mk hl
  have M1 := Aside0.mk ((((Mem.nil w).alloc (Kx.rA r A5 A7 A8 A9 A10 c5 c7 c8 c9 c10) 45).allocAt (Kx.mA m A c) 29 (w.heap.size + 1) (by simp)).allocAt #[.int .i64 0, .int .i64 0, .int .i64 0, .int .i64 0, .int .i64 0, .slice none 0 0, .int .i64 0, .slice none 0 0, .slice none 0 0, .slice none 0 0, .slice none 0 0, .int .i64 0, .int .i64 0] 45 (w.heap.size + 2) (by simp))
  clear h hn hl
  unfold rc
  go_enter Try.func42, Try.ntmps42
  go_wp2_with fail
  refine (copied_calls r A5 A7 A8 A9 A10 c5 c7 c8 c9 c10 _ (H.out.below M1.out.below) HN.out).mono ?_
  rintro e w2 ⟨v5, v7, v8, v9, v10, rfl, hM⟩
  unfold rc
  obtain ⟨B5, d5, rfl, _, _⟩ := hM.row_at 0 rfl
  obtain ⟨B7, d7, rfl, _, _⟩ := hM.row_at 1 rfl
  obtain ⟨B8, d8, rfl, _, _⟩ := hM.row_at 2 rfl
  obtain ⟨B9, d9, rfl, _, _⟩ := hM.row_at 3 rfl
  obtain ⟨B10, d10, rfl, _, _⟩ := hM.row_at 4 rfl
  have M3 := Aside0.mk (Mem.sel (ps := [_, _, _, _, _, _, _, _]) (F := []) [0, 1, 2, 3, 4, 5, 6, 7] 8 (M1.out.trans hM) rfl rfl)
  clear hM M1
  have hb0 := blk_lt (M3.out.blk_at 5 rfl)
  have hb1 := blk_lt (M3.out.blk_at 6 rfl)
  have hb2 := blk_lt (M3.out.blk_at 7 rfl)
  have M4 := Aside0.mk (M3.out.allocAt #[.int .i64 r.f0, .int .i64 r.f1, .int .i64 r.f2, .int .i64 r.f3, .int .i64 r.f4, .slice B5 r.f5.length d5, .int .i64 r.f6, .slice B7 r.f7.length d7, .slice B8 r.f8.length d8, .slice B9 r.f9.length d9, .slice B10 r.f10.length d10, .int .i64 r.f11, .int .i64 r.f12, .slice none 0 0] 99 w2.heap.size rfl)
  clear M3
  have cR := blk_cell (M4.out.blk_at 8 rfl)
  go_wp2_with fail
  refine (May_calls r A5 A7 A8 A9 A10 c5 c7 c8 c9 c10 _ (Kd.C_below H.out.h5 M4.out.below) (Kd.C_below H.out.h7 M4.out.below) (Kd.C_below H.out.h8 M4.out.below) (Kd.C_below H.out.h9 M4.out.below) (Kd.C_below H.out.h10 M4.out.below) HN.out).mono ?_
  rintro e w3 ⟨he, hM⟩
  rw [E1.out] at he
  subst he
  have M5 := Aside0.mk (Mem.sel (ps := [_, _, _, _, _, _, _, _, _]) (F := []) [0, 1, 2, 3, 4, 5, 6, 7, 8] 9 (M4.out.trans hM) rfl rfl)
  clear hM M4 cR hb0 hb1 hb2
  have cR := blk_cell (M5.out.blk_at 8 rfl)
  have cM := blk_cell (M5.out.blk_at 7 rfl)
  have cZ := blk_cell (M5.out.blk_at 6 rfl)
  have fZ := blk_frozen (M5.out.blk_at 6 rfl)
  have hbW := blk_lt (M5.out.blk_at 0 rfl)
  have hbZ := blk_lt (M5.out.blk_at 6 rfl)
  go_wp2_with fail
  refine (hT.out w _ [_, _, _] w2.heap.size _ _ _ _ _ (Mem.sel (ps := [_, _, _, _, _, _, _, _, _, _]) (F := []) [1, 0, 2, 3, 4, 5, 6, 7, 8, 9] 10 (Mem.row_nil M5.out kM 29) rfl rfl) HL.out).mono ?_
  rintro e w4 ⟨rfl, v5, v7, v8, v9, v10, vo, hM⟩
  obtain ⟨Co, eo, rfl, _, _⟩ := hM.row_at 1 rfl
  obtain ⟨C5, e5, rfl, _, _⟩ := hM.row_at 2 rfl
  obtain ⟨C7, e7, rfl, _, _⟩ := hM.row_at 3 rfl
  obtain ⟨C8, e8, rfl, _, _⟩ := hM.row_at 4 rfl
  obtain ⟨C9, e9, rfl, _, _⟩ := hM.row_at 5 rfl
  obtain ⟨C10, e10, rfl, _, _⟩ := hM.row_at 6 rfl
  have M6 := Aside0.mk hM
  clear hM M5 cR cM cZ fZ hbW hbZ
  have cW := blk_cell (M6.out.blk_at 0 rfl)
  have cZ := blk_cell (M6.out.blk_at 7 rfl)
  have fZ := blk_frozen (M6.out.blk_at 7 rfl)
  have hbZ := blk_lt (M6.out.blk_at 7 rfl)
  have nWZ := Wh0.blk_ne M6.out 0 7 rfl rfl (by decide)
  unfold Wa.wc at cW
  go_upto_region 4 with (fail)
  go_region
  all_goals
    go_wp2
    have MF := (M6.out.setRow 7 rfl [.int .i64 s.f0, .int .i64 s.f1, .int .i64 s.f2, .int .i64 s.f3, .int .i64 s.f4, .slice C5 s.f5.length e5, .int .i64 s.f6, .slice C7 s.f7.length e7, .slice C8 s.f8.length e8, .slice C9 s.f9.length e9, .slice C10 s.f10.length e10, .int .i64 s.f11, .int .i64 s.f12] rfl).drew
    have hgF := MF.blk_at 7 rfl
    refine bodyPost_ret (results_list (rs := [.cell 4 45, .tmp 5, .tmp 6]) rfl (by simp) (.cell (w.heap.size + 2) 45 #[.int .i64 s.f0, .int .i64 s.f1, .int .i64 s.f2, .int .i64 s.f3, .int .i64 s.f4, .slice C5 s.f5.length e5, .int .i64 s.f6, .slice C7 s.f7.length e7, .slice C8 s.f8.length e8, .slice C9 s.f9.length e9, .slice C10 s.f10.length e10, .int .i64 s.f11, .int .i64 s.f12] (0, 0) _ rfl hgF Try.underlying45 rfl (by kernel_rfl) (.tmp (.tmp .nil)))) rfl ?_
    exact ⟨_, _, _, _, _, _, rfl, Mem.sel (ps := [_, _, _, _, _, _, _, _, _, _]) (F := []) [2, 3, 4, 5, 6, 1] 10 MF rfl rfl⟩
end Go.Proofs.Ytggbjokhniigkaa.Tx
namespace Go.Proofs.Ytggbjokhniigkaa.Ta
open Ty Go.RowKit YtggbjokhniigkaaW.PrintWords YtggbjokhniigkaaW.PrintLast YtggbjokhniigkaaW.PrintMore Mx Kx Wa
theorem ta_nil (w : World) : (Instr.typeAssert Value.nilIface 20 126 true).run Try.prog w = .ok (.tuple #[.agg #[], .bool false]) w := by kernel_rfl
theorem ta_refusal (w : World) : (Instr.typeAssert (Value.iface 126 (.agg #[])) 20 126 true).run Try.prog w = .ok (.tuple #[.agg #[], .bool true]) w := by kernel_rfl
theorem catch_idle (p : Addr) (w : World) :
    CallsD Try.prog 95 #[.pointer (some p)] .returning w fun e u' w' =>
      e = .returned (.tuple #[]) ∧ u' = .returning ∧ Mem w w' [] := by
  refine callsD_of_wpS Try.func95 rfl fun c₀ cs hu => ?_
  apply wpS_seq
  apply wpS_region
  simp [wpOpsS, go_sem, recoverD, hu, Try.ntmps95, Exit.thenS, ta_nil]
  apply wpS_seq
  apply wpS_region
  simp [wpOpsS, go_sem, Exit.thenS]
  refine wpS_cond (t := false) (by simp [Act.eval, Array.replicate]) ?_
  simp only [Bool.false_eq_true, if_false]
  refine wpS_of_wp (wp_skip ?_)
  have hM : Mem w (w.alloc (Obj.cells #[] 126)) [] := Mem.sel (ps := [_]) (F := []) [] 1 ((Mem.nil w).alloc #[] 126) rfl rfl
  cases c₀
  simp_all [bodyPostS, results, Try.results95]
theorem catch_panicking (p : Addr) (older : List PanicEntry) (w : World) (x : Bool) (hc : w.cell? p = some (.bool x)) (hz : w.frozen? p = false) :
    CallsD Try.prog 95 #[.pointer (some p)] (.panicking ({ v := .iface 126 (.agg #[]), recovered := false } :: older)) w fun e u' w' =>
      e = .returned (.tuple #[]) ∧ u' = .panicking ({ v := .iface 126 (.agg #[]), recovered := true } :: older) ∧ ∃ w1, Mem w w1 [] ∧ w' = w1.setCell p (.bool false) := by
  refine callsD_of_wpS Try.func95 rfl fun c₀ cs hu => ?_
  apply wpS_seq
  apply wpS_region
  simp [wpOpsS, go_sem, recoverD, hu, Try.ntmps95, Exit.thenS, ta_refusal]
  apply wpS_seq
  apply wpS_region
  simp [wpOpsS, go_sem, Exit.thenS]
  refine wpS_cond (t := true) (by simp [Act.eval, Array.replicate]) ?_
  simp only [if_true]
  have hM : Mem w (w.alloc (Obj.cells #[] 126)) [] := Mem.sel (ps := [_]) (F := []) [] 1 ((Mem.nil w).alloc #[] 126) rfl rfl
  have hlt := World.block_lt_of_cell? w p hc
  have hc' : (w.alloc (Obj.cells #[] 126)).cell? p = some (.bool x) := (hM.below.cell hlt).trans hc
  have hz' : (w.alloc (Obj.cells #[] 126)).frozen? p = false := (hM.below.frozen hlt).trans hz
  apply wpS_region
  simp [wpOpsS, go_sem, hc', hz', bodyPostS, results, Try.results95]
  exact ⟨_, hM, rfl⟩
end Go.Proofs.Ytggbjokhniigkaa.Ta
