/- Texts laid together: PgA0, Py, PgB0, Px. No condition. -/
import Derived.Test.YtookpmdgoednfaaYFz3
set_option linter.unusedVariables false
set_option linter.unusedSimpArgs false
set_option maxRecDepth 100000
set_option maxHeartbeats 8000000
namespace Go.Proofs.Ytookpmdgoednfaa.PPagePuts
open Go.RowKit YtookpmdgoednfaaW.PrintWords YtookpmdgoednfaaW.PrintLast YtookpmdgoednfaaW.PrintMore
attribute [local go_sem] max2_int min2_int max_two min_two max_three min_three max_four min_four   -- for this text's walks alone
attribute [local go_sem high] eqA41 Go.Proofs.Ytookpmdgoednfaa.Le.str_leq Go.Proofs.Ytookpmdgoednfaa.Le.str_gtr Go.Proofs.Ytookpmdgoednfaa.Le.str_geq
/-! ### falseworklaw7_great: function 19 -/
/-! ### page_Right: function 20 -/
mutual
def page_Right.l0 : Nat → ByteArray → Bool → List (List (S41)) → Int → Int → Option (Bool)
  | 0, _, _, _, _, _ => none
  | k + 1, x3, x4, x9, x10, x11 => if x11 < x10 then (if 0 ≤ x11 then (if x11 < (x9.length : Int) then (if ((rd_L2 x9 x11).length : Int) < 1 then (page_Right.j1 k x3 x4 (rd_L2 x9 x11) x9 x10 x11 true) else (page_Right.j1 k x3 x4 (rd_L2 x9 x11) x9 x10 x11 (decide (((rd_L2 x9 x11).length : Int) > 8)))) else (none)) else (none)) else (some true)
def page_Right.j1 : Nat → ByteArray → Bool → List (S41) → List (List (S41)) → Int → Int → Bool → Option (Bool)
  | 0, _, _, _, _, _, _, _ => none
  | k + 1, x3, x4, x6, x9, x10, x11, x22 => if x22 = true then (some false) else (page_Right.l1 k x3 x4 x9 x10 x11 x6 (x6.length : Int) 0)
def page_Right.l1 : Nat → ByteArray → Bool → List (List (S41)) → Int → Int → List (S41) → Int → Int → Option (Bool)
  | 0, _, _, _, _, _, _, _, _ => none
  | k + 1, x3, x4, x9, x10, x11, x23, x24, x25 => if x25 < x24 then (if 0 ≤ x25 then (if x25 < (x23.length : Int) then (if x4 = true then (if ((Op.bytesLess x3.toList (((rd_T41 x23 x25).f0).toList)) = true) then (page_Right.l1 k ((rd_T41 x23 x25).f0) true x9 x10 x11 x23 x24 (wrap64 (x25 + 1))) else (some false)) else (page_Right.l1 k ((rd_T41 x23 x25).f0) true x9 x10 x11 x23 x24 (wrap64 (x25 + 1)))) else (none)) else (none)) else (page_Right.l0 k x3 x4 x9 x10 (wrap64 (x11 + 1)))
end
def page_Right.f (k : Nat) (l0 : List (List (S41))) : Option (Bool) := page_Right.l0 k (⟨#[]⟩ : ByteArray) false l0 (l0.length : Int) 0
theorem page_Right.mono_l : ∀ k, (∀ y0 y1 y2 y3 y4, LeO (page_Right.l0 k y0 y1 y2 y3 y4) (page_Right.l0 (k + 1) y0 y1 y2 y3 y4)) ∧ (∀ y0 y1 y2 y3 y4 y5 y6, LeO (page_Right.j1 k y0 y1 y2 y3 y4 y5 y6) (page_Right.j1 (k + 1) y0 y1 y2 y3 y4 y5 y6)) ∧ (∀ y0 y1 y2 y3 y4 y5 y6 y7, LeO (page_Right.l1 k y0 y1 y2 y3 y4 y5 y6 y7) (page_Right.l1 (k + 1) y0 y1 y2 y3 y4 y5 y6 y7))
  | 0 => ⟨fun _ _ _ _ _ r h => by simp [page_Right.l0] at h, fun _ _ _ _ _ _ _ r h => by simp [page_Right.j1] at h, fun _ _ _ _ _ _ _ _ r h => by simp [page_Right.l1] at h⟩
  | k + 1 => by
    obtain ⟨ih0, ih1, ih2⟩ := page_Right.mono_l k
    refine ⟨?_, ?_, ?_⟩
    · intro y0 y1 y2 y3 y4
      unfold page_Right.l0
      repeat' first
      | (with_reducible exact ih0 _ _ _ _ _)
      | (with_reducible exact ih1 _ _ _ _ _ _ _)
      | (with_reducible exact ih2 _ _ _ _ _ _ _ _)
      | (with_reducible exact LeO.refl _)
      | (with_reducible exact LeO.none _)
      | (with_reducible refine LeO.ite ?_ ?_)
      | (with_reducible refine LeO.bind ?_ (fun _ => ?_))
      | exact ih0 _ _ _ _ _
      | exact ih1 _ _ _ _ _ _ _
      | exact ih2 _ _ _ _ _ _ _ _
      | exact LeO.none _
      | refine LeO.ite ?_ ?_
      | refine LeO.bind ?_ (fun _ => ?_)
    · intro y0 y1 y2 y3 y4 y5 y6
      unfold page_Right.j1
      repeat' first
      | (with_reducible exact ih0 _ _ _ _ _)
      | (with_reducible exact ih1 _ _ _ _ _ _ _)
      | (with_reducible exact ih2 _ _ _ _ _ _ _ _)
      | (with_reducible exact LeO.refl _)
      | (with_reducible exact LeO.none _)
      | (with_reducible refine LeO.ite ?_ ?_)
      | (with_reducible refine LeO.bind ?_ (fun _ => ?_))
      | exact ih0 _ _ _ _ _
      | exact ih1 _ _ _ _ _ _ _
      | exact ih2 _ _ _ _ _ _ _ _
      | exact LeO.none _
      | refine LeO.ite ?_ ?_
      | refine LeO.bind ?_ (fun _ => ?_)
    · intro y0 y1 y2 y3 y4 y5 y6 y7
      unfold page_Right.l1
      repeat' first
      | (with_reducible exact ih0 _ _ _ _ _)
      | (with_reducible exact ih1 _ _ _ _ _ _ _)
      | (with_reducible exact ih2 _ _ _ _ _ _ _ _)
      | (with_reducible exact LeO.refl _)
      | (with_reducible exact LeO.none _)
      | (with_reducible refine LeO.ite ?_ ?_)
      | (with_reducible refine LeO.bind ?_ (fun _ => ?_))
      | exact ih0 _ _ _ _ _
      | exact ih1 _ _ _ _ _ _ _
      | exact ih2 _ _ _ _ _ _ _ _
      | exact LeO.none _
      | refine LeO.ite ?_ ?_
      | refine LeO.bind ?_ (fun _ => ?_)
theorem page_Right.mono : ∀ a0 k, LeO (page_Right.f k a0) (page_Right.f (k + 1) a0) := by
  intro a0 k
  obtain ⟨ih0, ih1, ih2⟩ := page_Right.mono_l k
  unfold page_Right.f
  repeat' first
      | (with_reducible exact ih0 _ _ _ _ _)
      | (with_reducible exact ih1 _ _ _ _ _ _ _)
      | (with_reducible exact ih2 _ _ _ _ _ _ _ _)
      | (with_reducible exact LeO.refl _)
      | (with_reducible exact LeO.none _)
      | (with_reducible refine LeO.ite ?_ ?_)
      | (with_reducible refine LeO.bind ?_ (fun _ => ?_))
      | exact ih0 _ _ _ _ _
      | exact ih1 _ _ _ _ _ _ _
      | exact ih2 _ _ _ _ _ _ _ _
      | exact LeO.none _
      | refine LeO.ite ?_ ?_
      | refine LeO.bind ?_ (fun _ => ?_)
theorem page_Right.calls (k : Nat) (A0 : Option Addr) (c0 : Nat) (l0 : List (List (S41))) (r : Bool) (w : World) (hr0 : Kd.C (Kd.slice 41 k41) w A0 l0.length l0) (hc0 : l0.length ≤ c0) (h : page_Right.f k l0 = some r) :
    Calls Try.prog 20 #[.slice A0 l0.length c0] w fun e w' => e = .returned (.bool r) ∧ Below w.heap.size w w' := by
  have hu41 := Try.underlying41
  have HR0 := Aside0.mk hr0
  have HC0 := Aside0.mk hc0
  clear hr0 hc0
  have HB := Aside0.mk (Below.refl w.heap.size w)
  have H : (page_Right.l0 k (⟨#[]⟩ : ByteArray) false l0 (l0.length : Int) 0) = some r := h
  clear h
  have H' := Aside0.mk H
  clear H
  go_enter Try.func20, Try.ntmps20
  go_wp2
  go_loopg [3, 4, 11] k (fun kq v3 v4 v11 w' => ∃ (x3_1 : ByteArray) (x4_1 : Bool) (x11_1 : Int), v3 = .string x3_1 ∧ v4 = .bool x4_1 ∧ v11 = .int .i64 x11_1 ∧ Aside0 (page_Right.l0 kq x3_1 x4_1 l0 (l0.length : Int) x11_1 = some r) ∧ Aside0 (kq ≤ k) ∧ Aside0 (Below w.heap.size w w'))
  case atStart => exact ⟨((⟨#[]⟩ : ByteArray)), (false), (0), (by first | rfl | (simp; done) | (simp [*]; done)), (by first | rfl | (simp; done) | (simp [*]; done)), (by first | rfl | (simp; done) | (simp [*]; done)), H', ⟨Nat.le_refl _⟩, ⟨by repeat (first | (with_reducible first | exact HB.out | apply below_alloc | apply pw_below_drewN | apply below_drew1) | exact HB.out)⟩⟩
  case round =>
    clear H'
    obtain ⟨x3_1, x4_1, x11_1, rfl, rfl, rfl, HA, HK1, HB⟩ := hrel
    cases gk with
    | zero => exact absurd HA.out (by simp [page_Right.l0])
    | succ k1 =>
      have H := HA.out
      clear HA
      simp only [page_Right.l0] at H
      by_cases c2 : x11_1 < (l0.length : Int)
      · rw [if_pos c2] at H
        have c2b0 : decide (x11_1 < (l0.length : Int)) = true := decide_eq_true c2
        clear c2
        by_cases c3 : 0 ≤ x11_1
        · rw [if_pos c3] at H
          have c3b0 : decide (0 ≤ x11_1) = true := decide_eq_true c3
          clear c3
          by_cases c4 : x11_1 < (l0.length : Int)
          · rw [if_pos c4] at H
            have c4b0 : decide (x11_1 < (l0.length : Int)) = true := decide_eq_true c4
            clear c4
            have HC5 := Aside0.mk H
            clear H
            have p107 : 0 ≤ (x11_1 : Int) := of_decide_eq_true (by first | (with_reducible assumption) | assumption)
            have q107 : x11_1 < (l0.length : Int) := of_decide_eq_true (by first | (with_reducible assumption) | assumption)
            obtain ⟨ad107, A107_0, c107_0, e107, hx107_0, hl107_0, hi107_0⟩ := at_L2 HR0.out x11_1 p107 q107
            cases e107
            replace hx107_0 := (HB.out.cell (World.block_lt_of_cell? w _ hx107_0)).trans hx107_0
            have HR107_0 := Aside0.mk hi107_0
            have HC107_0 := Aside0.mk hl107_0
            clear hi107_0 hl107_0
            replace p107 := eq_true p107
            replace q107 := eq_true q107
            go_upto_region 5 with (fail)
            go_cut [22] (fun v22 wc => ∃ (kq : Nat) (x22_4 : Bool), v22 = .bool x22_4 ∧ Aside0 (page_Right.j1 kq x3_1 x4_1 (rd_L2 l0 x11_1) l0 (l0.length : Int) x11_1 x22_4 = some r) ∧ Aside0 (kq ≤ k1) ∧ Aside0 (Below w.heap.size w wc))
            case first =>
              have H := HC5.out
              clear HC5
              by_cases c6 : ((rd_L2 l0 x11_1).length : Int) < 1
              · rw [if_pos c6] at H
                have c6b0 : decide (((rd_L2 l0 x11_1).length : Int) < 1) = true := decide_eq_true c6
                have c6b1 : decide ((rd_L2 l0 x11_1).length < 1) = true := decide_eq_true (by omega)
                clear c6
                (first | rw [c6b0] | (simp only [i64_w, i32_w]; rw [c6b0]) | skip)
                have H' := Aside0.mk H
                clear H
                go_wp2
                go_meet
                case rel => exact ⟨_, (true), (by first | rfl | (simp; done) | (simp [*]; done)), H', ⟨by have := HK1.out; first | omega | exact Nat.le_refl _⟩, ⟨by repeat (first | (with_reducible first | exact HB.out | apply below_alloc | apply pw_below_drewN | apply below_drew1) | exact HB.out)⟩⟩
              · rw [if_neg c6] at H
                have c6b0 : decide (((rd_L2 l0 x11_1).length : Int) < 1) = false := decide_eq_false c6
                have c6b1 : decide ((rd_L2 l0 x11_1).length < 1) = false := decide_eq_false (by omega)
                clear c6
                (first | rw [c6b0] | (simp only [i64_w, i32_w]; rw [c6b0]) | skip)
                have H' := Aside0.mk H
                clear H
                go_wp2
                go_meet
                case rel => exact ⟨_, (decide (((rd_L2 l0 x11_1).length : Int) > 8)), (by first | rfl | (simp; done) | (simp [*]; done)), H', ⟨by have := HK1.out; first | omega | exact Nat.le_refl _⟩, ⟨by repeat (first | (with_reducible first | exact HB.out | apply below_alloc | apply pw_below_drewN | apply below_drew1) | exact HB.out)⟩⟩
            case rest =>
              clear HC5
              try clear c1
              try clear p1
              try clear q1
              try clear hx1
              try clear c2
              try clear c2b0
              try clear p2
              try clear c3
              try clear c3b0
              try clear c4
              try clear c4b0
              try clear c6
              try clear c6b0
              try clear c6b1
              try clear hx107_0
              try clear p107
              try clear q107
              obtain ⟨kq, x22_4, rfl, HA, HJ4, HB⟩ := hcut
              cases kq with
              | zero => exact absurd HA.out (by simp [page_Right.j1])
              | succ kj4 =>
                have H := HA.out
                clear HA
                simp only [page_Right.j1] at H
                by_cases c7 : x22_4 = true
                · subst c7
                  have H1 : (some false) = some r := by rw [if_pos rfl] at H; exact H
                  clear H
                  have H := H1
                  clear H1
                  obtain rfl := Option.some.inj H
                  go_wp2
                  go_ret
                  exact ⟨by first | rfl | (simp [errW_none, errW_some] <;> rfl) | (simp [*, errW_none, errW_some] <;> rfl), by repeat (first | (with_reducible first | exact HB.out | apply below_alloc | apply pw_below_drewN | apply below_drew1) | exact HB.out)⟩
                · replace c7 := Bool.eq_false_iff.mpr c7
                  subst c7
                  have H1 : (page_Right.l1 kj4 x3_1 x4_1 l0 (l0.length : Int) x11_1 (rd_L2 l0 x11_1) ((rd_L2 l0 x11_1).length : Int) 0) = some r := by rw [if_neg (show ¬ (false = true) by decide)] at H; exact H
                  clear H
                  have H := H1
                  clear H1
                  have H' := Aside0.mk H
                  clear H
                  go_wp2
                  go_loopg [3, 4, 25] kj4 (fun kq v3 v4 v25 w' => ∃ (x3_3 : ByteArray) (x4_3 : Bool) (x25_3 : Int), v3 = .string x3_3 ∧ v4 = .bool x4_3 ∧ v25 = .int .i64 x25_3 ∧ Aside0 (page_Right.l1 kq x3_3 x4_3 l0 (l0.length : Int) x11_1 (rd_L2 l0 x11_1) ((rd_L2 l0 x11_1).length : Int) x25_3 = some r) ∧ Aside0 (kq ≤ kj4) ∧ Aside0 (Below w.heap.size w w'))
                  case atStart => exact ⟨(x3_1), (x4_1), (0), (by first | rfl | (simp; done) | (simp [*]; done)), (by first | rfl | (simp; done) | (simp [*]; done)), (by first | rfl | (simp; done) | (simp [*]; done)), H', ⟨Nat.le_refl _⟩, ⟨by repeat (first | (with_reducible first | exact HB.out | apply below_alloc | apply pw_below_drewN | apply below_drew1) | exact HB.out)⟩⟩
                  case round =>
                    clear H'
                    try clear c1
                    try clear p1
                    try clear q1
                    try clear hx1
                    try clear c2
                    try clear c2b0
                    try clear p2
                    try clear c3
                    try clear c3b0
                    try clear c4
                    try clear c4b0
                    try clear c6
                    try clear c6b0
                    try clear c6b1
                    try clear c7
                    try clear hx107_0
                    try clear p1
                    try clear p107
                    try clear p2
                    try clear q1
                    try clear q107
                    obtain ⟨x3_3, x4_3, x25_3, rfl, rfl, rfl, HA, HK3, HB⟩ := hrel
                    cases gk with
                    | zero => exact absurd HA.out (by simp [page_Right.l1])
                    | succ k3 =>
                      have H := HA.out
                      clear HA
                      simp only [page_Right.l1] at H
                      by_cases c8 : x25_3 < ((rd_L2 l0 x11_1).length : Int)
                      · rw [if_pos c8] at H
                        have c8b0 : decide (x25_3 < ((rd_L2 l0 x11_1).length : Int)) = true := decide_eq_true c8
                        clear c8
                        by_cases c9 : 0 ≤ x25_3
                        · rw [if_pos c9] at H
                          have c9b0 : decide (0 ≤ x25_3) = true := decide_eq_true c9
                          clear c9
                          by_cases c10 : x25_3 < ((rd_L2 l0 x11_1).length : Int)
                          · rw [if_pos c10] at H
                            have c10b0 : decide (x25_3 < ((rd_L2 l0 x11_1).length : Int)) = true := decide_eq_true c10
                            clear c10
                            by_cases c11 : x4_3 = true
                            · subst c11
                              have H1 : (if ((Op.bytesLess x3_3.toList (((rd_T41 (rd_L2 l0 x11_1) x25_3).f0).toList)) = true) then (page_Right.l1 k3 ((rd_T41 (rd_L2 l0 x11_1) x25_3).f0) true l0 (l0.length : Int) x11_1 (rd_L2 l0 x11_1) ((rd_L2 l0 x11_1).length : Int) (wrap64 (x25_3 + 1))) else (some false)) = some r := by rw [if_pos rfl] at H; exact H
                              clear H
                              have H := H1
                              clear H1
                              by_cases c12 : ((Op.bytesLess x3_3.toList (((rd_T41 (rd_L2 l0 x11_1) x25_3).f0).toList)) = true)
                              · rw [if_pos c12] at H
                                have c12b0 : (Op.bytesLess x3_3.toList (((rd_T41 (rd_L2 l0 x11_1) x25_3).f0).toList)) = true := c12
                                clear c12
                                have H' := Aside0.mk H
                                clear H
                                have p108 : 0 ≤ (x25_3 : Int) := of_decide_eq_true (by first | (with_reducible assumption) | assumption)
                                have q108 : x25_3 < ((rd_L2 l0 x11_1).length : Int) := of_decide_eq_true (by first | (with_reducible assumption) | assumption)
                                obtain ⟨ad108, e108, hx108_0, hx108_1⟩ := at_T41 HR107_0.out x25_3 p108 q108
                                cases e108
                                replace hx108_0 := (HB.out.cell (World.block_lt_of_cell? w _ hx108_0)).trans hx108_0
                                replace hx108_1 := (HB.out.cell (World.block_lt_of_cell? w _ hx108_1)).trans hx108_1
                                replace p108 := eq_true p108
                                replace q108 := eq_true q108
                                go_wp2_with (first | ((with_reducible refine gate_dst (N := 8) rfl ?_); (try (refine gate_guard (by rfl) ?_; dsimp only)); refine box_event ?hg (N := 8) ?hd (cs := #[.string (⟨#[]⟩ : ByteArray), .string (⟨#[]⟩ : ByteArray)]) (t := 41) ?hr ?_; (case hd => rfl); (case hg => rfl); (case hr => first | (go_simp; done) | (go_simp; rfl)); intro gb109 hg w13 hbox hb; have n0_ := Aside0.mk (below_step (by repeat (first | (with_reducible first | exact HB.out | apply below_alloc | apply pw_below_drewN | apply below_drew1) | exact HB.out)) hb); have n1_ := Aside0.mk (hbox); have n2_ := Aside0.mk ((by rw [hg]; exact (below_size (by repeat (first | (with_reducible first | exact HB.out | apply below_alloc | apply pw_below_drewN | apply below_drew1) | exact HB.out))) : w.heap.size ≤ gb109)); have n3_ := Aside0.mk ((by rw [hg]; exact (below_size (by repeat (first | (with_reducible first | exact HB.out | apply below_alloc | apply pw_below_drewN | apply below_drew1) | exact HB.out))) : w.heap.size ≤ gb109)); clear HB; have HB := n0_; have BK109 := n1_; have GW109 := n2_; have GE109 := n3_; clear n0_ n1_ n2_ n3_; clear hb hbox hg; have hcz14_0 : w13.cell? ⟨gb109, 0, none⟩ = some (.string (⟨#[]⟩ : ByteArray)) := (blk_cell BK109.out 0).trans rfl; have hcz14_1 : w13.cell? ⟨gb109, 1, none⟩ = some (.string (⟨#[]⟩ : ByteArray)) := (blk_cell BK109.out 1).trans rfl; have hfz14_0 := blk_frozen BK109.out 0; have hfz14_1 := blk_frozen BK109.out 1))
                                go_roundg k3
                                case measure => have := HK1.out; have := HJ4.out; have := HK3.out; omega
                                case rel => exact ⟨((rd_T41 (rd_L2 l0 x11_1) x25_3).f0), (true), (wrap64 (x25_3 + 1)), (by first | rfl | (simp; done) | (simp [*]; done)), (by first | rfl | (simp; done) | (simp [*]; done)), (by first | rfl | (simp; done) | (simp [*]; done)), H', ⟨by have := HK1.out; have := HJ4.out; have := HK3.out; omega⟩, ⟨by repeat (first | (with_reducible first | exact HB.out | apply below_alloc | apply pw_below_drewN | apply below_drew1 | refine below_set ?_ GE109.out) | exact HB.out)⟩⟩
                              · rw [if_neg c12] at H
                                have c12b0 : (Op.bytesLess x3_3.toList (((rd_T41 (rd_L2 l0 x11_1) x25_3).f0).toList)) = false := by simpa using c12
                                clear c12
                                obtain rfl := Option.some.inj H
                                have p108 : 0 ≤ (x25_3 : Int) := of_decide_eq_true (by first | (with_reducible assumption) | assumption)
                                have q108 : x25_3 < ((rd_L2 l0 x11_1).length : Int) := of_decide_eq_true (by first | (with_reducible assumption) | assumption)
                                obtain ⟨ad108, e108, hx108_0, hx108_1⟩ := at_T41 HR107_0.out x25_3 p108 q108
                                cases e108
                                replace hx108_0 := (HB.out.cell (World.block_lt_of_cell? w _ hx108_0)).trans hx108_0
                                replace hx108_1 := (HB.out.cell (World.block_lt_of_cell? w _ hx108_1)).trans hx108_1
                                replace p108 := eq_true p108
                                replace q108 := eq_true q108
                                go_wp2_with (first | ((with_reducible refine gate_dst (N := 8) rfl ?_); (try (refine gate_guard (by rfl) ?_; dsimp only)); refine box_event ?hg (N := 8) ?hd (cs := #[.string (⟨#[]⟩ : ByteArray), .string (⟨#[]⟩ : ByteArray)]) (t := 41) ?hr ?_; (case hd => rfl); (case hg => rfl); (case hr => first | (go_simp; done) | (go_simp; rfl)); intro gb109 hg w15 hbox hb; have n0_ := Aside0.mk (below_step (by repeat (first | (with_reducible first | exact HB.out | apply below_alloc | apply pw_below_drewN | apply below_drew1) | exact HB.out)) hb); have n1_ := Aside0.mk (hbox); have n2_ := Aside0.mk ((by rw [hg]; exact (below_size (by repeat (first | (with_reducible first | exact HB.out | apply below_alloc | apply pw_below_drewN | apply below_drew1) | exact HB.out))) : w.heap.size ≤ gb109)); have n3_ := Aside0.mk ((by rw [hg]; exact (below_size (by repeat (first | (with_reducible first | exact HB.out | apply below_alloc | apply pw_below_drewN | apply below_drew1) | exact HB.out))) : w.heap.size ≤ gb109)); clear HB; have HB := n0_; have BK109 := n1_; have GW109 := n2_; have GE109 := n3_; clear n0_ n1_ n2_ n3_; clear hb hbox hg; have hcz16_0 : w15.cell? ⟨gb109, 0, none⟩ = some (.string (⟨#[]⟩ : ByteArray)) := (blk_cell BK109.out 0).trans rfl; have hcz16_1 : w15.cell? ⟨gb109, 1, none⟩ = some (.string (⟨#[]⟩ : ByteArray)) := (blk_cell BK109.out 1).trans rfl; have hfz16_0 := blk_frozen BK109.out 0; have hfz16_1 := blk_frozen BK109.out 1))
                                go_ret
                                exact ⟨by first | rfl | (simp [errW_none, errW_some] <;> rfl) | (simp [*, errW_none, errW_some] <;> rfl), by repeat (first | (with_reducible first | exact HB.out | apply below_alloc | apply pw_below_drewN | apply below_drew1 | refine below_set ?_ GE109.out) | exact HB.out)⟩
                            · replace c11 := Bool.eq_false_iff.mpr c11
                              subst c11
                              have H1 : (page_Right.l1 k3 ((rd_T41 (rd_L2 l0 x11_1) x25_3).f0) true l0 (l0.length : Int) x11_1 (rd_L2 l0 x11_1) ((rd_L2 l0 x11_1).length : Int) (wrap64 (x25_3 + 1))) = some r := by rw [if_neg (show ¬ (false = true) by decide)] at H; exact H
                              clear H
                              have H := H1
                              clear H1
                              have H' := Aside0.mk H
                              clear H
                              have p108 : 0 ≤ (x25_3 : Int) := of_decide_eq_true (by first | (with_reducible assumption) | assumption)
                              have q108 : x25_3 < ((rd_L2 l0 x11_1).length : Int) := of_decide_eq_true (by first | (with_reducible assumption) | assumption)
                              obtain ⟨ad108, e108, hx108_0, hx108_1⟩ := at_T41 HR107_0.out x25_3 p108 q108
                              cases e108
                              replace hx108_0 := (HB.out.cell (World.block_lt_of_cell? w _ hx108_0)).trans hx108_0
                              replace hx108_1 := (HB.out.cell (World.block_lt_of_cell? w _ hx108_1)).trans hx108_1
                              replace p108 := eq_true p108
                              replace q108 := eq_true q108
                              go_wp2_with (first | ((with_reducible refine gate_dst (N := 8) rfl ?_); (try (refine gate_guard (by rfl) ?_; dsimp only)); refine box_event ?hg (N := 8) ?hd (cs := #[.string (⟨#[]⟩ : ByteArray), .string (⟨#[]⟩ : ByteArray)]) (t := 41) ?hr ?_; (case hd => rfl); (case hg => rfl); (case hr => first | (go_simp; done) | (go_simp; rfl)); intro gb109 hg w17 hbox hb; have n0_ := Aside0.mk (below_step (by repeat (first | (with_reducible first | exact HB.out | apply below_alloc | apply pw_below_drewN | apply below_drew1) | exact HB.out)) hb); have n1_ := Aside0.mk (hbox); have n2_ := Aside0.mk ((by rw [hg]; exact (below_size (by repeat (first | (with_reducible first | exact HB.out | apply below_alloc | apply pw_below_drewN | apply below_drew1) | exact HB.out))) : w.heap.size ≤ gb109)); have n3_ := Aside0.mk ((by rw [hg]; exact (below_size (by repeat (first | (with_reducible first | exact HB.out | apply below_alloc | apply pw_below_drewN | apply below_drew1) | exact HB.out))) : w.heap.size ≤ gb109)); clear HB; have HB := n0_; have BK109 := n1_; have GW109 := n2_; have GE109 := n3_; clear n0_ n1_ n2_ n3_; clear hb hbox hg; have hcz18_0 : w17.cell? ⟨gb109, 0, none⟩ = some (.string (⟨#[]⟩ : ByteArray)) := (blk_cell BK109.out 0).trans rfl; have hcz18_1 : w17.cell? ⟨gb109, 1, none⟩ = some (.string (⟨#[]⟩ : ByteArray)) := (blk_cell BK109.out 1).trans rfl; have hfz18_0 := blk_frozen BK109.out 0; have hfz18_1 := blk_frozen BK109.out 1))
                              go_roundg k3
                              case measure => have := HK1.out; have := HJ4.out; have := HK3.out; omega
                              case rel => exact ⟨((rd_T41 (rd_L2 l0 x11_1) x25_3).f0), (true), (wrap64 (x25_3 + 1)), (by first | rfl | (simp; done) | (simp [*]; done)), (by first | rfl | (simp; done) | (simp [*]; done)), (by first | rfl | (simp; done) | (simp [*]; done)), H', ⟨by have := HK1.out; have := HJ4.out; have := HK3.out; omega⟩, ⟨by repeat (first | (with_reducible first | exact HB.out | apply below_alloc | apply pw_below_drewN | apply below_drew1 | refine below_set ?_ GE109.out) | exact HB.out)⟩⟩
                          · rw [if_neg c10] at H
                            exact absurd H (by simp)
                        · rw [if_neg c9] at H
                          exact absurd H (by simp)
                      · rw [if_neg c8] at H
                        have c8b0 : decide (x25_3 < ((rd_L2 l0 x11_1).length : Int)) = false := decide_eq_false c8
                        clear c8
                        have H' := Aside0.mk H
                        clear H
                        go_wp2
                        go_roundg k3
                        case measure => have := HK1.out; have := HJ4.out; have := HK3.out; omega
                        case rel => exact ⟨(x3_3), (x4_3), (wrap64 (x11_1 + 1)), (by first | rfl | (simp; done) | (simp [*]; done)), (by first | rfl | (simp; done) | (simp [*]; done)), (by first | rfl | (simp; done) | (simp [*]; done)), H', ⟨by have := HK1.out; have := HJ4.out; have := HK3.out; omega⟩, ⟨by repeat (first | (with_reducible first | exact HB.out | apply below_alloc | apply pw_below_drewN | apply below_drew1) | exact HB.out)⟩⟩
          · rw [if_neg c4] at H
            exact absurd H (by simp)
        · rw [if_neg c3] at H
          exact absurd H (by simp)
      · rw [if_neg c2] at H
        have c2b0 : decide (x11_1 < (l0.length : Int)) = false := decide_eq_false c2
        clear c2
        obtain rfl := Option.some.inj H
        go_wp2
        go_ret
        exact ⟨by first | rfl | (simp [errW_none, errW_some] <;> rfl) | (simp [*, errW_none, errW_some] <;> rfl), by repeat (first | (with_reducible first | exact HB.out | apply below_alloc | apply pw_below_drewN | apply below_drew1) | exact HB.out)⟩
/-! ### falseworkref7_Right: function 21 -/
/-! ### falseworkref7_Pairs: function 29 -/
/-! ### falseworkref7_Pages: function 24 -/
/-! ### falseworklaw7_copied: function 23 -/
end Go.Proofs.Ytookpmdgoednfaa.PPagePuts
namespace Go.Proofs.Ytookpmdgoednfaa.Py
open Go.RowKit YtookpmdgoednfaaW.PrintWords YtookpmdgoednfaaW.PrintLast YtookpmdgoednfaaW.PrintMore PPagePuts
abbrev SP := S41
def kof (x : SP) : List UInt8 := x.f0.toList
/-- Keys rise, from one on. -/
def asc : Option (List UInt8) → List SP → Bool
  | _, [] => true
  | o, x :: l => (match o with | none => true | some k => Op.bytesLess k (kof x)) && asc (some (kof x)) l
def fits (p : List SP) : Bool := decide (1 ≤ p.length) && decide (p.length ≤ 8)
def sizes (ps : List (List SP)) : Bool := ps.all fits
def R (o : Option (List UInt8)) (ps : List (List SP)) : Bool := sizes ps && asc o ps.flatten
def right (ps : List (List SP)) : Bool := R none ps
theorem wrap_one {j n : Nat} (h : j < n) (hn : n ≤ 9223372036854775807) : wrap64 ((j : Int) + 1) = ((j + 1 : Nat) : Int) := by
  unfold wrap64
  push_cast
  omega
theorem rdL {ps : List (List SP)} {i : Nat} (h : i < ps.length) : rd_L2 ps (i : Int) = ps[i] := by unfold rd_L2; simp [List.getD, h]
theorem rdT {p : List SP} {j : Nat} (h : j < p.length) : rd_T41 p (j : Int) = p[j] := by unfold rd_T41; simp [List.getD, h]
/-! ### the program's -/
theorem right_l1 (ps : List (List SP)) (hn : ps.length ≤ 9223372036854775807) (i : Nat) (hi : i < ps.length) (p : List SP) (hp : p.length ≤ 8)
    (H : ∀ last : ByteArray, Ev (fun k => page_Right.l0 k last true ps ps.length ((i + 1 : Nat) : Int)) (R (some last.toList) (ps.drop (i + 1)))) :
    ∀ (d j : Nat) (last : ByteArray) (sm : Bool), p.length - j = d → j ≤ p.length → (j = p.length → sm = true) →
      Ev (fun k => page_Right.l1 k last sm ps ps.length i p p.length j) (sizes (ps.drop (i + 1)) && asc (if sm = true then some last.toList else none) (p.drop j ++ (ps.drop (i + 1)).flatten)) := by
  intro d
  induction d with
  | zero =>
    intro j last sm hd hj hs
    obtain rfl : j = p.length := by omega
    obtain rfl := hs rfl
    refine Ev.step (f := fun k => page_Right.l0 k last true ps ps.length ((i + 1 : Nat) : Int)) (fun k => ?_) ?_
    · simp only [page_Right.l1]
      rw [if_neg (by omega), wrap_one hi hn]
    · rw [List.drop_length, List.nil_append, if_pos rfl]
      exact H last
  | succ d ih =>
    intro j last sm hd hj hs
    have hlt : j < p.length := by omega
    have ih' := ih (j + 1) p[j].f0 true (by omega) (by omega) (fun _ => rfl)
    rw [if_pos rfl] at ih'
    have e1 : p.drop j ++ (ps.drop (i + 1)).flatten = p[j] :: (p.drop (j + 1) ++ (ps.drop (i + 1)).flatten) := by rw [List.drop_eq_getElem_cons hlt, List.cons_append]
    rw [e1]
    have hw : wrap64 ((j : Int) + 1) = ((j + 1 : Nat) : Int) := wrap_one hlt (by omega)
    cases sm with
    | false =>
      refine Ev.step (f := fun k => page_Right.l1 k p[j].f0 true ps ps.length i p p.length ((j + 1 : Nat) : Int)) (fun k => ?_) ?_
      · simp only [page_Right.l1]
        rw [if_pos (by omega), if_pos (by omega), if_pos (by omega), rdT hlt, hw]
        simp
      · rw [if_neg (by simp)]
        simpa [asc, kof] using ih'
    | true =>
      rw [if_pos rfl]
      cases hb : Op.bytesLess last.toList p[j].f0.toList with
      | true =>
        refine Ev.step (f := fun k => page_Right.l1 k p[j].f0 true ps ps.length i p p.length ((j + 1 : Nat) : Int)) (fun k => ?_) ?_
        · simp only [page_Right.l1]
          rw [if_pos (by omega), if_pos (by omega), if_pos (by omega), rdT hlt, hw, if_pos trivial, if_pos hb]
        · have e2 : asc (some last.toList) (p[j] :: (p.drop (j + 1) ++ (ps.drop (i + 1)).flatten)) = asc (some p[j].f0.toList) (p.drop (j + 1) ++ (ps.drop (i + 1)).flatten) := by
            show (Op.bytesLess last.toList (kof p[j]) && _) = _
            unfold kof
            rw [hb, Bool.true_and]
          rw [e2]
          exact ih'
      | false =>
        refine Ev.step (f := fun k => some false) (fun k => ?_) ?_
        · simp only [page_Right.l1]
          rw [if_pos (by omega), if_pos (by omega), if_pos (by omega), rdT hlt, if_pos trivial, if_neg (by rw [hb]; simp)]
        · have e2 : asc (some last.toList) (p[j] :: (p.drop (j + 1) ++ (ps.drop (i + 1)).flatten)) = false := by
            show (Op.bytesLess last.toList (kof p[j]) && _) = _
            unfold kof
            rw [hb, Bool.false_and]
          rw [e2, Bool.and_false]
          exact Ev.now false
theorem right_l0 (ps : List (List SP)) (hn : ps.length ≤ 9223372036854775807) : ∀ (d i : Nat) (last : ByteArray) (sm : Bool), ps.length - i = d → i ≤ ps.length → Ev (fun k => page_Right.l0 k last sm ps ps.length i) (R (if sm = true then some last.toList else none) (ps.drop i)) := by
  intro d
  induction d with
  | zero =>
    intro i last sm hd hi
    obtain rfl : i = ps.length := by omega
    refine Ev.step (f := fun k => some true) (fun k => ?_) ?_
    · simp only [page_Right.l0]
      rw [if_neg (by omega)]
    · rw [List.drop_length]
      exact Ev.now true
  | succ d ih =>
    intro i last sm hd hi
    have hlt : i < ps.length := by omega
    have e0 : ps.drop i = ps[i] :: ps.drop (i + 1) := List.drop_eq_getElem_cons hlt
    have e1 : R (if sm = true then some last.toList else none) (ps.drop i) = (fits ps[i] && (sizes (ps.drop (i + 1)) && asc (if sm = true then some last.toList else none) (ps[i] ++ (ps.drop (i + 1)).flatten))) := by
      rw [e0]
      unfold R sizes
      rw [List.all_cons, List.flatten_cons, Bool.and_assoc]
    rw [e1]
    by_cases h1 : ps[i].length < 1
    · have hf : fits ps[i] = false := by unfold fits; simp; omega
      rw [hf, Bool.false_and]
      refine Ev.step (f := fun k => page_Right.j1 k last sm ps[i] ps ps.length i true) (fun k => ?_) (Ev.step (f := fun k => some false) (fun k => ?_) (Ev.now false))
      · simp only [page_Right.l0]
        rw [if_pos (by omega), if_pos (by omega), if_pos (by omega), rdL hlt, if_pos (by omega)]
      · simp only [page_Right.j1]
        rw [if_pos trivial]
    · by_cases h8 : ps[i].length > 8
      · have hf : fits ps[i] = false := by unfold fits; simp; omega
        rw [hf, Bool.false_and]
        refine Ev.step (f := fun k => page_Right.j1 k last sm ps[i] ps ps.length i true) (fun k => ?_) (Ev.step (f := fun k => some false) (fun k => ?_) (Ev.now false))
        · simp only [page_Right.l0]
          rw [if_pos (by omega), if_pos (by omega), if_pos (by omega), rdL hlt, if_neg (by omega), decide_eq_true (by omega)]
        · simp only [page_Right.j1]
          rw [if_pos trivial]
      · have hf : fits ps[i] = true := by unfold fits; simp; omega
        rw [hf, Bool.true_and]
        refine Ev.step (f := fun k => page_Right.j1 k last sm ps[i] ps ps.length i false) (fun k => ?_) (Ev.step (f := fun k => page_Right.l1 k last sm ps ps.length i ps[i] ps[i].length 0) (fun k => ?_) ?_)
        · simp only [page_Right.l0]
          rw [if_pos (by omega), if_pos (by omega), if_pos (by omega), rdL hlt, if_neg (by omega), decide_eq_false (by omega)]
        · simp only [page_Right.j1]
          rw [if_neg (by simp)]
        · have h := right_l1 ps hn i hlt ps[i] (by omega) (fun l => by have h2 := ih (i + 1) l true (by omega) (by omega); rw [if_pos rfl] at h2; exact h2) ps[i].length 0 last sm (by omega) (by omega) (fun h => by omega)
          rw [List.drop_zero] at h
          exact h
theorem page_right (ps : List (List SP)) (hn : ps.length ≤ 9223372036854775807) : Ev (fun k => page_Right.f k ps) (right ps) := by
  have h := right_l0 ps hn ps.length 0 ⟨#[]⟩ false (by omega) (by omega)
  exact h
/-! ### the reference's -/
end Go.Proofs.Ytookpmdgoednfaa.Py
namespace Go.Proofs.Ytookpmdgoednfaa.PPagePuts
end Go.Proofs.Ytookpmdgoednfaa.PPagePuts
namespace Go.Proofs.Ytookpmdgoednfaa.Px
open Go.RowKit YtookpmdgoednfaaW.PrintWords YtookpmdgoednfaaW.PrintLast YtookpmdgoednfaaW.PrintMore PPagePuts Py
abbrev lt := Op.bytesLess
theorem lt_irrefl (a : List UInt8) : lt a a = false := by
  have := Le.bl_tri a a
  simpa using this
theorem lt_asymm {a b : List UInt8} (h : lt a b = true) : lt b a = false := by
  have := Le.bl_tri a b
  rw [show Op.bytesLess a b = true from h, Bool.true_or] at this
  simpa using this.symm
theorem lt_of_not {a b : List UInt8} (h : lt a b = false) (hne : ¬ a = b) : lt b a = true := by
  have := Le.bl_tri a b
  rw [show Op.bytesLess a b = false from h, Bool.false_or] at this
  have e : (a == b) = false := by simpa using hne
  rw [e] at this
  simpa using this.symm
theorem lt_trans : ∀ {a b c : List UInt8}, lt a b = true → lt b c = true → lt a c = true
  | _, _, [], _, h => by simp [lt, Op.bytesLess] at h
  | _, [], _ :: _, h, _ => by simp [lt, Op.bytesLess] at h
  | [], _ :: _, _ :: _, _, _ => by simp [lt, Op.bytesLess]
  | a :: x, b :: y, c :: z, h1, h2 => by
    simp only [lt, Op.bytesLess, Bool.or_eq_true, decide_eq_true_eq, Bool.and_eq_true, beq_iff_eq] at h1 h2 ⊢
    rcases h1 with h1 | ⟨rfl, h1⟩
    · rcases h2 with h2 | ⟨rfl, h2⟩
      · left
        have g1 : a.toNat < b.toNat := h1
        have g2 : b.toNat < c.toNat := h2
        show a.toNat < c.toNat
        omega
      · exact .inl h1
    · rcases h2 with h2 | ⟨rfl, h2⟩
      · exact .inl h2
      · exact .inr ⟨rfl, lt_trans h1 h2⟩
def Bef (x y : SP) : Prop := lt (kof x) (kof y) = true
theorem asc_all : ∀ (l : List SP) (k : List UInt8), asc (some k) l = true → ∀ x ∈ l, lt k (kof x) = true
  | [], _, _, _, h => by cases h
  | y :: l, k, h, x, hx => by
    simp only [asc, Bool.and_eq_true] at h
    rcases List.mem_cons.1 hx with rfl | hx
    · exact h.1
    · exact lt_trans h.1 (asc_all l (kof y) h.2 x hx)
theorem asc_pair : ∀ (l : List SP) (o : Option (List UInt8)), asc o l = true → l.Pairwise Bef
  | [], _, _ => List.Pairwise.nil
  | y :: l, o, h => by
    simp only [asc, Bool.and_eq_true] at h
    exact List.Pairwise.cons (fun x hx => asc_all l (kof y) h.2 x hx) (asc_pair l _ h.2)
structure Rt (ps : List (List SP)) : Prop where
  len : ∀ p ∈ ps, 0 < p.length ∧ p.length ≤ 8
  page : ∀ p ∈ ps, p.Pairwise Bef
  pages : ps.Pairwise (fun p q => ∀ x ∈ p, ∀ y ∈ q, Bef x y)
theorem rt_of {ps : List (List SP)} (h : right ps = true) : Rt ps := by
  unfold right R at h
  rw [Bool.and_eq_true] at h
  have hp := List.pairwise_flatten.1 (asc_pair _ _ h.2)
  refine ⟨fun p hp => ?_, hp.1, hp.2⟩
  have := List.all_eq_true.1 h.1 p hp
  unfold fits at this
  simp at this
  omega
/-- Where a test changes over. -/
theorem cut {α : Type} (f : α → Bool) : ∀ (l : List α), l.Pairwise (fun x y => f y = true → f x = true) → ∃ k, k ≤ l.length ∧ (∀ t x, l[t]? = some x → t < k → f x = true) ∧ (∀ t x, l[t]? = some x → k ≤ t → f x = false)
  | [], _ => ⟨0, Nat.le_refl _, fun t x h => by simp at h, fun t x h => by simp at h⟩
  | a :: l, h => by
    obtain ⟨h1, h2⟩ := List.pairwise_cons.1 h
    cases ha : f a with
    | false =>
      refine ⟨0, Nat.zero_le _, fun t x _ ht => by omega, fun t x hx _ => ?_⟩
      cases t with
      | zero => simp at hx; rw [← hx]; exact ha
      | succ t =>
        have hm : x ∈ l := List.mem_of_getElem? (by simpa using hx)
        cases hf : f x with
        | false => rfl
        | true => rw [h1 x hm hf] at ha; cases ha
    | true =>
      obtain ⟨k, g1, g2, g3⟩ := cut f l h2
      refine ⟨k + 1, by simpa using g1, fun t x hx ht => ?_, fun t x hx ht => ?_⟩
      · cases t with
        | zero => simp at hx; rw [← hx]; exact ha
        | succ t => exact g2 t x (by simpa using hx) (by omega)
      · cases t with
        | zero => omega
        | succ t => exact g3 t x (by simpa using hx) (by omega)
def fk (p : List SP) : List UInt8 := (rd_T41 p 0).f0.toList
theorem fk_mem {p : List SP} (h : 0 < p.length) : ∃ x ∈ p, fk p = kof x := ⟨p[0], List.getElem_mem h, by unfold fk kof; rw [show (0 : Int) = ((0 : Nat) : Int) from rfl, rdT h]⟩
/-- The pages whose first key is not behind a key. -/
theorem page_cut {ps : List (List SP)} (h : Rt ps) (key : List UInt8) : ∃ k, k ≤ ps.length ∧ (∀ t : Nat, t < k → lt key (fk (rd_L2 ps t)) = false) ∧ (∀ t : Nat, k ≤ t → t < ps.length → lt key (fk (rd_L2 ps t)) = true) := by
  obtain ⟨k, h1, h2, h3⟩ := cut (fun p => !lt key (fk p)) ps (by
    have h4 : ps.Pairwise (fun p q => (p ∈ ps ∧ q ∈ ps) ∧ ∀ x ∈ p, ∀ y ∈ q, Bef x y) := List.Pairwise.imp_of_mem (fun hp hq hr => ⟨⟨hp, hq⟩, hr⟩) h.pages
    refine h4.imp (fun {p q} hr hq => ?_)
    obtain ⟨x, hx, ex⟩ := fk_mem (h.len p hr.1.1).1
    obtain ⟨y, hy, ey⟩ := fk_mem (h.len q hr.1.2).1
    have hb : lt (kof x) (kof y) = true := hr.2 x hx y hy
    rw [← ex, ← ey] at hb
    cases hc : lt key (fk p) with
    | false => simp
    | true =>
      have := lt_trans hc hb
      simp only [this] at hq
      cases hq)
  refine ⟨k, h1, fun t ht => ?_, fun t ht hl => ?_⟩
  · have hl : t < ps.length := by omega
    have := h2 t ps[t] (List.getElem?_eq_getElem hl) ht
    rw [rdL hl]
    simpa using this
  · have := h3 t ps[t] (List.getElem?_eq_getElem hl) ht
    rw [rdL hl]
    simpa using this
/-- The pairs ahead of a key. -/
theorem pair_cut {p : List SP} (h : p.Pairwise Bef) (key : List UInt8) : ∃ i, i ≤ p.length ∧ (∀ t : Nat, t < i → lt (rd_T41 p t).f0.toList key = true) ∧ (∀ t : Nat, i ≤ t → t < p.length → lt (rd_T41 p t).f0.toList key = false) := by
  obtain ⟨k, h1, h2, h3⟩ := cut (fun x => lt (kof x) key) p (h.imp (fun {x y} hr hq => lt_trans hr hq))
  refine ⟨k, h1, fun t ht => ?_, fun t ht hl => ?_⟩
  · have hl : t < p.length := by omega
    rw [rdT hl]
    exact h2 t p[t] (List.getElem?_eq_getElem hl) ht
  · rw [rdT hl]
    exact h3 t p[t] (List.getElem?_eq_getElem hl) ht
/-! ### the reference's -/
/-- A page that may be too long is parted. -/
def part (q : List SP) : List (List SP) := if q.length > 8 then [q.take 4, q.drop 4] else [q]
end Go.Proofs.Ytookpmdgoednfaa.Px
