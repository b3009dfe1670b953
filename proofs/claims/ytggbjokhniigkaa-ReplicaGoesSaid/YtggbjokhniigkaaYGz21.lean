/- Texts laid together: Vs, Cp. No condition. -/
import Derived.Shelf.SlIterI.Sorted
import Derived.Shelf.SortM.Plain
import Derived.Shelf.SortM.SortNone
import Derived.RangeFuncBox
import Derived.RangeFuncLeaves
import Derived.OwnWalkIn
import Derived.TacticsInMore
import Derived.LoopNIn
import Derived.LoopIn
import Derived.BigRegion
import Derived.Test.YtggbjokhniigkaaYGz18
set_option linter.unusedVariables false
set_option linter.unusedSimpArgs false
set_option maxRecDepth 100000
set_option maxHeartbeats 8000000
namespace Go.Proofs.Ytggbjokhniigkaa.Vs
open Go.Proofs Go.RowKit Go.Maps Go.Sort Go.Shelf YtggbjokhniigkaaW.PrintWords YtggbjokhniigkaaW.PrintLast YtggbjokhniigkaaW.PrintMore Mx
def laysZR : Ren :=
  { f := fun x => match x with
    | 6 => 107
    | 8 => 112
    | 9 => 113
    | 11 => 118
    | n => n,
    t := fun x => match x with
    | 26 => 3
    | 28 => 132
    | 24 => 43
    | 0 => 0
    | 33 => 89
    | n => n,
    g := fun x => x }
theorem laysZ : SlLaysZI.n11 Try.prog laysZR :=
  { mixed := rfl,
    f11 := ⟨"slices.AppendSeq[[]int,int]", by decide, Try.func118.trans (congrArg some (by kernel_rfl))⟩,
    t0 := Try.underlying0,
    a0 := Try.isAgg0,
    z0 := Try.sizeOf0,
    v0 := Try.zeroValue0,
    t24 := Try.underlying43,
    a24 := Try.isAgg43,
    z24 := Try.sizeOf43,
    v24 := Try.zeroValue43,
    t26 := Try.underlying3,
    a26 := Try.isAgg3,
    z26 := Try.sizeOf3,
    v26 := Try.zeroValue3,
    t28 := Try.underlying132,
    a28 := Try.isAgg132,
    z28 := Try.sizeOf132,
    v28 := Try.zeroValue132,
    i26 := by kernel_rfl }
def laysMR : Ren :=
  { f := fun x => match x with
    | 5 => 113
    | 8 => 120
    | 7 => 119
    | 19 => 133
    | 20 => 134
    | 10 => 125
    | 11 => 126
    | 12 => 127
    | 13 => 128
    | 14 => 129
    | 15 => 130
    | 16 => 121
    | 17 => 131
    | 18 => 132
    | 30 => 137
    | 31 => 138
    | 32 => 139
    | 33 => 140
    | 34 => 141
    | 35 => 135
    | 40 => 143
    | n => n,
    t := fun x => match x with
    | 23 => 43
    | 25 => 3
    | 3 => 3
    | 32 => 37
    | 22 => 43
    | 0 => 0
    | 44 => 155
    | 46 => 157
    | 4 => 4
    | 36 => 149
    | 35 => 148
    | 41 => 138
    | 5 => 5
    | 9 => 9
    | 53 => 158
    | 57 => 162
    | 63 => 164
    | 64 => 83
    | n => n,
    g := fun x => x }
theorem laysM : SlLaysM.n5 Try.prog laysMR :=
  { mixed := rfl,
    f5 := ⟨"slices.Sort[[]int,int]", by decide, Try.func113.trans (congrArg some (by kernel_rfl))⟩,
    f7 := ⟨"slices.pdqsortOrdered[int]", by decide, Try.func119.trans (congrArg some (by kernel_rfl))⟩,
    f8 := Try.func120.trans (congrArg some (by kernel_rfl)),
    f10 := ⟨"slices.insertionSortOrdered[int]", by decide, Try.func125.trans (congrArg some (by kernel_rfl))⟩,
    f11 := ⟨"slices.heapSortOrdered[int]", by decide, Try.func126.trans (congrArg some (by kernel_rfl))⟩,
    f12 := ⟨"slices.breakPatternsOrdered[int]", by decide, Try.func127.trans (congrArg some (by kernel_rfl))⟩,
    f13 := ⟨"slices.choosePivotOrdered[int]", by decide, Try.func128.trans (congrArg some (by kernel_rfl))⟩,
    f14 := ⟨"slices.reverseRangeOrdered[int]", by decide, Try.func129.trans (congrArg some (by kernel_rfl))⟩,
    f15 := ⟨"slices.partialInsertionSortOrdered[int]", by decide, Try.func130.trans (congrArg some (by kernel_rfl))⟩,
    f16 := ⟨"cmp.Less[int]", by decide, Try.func121.trans (congrArg some (by kernel_rfl))⟩,
    f17 := ⟨"slices.partitionEqualOrdered[int]", by decide, Try.func131.trans (congrArg some (by kernel_rfl))⟩,
    f18 := ⟨"slices.partitionOrdered[int]", by decide, Try.func132.trans (congrArg some (by kernel_rfl))⟩,
    f19 := Try.func133.trans (congrArg some (by kernel_rfl)),
    f20 := Try.func134.trans (congrArg some (by kernel_rfl)),
    f30 := ⟨"slices.siftDownOrdered[int]", by decide, Try.func137.trans (congrArg some (by kernel_rfl))⟩,
    f31 := Try.func138.trans (congrArg some (by kernel_rfl)),
    f32 := Try.func139.trans (congrArg some (by kernel_rfl)),
    f33 := ⟨"slices.medianAdjacentOrdered[int]", by decide, Try.func140.trans (congrArg some (by kernel_rfl))⟩,
    f34 := ⟨"slices.medianOrdered[int]", by decide, Try.func141.trans (congrArg some (by kernel_rfl))⟩,
    f35 := ⟨"cmp.isNaN[int]", by decide, Try.func135.trans (congrArg some (by kernel_rfl))⟩,
    f40 := ⟨"slices.order2Ordered[int]", by decide, Try.func143.trans (congrArg some (by kernel_rfl))⟩,
    t0 := Try.underlying0,
    a0 := Try.isAgg0,
    z0 := Try.sizeOf0,
    v0 := Try.zeroValue0,
    t3 := Try.underlying3,
    a3 := Try.isAgg3,
    z3 := Try.sizeOf3,
    v3 := Try.zeroValue3,
    t4 := Try.underlying4,
    a4 := Try.isAgg4,
    z4 := Try.sizeOf4,
    v4 := Try.zeroValue4,
    t5 := Try.underlying5,
    a5 := Try.isAgg5,
    z5 := Try.sizeOf5,
    v5 := Try.zeroValue5,
    t9 := Try.underlying9,
    a9 := Try.isAgg9,
    z9 := Try.sizeOf9,
    v9 := Try.zeroValue9,
    t22 := Try.underlying43,
    a22 := Try.isAgg43,
    z22 := Try.sizeOf43,
    v22 := Try.zeroValue43,
    t23 := Try.underlying43,
    a23 := Try.isAgg43,
    z23 := Try.sizeOf43,
    v23 := Try.zeroValue43,
    t25 := Try.underlying3,
    a25 := Try.isAgg3,
    z25 := Try.sizeOf3,
    v25 := Try.zeroValue3,
    t32 := Try.underlying37,
    a32 := Try.isAgg37,
    z32 := Try.sizeOf37,
    v32 := Try.zeroValue37,
    t35 := Try.underlying148,
    a35 := Try.isAgg148,
    z35 := Try.sizeOf148,
    v35 := Try.zeroValue148,
    t36 := Try.underlying149,
    a36 := Try.isAgg149,
    z36 := Try.sizeOf149,
    v36 := Try.zeroValue149,
    t41 := Try.underlying138,
    a41 := Try.isAgg138,
    z41 := Try.sizeOf138,
    v41 := Try.zeroValue138,
    t44 := Try.underlying155,
    a44 := Try.isAgg155,
    z44 := Try.sizeOf155,
    v44 := Try.zeroValue155,
    t46 := Try.underlying157,
    a46 := Try.isAgg157,
    z46 := Try.sizeOf157,
    v46 := Try.zeroValue157,
    t53 := Try.underlying158,
    a53 := Try.isAgg158,
    z53 := Try.sizeOf158,
    v53 := Try.zeroValue158,
    t57 := Try.underlying162,
    a57 := Try.isAgg162,
    z57 := Try.sizeOf162,
    v57 := Try.zeroValue162,
    t63 := Try.underlying164,
    a63 := Try.isAgg164,
    z63 := Try.sizeOf164,
    v63 := Try.zeroValue164,
    t64 := Try.underlying83,
    a64 := Try.isAgg83,
    z64 := Try.sizeOf83,
    v64 := Try.zeroValue83 }
attribute [local go_sem] Oper.semAt_some
theorem taken (zs : List Int) (k : Nat) (h : k < zs.length) : zs.take k ++ [zs[k]?.getD 0] = zs.take (k + 1) := by
  rw [List.take_add_one, List.getElem?_eq_getElem h]
  rfl
/-- The iterator over a slice, for a body that keeps what lay below. -/
theorem values1_in (n : Nat) (hn : 1 ≤ n) (l Bs b cap : Nat) (zs : List Int) (hlen : zs.length ≤ 1000000) (w0 : World) (hb : b < w0.heap.size) (J : List Int → World → Prop)
    (hY : ∀ pre x W, J pre W → pre.length < zs.length → YieldAt Fence.wide (n - 1) Try.prog l #[encZ x] W fun e W' => e = .returned (.bool true) ∧ J (pre ++ [x]) W' ∧ KeepsWalks W W')
    (hJB : ∀ pre W', J pre W' → Below w0.heap.size w0 W') (W : World) (hBs : W.cell? ⟨Bs, 0, none⟩ = some (.slice (some ⟨b, 0, none⟩) zs.length cap)) (hc : ∀ j, j < zs.length → w0.cell? ⟨b, j, none⟩ = some (.int .i64 (zs[j]?.getD 0))) (h0 : J [] W) :
    CallsIn Fence.wide n Try.prog 114 #[.func (.yield l) #[] #[], .pointer (some ⟨Bs, 0, none⟩)] W fun e W' => (∃ v, e = .returned v) ∧ J zs W' := by
  refine callsIn_of_wp Try.func114 rfl trivial ?_ rfl
  simp only [Try.ntmps114, List.size_toArray, List.length_cons, List.length_nil, Nat.reduceAdd, Nat.reduceSub, Array.replicate_succ, Array.replicate_zero, List.push_toArray, List.append_toArray, List.nil_append, List.cons_append]
  gi_wp2
  gi_loopw [7] (fun i wr => ∃ k : Nat, k ≤ zs.length ∧ i = .int .i64 k ∧ J (zs.take k) wr)
    (fun i _ => zs.length - (intOf i).toNat)
  case atStart => exact ⟨0, Nat.zero_le _, rfl, h0⟩
  case round =>
    obtain ⟨k, hk, rfl, hJs⟩ := hrel
    by_cases hlt : k < zs.length
    · have ht := taken zs k hlt
      have hcx' : wr.cell? ⟨b, k, none⟩ = some (.int .i64 (zs[k]?.getD 0)) := ((hJB _ _ hJs).cell (p := ⟨b, k, none⟩) hb).trans (hc k hlt)
      obtain ⟨x, hx⟩ : ∃ x, zs[k]?.getD 0 = x := ⟨_, rfl⟩
      rw [hx] at ht hcx'
      clear hx hc
      obtain ⟨fn, tmps, assign, body, hy, hR⟩ := hY _ x wr hJs (by rw [List.length_take]; omega)
      gi_wp2
      refine hR.mono ?_
      rintro e W3 ⟨rfl, hJ3, hk3⟩
      gi_wp2
      go_roundw
      case rel => exact ⟨k + 1, by omega, by simp, by rw [← ht]; exact hJ3⟩
      case measure => simp [intOf]; omega
    · obtain rfl : k = zs.length := by omega
      gi_wp2
      go_end0
      rw [List.take_length] at hJs
      exact ⟨⟨_, rfl⟩, hJs⟩
/-- slices.AppendSeq(nil, slices.Values(l)). -/
theorem appendSeq_values (n : Nat) (hn : 2 ≤ n) (Bq b cap : Nat) (zs : List Int) (hlen : zs.length ≤ 1000000) (w : World) (hq : Bq < w.heap.size) (hb : b < w.heap.size) (hBq : w.cell? ⟨Bq, 0, none⟩ = some (.slice (some ⟨b, 0, none⟩) zs.length cap)) (hc : ∀ j, j < zs.length → w.cell? ⟨b, j, none⟩ = some (.int .i64 (zs[j]?.getD 0))) :
    CallsIn Fence.wide n Try.prog 118 #[.slice none 0 0, .func (.func 114) #[] #[.pointer (some ⟨Bq, 0, none⟩)]] w fun e w' => ∃ v : Value, e = .returned v ∧ w'.ownsRow w.heap.size 3 1 v zs.length (zs.map encZ) ∧ Below w.heap.size w w' := by
  have h1 : 1 ≤ n := by omega
  have eg : ∀ args w, (callFunc 114 args).run Try.prog w = .ok (.enter 114 args) w := enters_of Try.func114 (by kernel_rfl) rfl
  have hne : laysZR.t 24 ≠ laysZR.t 26 := by decide
  refine callsIn_of_wp_marks Try.func118 rfl trivial ?_ rfl
  simp only [Try.ntmps118, List.size_toArray, List.length_cons, List.length_nil, Nat.reduceAdd, Nat.reduceSub, Array.replicate_succ, Array.replicate_zero, List.push_toArray, List.append_toArray, List.nil_append, List.cons_append]
  gi_wp2
  refine wpIn_rangeFunc ?_
  intro fn hfn
  obtain ⟨W0, hW0⟩ : ∃ W0, w.alloc (.cells #[.slice none 0 0] 43) = W0 := ⟨_, rfl⟩
  have hs0 : W0.heap.size = w.heap.size + 1 := by rw [← hW0]; simp
  have hv0 : W0.heap[w.heap.size]? = some (.cells #[.slice none 0 0] 43 (0, 0)) := by rw [← hW0]; exact World.alloc_heap_new w _
  have hb0 : Below w.heap.size w W0 := by rw [← hW0]; exact (Below.refl _ w).alloc (Nat.le_refl _) _
  rw [hW0]
  obtain ⟨sv, hsv⟩ : ∃ sv : Value, .func (.func 114) #[] #[.pointer (some ⟨Bq, 0, none⟩)] = sv := ⟨_, rfl⟩
  obtain ⟨W1, hW1⟩ : ∃ W1, (W0.alloc (.deferred (some []))).alloc (.loop (AnyZI.apRec laysZR fn sv w.heap.size W0.heap.size .ready none)) = W1 := ⟨_, rfl⟩
  have hold : ∀ k, k < W0.heap.size → W1.heap[k]? = W0.heap[k]? := fun k hk => by
    rw [← hW1]; exact (Below.heap_alloc _ _ k (by simp; omega)).trans (Below.heap_alloc _ _ k hk)
  have hb1 : Below w.heap.size w W1 := by rw [← hW1]; exact (hb0.alloc hb0.size _).alloc (by have := hb0.size; simp; omega) _
  have hs1 : W1.heap.size = W0.heap.size + 2 := by rw [← hW1]; simp
  have hM : AnyZI.ApAt laysZR w fn sv w.heap.size (W0.heap.size + 1) W0.heap.size [] W1 :=
    ⟨⟨_, (hold w.heap.size (by omega)).trans hv0, ⟨rfl, .inl ⟨rfl, rfl⟩⟩, by simp⟩,
     by rw [← hW1]; have := World.alloc_heap_new (W0.alloc (.deferred (some []))) (.loop (AnyZI.apRec laysZR fn sv w.heap.size W0.heap.size .ready none)); rwa [World.size_alloc] at this,
     by rw [← hW1]; exact (Below.heap_alloc _ _ _ (by simp)).trans (World.alloc_heap_new W0 _), hb1⟩
  refine ⟨W0.heap.size + 1, [{ target := .collected W0.heap.size, args := #[] }], W1, { target := .fn (.func 114) #[.pointer (some ⟨Bq, 0, none⟩)], args := #[.func (.yield (W0.heap.size + 1)) #[] #[]] }, W1, 114,
    #[.func (.yield (W0.heap.size + 1)) #[] #[]] ++ #[.pointer (some ⟨Bq, 0, none⟩)], W1, ?_, ?_, ?_, ?_, fun _ => h1, ?_⟩
  · subst hsv
    rw [← hW1]
    exact run_enterLoop_outer _ _ _ _ _
  · simp [resolve, go_sem]
  · intro f' hf'; simp [Target.leads] at hf'; subst hf'; trivial
  · simp [invoke, go_sem, eg]
  · refine (values1_in (n - 1) (by omega) (W0.heap.size + 1) Bq b cap zs hlen w hb (AnyZI.ApAt laysZR w fn sv w.heap.size (W0.heap.size + 1) W0.heap.size)
      (fun pre x W hJ hl => AnyZI.apYield laysZ Fence.wide (n - 1 - 1) w fn hfn _ w.heap.size (W0.heap.size + 1) W0.heap.size (by omega) (by omega) (by omega) (Nat.le_refl _) (by omega) zs.length (by unfold maxLen; omega) (by omega) pre x W hJ hl)
      (fun pre W h => h.below) W1 ((hb1.cell hq).trans hBq) hc hM).mono ?_
    rintro e W2 ⟨⟨v0, rfl⟩, h2⟩
    obtain ⟨v, hv, hrow, hnil⟩ := h2.box
    have hend := run_endLoop (P := Try.prog) h2.L (by simp [AnyZI.apRec])
    obtain ⟨W3, hW3⟩ : ∃ W3, W2.putObj (W0.heap.size + 1) (.loop { AnyZI.apRec laysZR fn sv w.heap.size W0.heap.size .ready none with state := .exhausted }) = W3 := ⟨_, rfl⟩
    rw [hW3] at hend
    have hg3 : W2.grownBy W3 (some (W0.heap.size + 1)) := by rw [← hW3]; exact grownBy_putObj_a _ _ _
    have hv3 : W3.heap[w.heap.size]? = some (.cells #[v] 43 (0, 0)) := by rw [← hW3]; exact (World.putObj_heap_other (by omega)).trans hv
    have hK3 : W3.heap[W0.heap.size]? = some (.deferred (some [])) := by rw [← hW3]; exact (World.putObj_heap_other (by omega)).trans h2.K
    have hrow3 := hrow.kept hg3 (ownsRow_ne_a hrow h2.L (fun cur e => by first | cases e | exact hne (Obj.cells.inj e).2.1))
    have hb3 : Below w.heap.size w W3 := h2.below.grown hg3 h2.below.size (fun k e => by cases e; omega)
    obtain ⟨hc3, hf3⟩ := cell_of_box_a hv3
    clear hW3
    refine ⟨none, W3, hend, ?_⟩
    gi_wp2
    rw [← hs0]
    refine ⟨by simp, .inl ⟨_, _, rfl, run_takeDeferred hK3, ?_⟩⟩
    exact ⟨_, results_tmp rfl _ _ _, v, rfl, hrow3.kept (grownBy_putObj_a _ _ _) (ownsRow_ne_a hrow3 hK3 (fun cur e => by first | cases e | exact hne (Obj.cells.inj e).2.1)), hb3.grown (grownBy_putObj_a _ _ _) hb3.size (fun k e => by cases e; omega)⟩
theorem collect_values (Bq b cap : Nat) (zs : List Int) (hlen : zs.length ≤ 1000000) (w : World) (hq : Bq < w.heap.size) (hb : b < w.heap.size) (hBq : w.cell? ⟨Bq, 0, none⟩ = some (.slice (some ⟨b, 0, none⟩) zs.length cap)) (hc : ∀ j, j < zs.length → w.cell? ⟨b, j, none⟩ = some (.int .i64 (zs[j]?.getD 0))) :
    Calls Try.prog 112 #[.func (.func 114) #[] #[.pointer (some ⟨Bq, 0, none⟩)]] w fun e w' => ∃ v : Value, e = .returned v ∧ w'.ownsRow w.heap.size 3 1 v zs.length (zs.map encZ) ∧ Below w.heap.size w w' := by
  have q := (callsIn_wide (n := 5)).1 (appendSeq_values 5 (by decide) Bq b cap zs hlen w hq hb hBq hc)
  clear hBq hc
  go_enter Try.func112, Try.ntmps112
  go_wp2_with fail
  refine q.mono ?_
  rintro e w' ⟨v, rfl, h1, h2⟩
  go_wp2
  go_ret
  exact ⟨_, rfl, h1, h2⟩
theorem values_calls (A : Option Addr) (n c : Nat) (w : World) :
    Calls Try.prog 108 #[.slice A n c] w fun e w' => e = .returned (.func (.func 114) #[] #[.pointer (some ⟨w.heap.size, 0, none⟩)]) ∧ w' = w.alloc (.cells #[.slice A n c] 43 (0, 0)) := by
  go_enter Try.func108, Try.ntmps108
  go_wp2
  go_ret
  exact ⟨rfl, rfl⟩
theorem reps_ints (w : World) (b : Nat) (ok : Nat → Prop) (xs : List Int) : Reps ((Kd.int .i64).M w b ok) (Kd.int .i64).sz xs (xs.map encZ) := by
  refine ⟨by show (xs.map encZ).length = xs.length * 1; rw [List.length_map, Nat.mul_one], fun j p hj => ?_⟩
  show ((xs.map encZ).drop (j * 1)).take 1 = [Value.int .i64 p]
  rw [Nat.mul_one, List.drop_eq_getElem_cons (by rw [List.length_map]; exact (List.getElem?_eq_some_iff.1 hj).1)]
  simp only [List.take_succ_cons, List.take_zero, List.getElem_map, (List.getElem?_eq_some_iff.1 hj).2]
/-- slices.Sorted(slices.Values(l)): a row of its own that holds the numbers, sorted. -/
theorem sorted_calls (Bq b cap : Nat) (zs : List Int) (h0 : 0 < zs.length) (hlen : zs.length ≤ 1000000) (w : World) (hq : Bq < w.heap.size) (hb : b < w.heap.size) (hBq : w.cell? ⟨Bq, 0, none⟩ = some (.slice (some ⟨b, 0, none⟩) zs.length cap)) (hc : ∀ j, j < zs.length → w.cell? ⟨b, j, none⟩ = some (.int .i64 (zs[j]?.getD 0))) (ys : List Int) (hys : zs.mergeSort (fun a b => decide (a ≤ b)) = ys) :
    Calls Try.prog 107 #[.func (.func 114) #[] #[.pointer (some ⟨Bq, 0, none⟩)]] w fun e w' => ∃ v : Value, e = .returned v ∧ Mem w w' [row (Kd.int .i64) 3 v ys] := by
  have q := collect_values Bq b cap zs hlen w hq hb hBq hc
  have HY := Aside0.mk hys
  clear hBq hc hys
  go_enter Try.func107, Try.ntmps107
  go_wp2_with fail
  refine q.mono ?_
  rintro e W ⟨v, rfl, hrow, hB⟩
  obtain ⟨gb, c2, cur, rfl, hbase, hgb, r1, r2, r3, r4⟩ : ∃ gb c2 cur, v = .slice (some ⟨gb, 0, none⟩) zs.length c2 ∧ w.heap.size ≤ gb ∧ W.heap[gb]? = some (.cells cur 3 (0, 0)) ∧ zs.length ≤ c2 ∧ c2 ≤ maxLen ∧ cur.size = c2 * 1 ∧ cur.toList.take (zs.length * 1) = zs.map encZ := by
    rcases hrow.2 with ⟨_, h⟩ | h
    · exact absurd h (by omega)
    · exact h
  have hH : Holds encZ W gb 0 zs.toArray := holds_of_block_i hgb (by simpa using r4)
  have hgl : gb < W.heap.size := (Array.getElem?_eq_some_iff.1 hgb).1
  have HR := Aside0.mk (And.intro hrow (And.intro hB (And.intro hbase (And.intro hgb (And.intro r1 (And.intro r2 r3))))))
  have S := Aside0.mk (AnyM.slices_Sort_int laysM gb 0 c2 zs W hH hgl (by omega))
  clear hrow hB hbase hgb r1 r2 r3 r4 hH hgl q
  go_wp2_with fail
  refine S.out.mono ?_
  rintro e w2 ⟨rfl, k, os, hw2⟩
  obtain ⟨hrow, hB, hbase, hgb, r1, r2, r3⟩ := HR.out
  have hown : w2.ownsRow w.heap.size 3 1 (.slice (some ⟨gb, 0, none⟩) zs.length c2) zs.length ((zs.mergeSort (fun a b => decide (a ≤ b))).map encZ) := by rw [hw2]; exact ownsRow_sorted_i (by simp) hbase hgb r1 r2 r3
  have hB2 : Below w.heap.size w w2 := by rw [hw2]; exact hB.grown (grownBy_sorted_i _) hB.size (fun j hj => by cases hj; exact hbase)
  have M : Mem w w2 [row (Kd.int .i64) 3 (.slice (some ⟨gb, 0, none⟩) zs.length c2) ys] := by
    have hl : ys.length = zs.length := by rw [← HY.out, List.length_mergeSort]
    rw [HY.out] at hown
    refine (Mem.nil w).fresh (ok := fun _ => True) hB2 ⟨fun _ _ => trivial, ys.map encZ, ?_, reps_ints _ _ _ _⟩
    rw [hl]
    exact hown
  clear hown hB2 hw2 S HR hrow hB hbase hgb r1 r2 r3
  go_wp2
  go_ret
  exact ⟨_, rfl, M⟩
end Go.Proofs.Ytggbjokhniigkaa.Vs
namespace Go.Proofs.Ytggbjokhniigkaa.Cp
open Lx Ty Go.RowKit YtggbjokhniigkaaW.PrintWords YtggbjokhniigkaaW.PrintLast YtggbjokhniigkaaW.PrintMore Mx Kx Wa Tk We Sa Tl Wj Wd Mo Vs
def PreparedDoes (w0 w : World) (F : List Res) (g : Nat) (m : Msg) (A : Option Addr) (c : Nat) (s : Rep) (out : List Msg) : Prop :=
  Calls Try.prog 97 #[.pointer (some ⟨g, 0, none⟩), .agg (Kx.mA m A c)] w fun e w' => e = .returned (.tuple #[]) ∧ ∃ v5' v7' v8' v9' v10' vout' : Value, Mem w0 w' (wS g s v5' s.f5 s.f6 v7' v8' v9' v10' vout' out F)
structure PreparedIn (r : Rep) (m : Msg) : Prop where
  i0 : 0 ≤ r.f0
  i1 : r.f0 < r.f1
  n5 : r.f1 ≤ 5
  w0 : 0 ≤ r.f2
  w1 : r.f2 ≤ 4611686018427387904
  l5 : r.f5.length ≤ 1200
  l7 : (r.f7.length : Int) = r.f1
  sz : size r.f1 = true
  x0 : 0 ≤ m.f1
  x1 : m.f1 < r.f1
  b7 : ∀ n ∈ r.f7, 0 ≤ n ∧ n ≤ (r.f5.length : Int)
  c0 : 0 ≤ r.f6
  c1 : r.f6 ≤ (r.f5.length : Int)
theorem eq_b {a b : Int} (h : a = b) : (a == b) = true ∧ (a != b) = false := by simp [h]
theorem ne_b {a b : Int} (h : ¬ a = b) : (a == b) = false ∧ (a != b) = true := by simp [h]
theorem pair_inj {α β : Type} {a c : α} {b d : β} (h : (a, b) = (c, d)) : a = c ∧ b = d := by injection h with h1 h2; exact ⟨h1, h2⟩
theorem blk_apart {w0 w : World} {rs : List Res} (h : Mem w0 w rs) (i j : Nat) {g T g' T' : Nat} {cs cs' : Array Value} (hi : rs[i]? = some (blk g T cs)) (hj : rs[j]? = some (blk g' T' cs')) (hij : i ≠ j) : ¬ g = g' := by
  obtain ⟨f, q, h1, h2, _, _, h5, _⟩ := h.take2 hi hj hij
  intro e
  subst e
  exact h5 _ h1.2 h2.2
theorem most_quiet (w : World) (k g : Nat) (i n vw nr hw : Int) (vl : Value) (cm : Int) (va vv vo vb : Value) (bv bd : Int) (vout : Value)
    (hb : w.heap[g]? = some (.cells (Wa.wc i n vw nr hw vl cm va vv vo vb bv bd vout) 99 (0, 0))) (hn : 0 ≤ n) (hn2 : n ≤ 5) :
    Calls Try.prog 109 #[.pointer (some ⟨g, 0, none⟩)] (w.drewN k) fun e w' => e = .returned (.int .i64 (most n)) ∧ ∃ m, w' = w.drewN m :=
  (most_calls (w.drewN k) g i n vw nr hw vl cm va vv vo vb bv bd vout hb hn hn2).mono fun e w' h => ⟨h.1, by obtain ⟨m, h2⟩ := h.2.out; rw [h2]; exact (Drawn0.step (⟨⟨k, rfl⟩⟩ : Drawn0 w (w.drewN k)) m).out⟩
/-! ### what it comes to -/
section
variable {r : Rep} {m : Msg} {x q : Int} {zs : List Int}
theorem tPrepared_no (h : m.f3 ≠ r.f2 ∨ r.f4 ≠ 0 ∨ r.f2 % r.f1 ≠ r.f0) : tPrepared r m = (r, []) := if_pos h
theorem tPrepared_few (h1 : m.f3 = r.f2) (h2 : r.f4 = 0) (h3 : r.f2 % r.f1 = r.f0) (hz : r.f7.set m.f1.toNat (min (max (rd r.f7 m.f1) m.f4) (r.f5.length : Int)) = zs) (hq : quorum zs r.f1 = q) (h : ¬ r.f6 < q) : tPrepared r m = ({ r with f7 := zs }, []) := by
  subst hz
  subst hq
  unfold tPrepared
  rw [if_neg (fun h => h.elim (fun h => h h1) (fun h => h.elim (fun h => h h2) (fun h => h h3)))]
  exact if_neg h
theorem tPrepared_more (h1 : m.f3 = r.f2) (h2 : r.f4 = 0) (h3 : r.f2 % r.f1 = r.f0) (hz : r.f7.set m.f1.toNat (min (max (rd r.f7 m.f1) m.f4) (r.f5.length : Int)) = zs) (hq : quorum zs r.f1 = q) (h : r.f6 < q) :
    tPrepared r m = ({ r with f7 := zs, f6 := q }, allFrom r.f0 r.f1 r.f2 ⟨3, 0, 0, 0, 0, q, 0, []⟩ r.f1.toNat 0) := by
  subst hz
  subst hq
  unfold tPrepared
  rw [if_neg (fun h => h.elim (fun h => h h1) (fun h => h.elim (fun h => h h2) (fun h => h h3)))]
  exact if_pos h
end
theorem prepared_n1 (w0 w : World) (F : List Res) (g : Nat) (r s : Rep) (m : Msg) (v5 v7 v8 v9 v10 vo : Value) (out ms : List Msg) (A : Option Addr) (c : Nat) (hM : Mem w0 w (wS g r v5 r.f5 r.f6 v7 v8 v9 v10 vo out F)) (H0 : PreparedIn r m) (ho : out.length ≤ 1000) (h1 : ¬ m.f3 = r.f2) : PreparedDoes w0 w F g m A c r (out ++ []) := by
  obtain ⟨e1, e1'⟩ := ne_b h1
  clear h1
  unfold PreparedDoes
  obtain ⟨B5, d5, rfl, _, _⟩ := hM.row_at 2 rfl
  have H := Aside0.mk H0
  have HO := Aside0.mk ho
  have M1 := Aside0.mk (hM.alloc (Kx.mA m A c) 29)
  clear hM H0 ho
  have cM := blk_cell (M1.out.blk_at 0 rfl)
  have cG := blk_cell (M1.out.blk_at 1 rfl)
  unfold Wa.wc at cG
  go_enter Try.func97, Try.ntmps97
  go_wp2_with fail
  have hW := M1.out.blk_at 1 rfl
  go_quiet (fail)
  clear hW
  go_wp2
  first | go_end0 | (refine bodyPost_ret (results_none rfl _ _ _) rfl ?_)
  rw [List.append_nil]
  exact ⟨rfl, _, _, _, _, _, _, Mem.sel (ps := [_, _, _, _, _, _, _, _]) (F := F) [1, 2, 3, 4, 5, 6, 7] 8 (M1.out.drewN _) rfl rfl⟩
theorem prepared_n2 (w0 w : World) (F : List Res) (g : Nat) (r s : Rep) (m : Msg) (v5 v7 v8 v9 v10 vo : Value) (out ms : List Msg) (A : Option Addr) (c : Nat) (hM : Mem w0 w (wS g r v5 r.f5 r.f6 v7 v8 v9 v10 vo out F)) (H0 : PreparedIn r m) (ho : out.length ≤ 1000) (h1 : m.f3 = r.f2) (h2 : ¬ r.f4 = 0) : PreparedDoes w0 w F g m A c r (out ++ []) := by
  obtain ⟨e1, e1'⟩ := eq_b h1
  obtain ⟨e2, e2'⟩ := ne_b h2
  clear h1 h2
  unfold PreparedDoes
  obtain ⟨B5, d5, rfl, _, _⟩ := hM.row_at 2 rfl
  have H := Aside0.mk H0
  have HO := Aside0.mk ho
  have M1 := Aside0.mk (hM.alloc (Kx.mA m A c) 29)
  clear hM H0 ho
  have cM := blk_cell (M1.out.blk_at 0 rfl)
  have cG := blk_cell (M1.out.blk_at 1 rfl)
  unfold Wa.wc at cG
  go_enter Try.func97, Try.ntmps97
  go_wp2_with fail
  have hW := M1.out.blk_at 1 rfl
  go_quiet (fail)
  clear hW
  go_wp2
  first | go_end0 | (refine bodyPost_ret (results_none rfl _ _ _) rfl ?_)
  rw [List.append_nil]
  exact ⟨rfl, _, _, _, _, _, _, Mem.sel (ps := [_, _, _, _, _, _, _, _]) (F := F) [1, 2, 3, 4, 5, 6, 7] 8 (M1.out.drewN _) rfl rfl⟩
theorem prepared_n3 (w0 w : World) (F : List Res) (g : Nat) (r s : Rep) (m : Msg) (v5 v7 v8 v9 v10 vo : Value) (out ms : List Msg) (A : Option Addr) (c : Nat) (hM : Mem w0 w (wS g r v5 r.f5 r.f6 v7 v8 v9 v10 vo out F)) (H0 : PreparedIn r m) (ho : out.length ≤ 1000) (h1 : m.f3 = r.f2) (h2 : r.f4 = 0) (h3 : ¬ r.f2 % r.f1 = r.f0) : PreparedDoes w0 w F g m A c r (out ++ []) := by
  obtain ⟨e1, e1'⟩ := eq_b h1
  obtain ⟨e2, e2'⟩ := eq_b h2
  obtain ⟨e3, e3'⟩ := ne_b h3
  clear h1 h2 h3
  unfold PreparedDoes
  obtain ⟨B5, d5, rfl, _, _⟩ := hM.row_at 2 rfl
  have H := Aside0.mk H0
  have HO := Aside0.mk ho
  have M1 := Aside0.mk (hM.alloc (Kx.mA m A c) 29)
  clear hM H0 ho
  have cM := blk_cell (M1.out.blk_at 0 rfl)
  have cG := blk_cell (M1.out.blk_at 1 rfl)
  unfold Wa.wc at cG
  go_enter Try.func97, Try.ntmps97
  go_wp2_with fail
  have hW := M1.out.blk_at 1 rfl
  go_quiet ((go_at_call 74; exact primary_quiet _ _ g r.f0 r.f1 r.f2 r.f3 r.f4 _ r.f6 _ _ _ _ r.f11 r.f12 _ r.f2 hW H.out.w0 H.out.w1 (by have := H.out.i0; have := H.out.i1; omega) H.out.n5))
  clear hW
  go_wp2
  first | go_end0 | (refine bodyPost_ret (results_none rfl _ _ _) rfl ?_)
  rw [List.append_nil]
  exact ⟨rfl, _, _, _, _, _, _, Mem.sel (ps := [_, _, _, _, _, _, _, _]) (F := F) [1, 2, 3, 4, 5, 6, 7] 8 (M1.out.drewN _) rfl rfl⟩
theorem prepared_on (w0 w : World) (F : List Res) (g : Nat) (r s : Rep) (m : Msg) (v5 v7 v8 v9 v10 vo : Value) (out ms : List Msg) (A : Option Addr) (c : Nat) (hM : Mem w0 w (wS g r v5 r.f5 r.f6 v7 v8 v9 v10 vo out F)) (H0 : PreparedIn r m) (ho : out.length ≤ 1000) (h1 : m.f3 = r.f2) (h2 : r.f4 = 0) (h3 : r.f2 % r.f1 = r.f0) (hs : tPrepared r m = (s, ms)) : PreparedDoes w0 w F g m A c s (out ++ ms) := by
  have HSS := Aside0.mk hs
  have H123 := Aside0.mk (And.intro h1 (And.intro h2 h3))
  obtain ⟨e1, e1'⟩ := eq_b h1
  obtain ⟨e2, e2'⟩ := eq_b h2
  obtain ⟨e3, e3'⟩ := eq_b h3
  clear h1 h2 h3 hs
  obtain ⟨g7, k7, rfl, hg7⟩ := hM.int_form 3 rfl (by have := H0.i0; have := H0.i1; have := H0.l7; omega)
  clear hg7
  unfold PreparedDoes
  obtain ⟨B5, d5, rfl, _, _⟩ := hM.row_at 2 rfl
  have H := Aside0.mk H0
  have HO := Aside0.mk ho
  have M1 := Aside0.mk (hM.alloc (Kx.mA m A c) 29)
  clear hM H0 ho
  have cM := blk_cell (M1.out.blk_at 0 rfl)
  have cG := blk_cell (M1.out.blk_at 1 rfl)
  unfold Wa.wc at cG
  go_enter Try.func97, Try.ntmps97
  go_wp2_with fail
  go_upto_region 1 with (fail)
  go_cut [36] (fun s36 wx => s36 = .bool false ∧ Aside0 (Mem w0 wx (blk w.heap.size 29 (Kx.mA m A c) :: blk g 99 (Wa.wc r.f0 r.f1 r.f2 r.f3 r.f4 (.slice B5 r.f5.length d5) r.f6 (.slice (some ⟨g7, 0, none⟩) r.f7.length k7) v8 v9 v10 r.f11 r.f12 vo) :: row kM 29 vo out :: row kE 102 (.slice B5 r.f5.length d5) r.f5 :: row (Kd.int .i64) 3 (.slice (some ⟨g7, 0, none⟩) r.f7.length k7) r.f7 :: row (Kd.int .i64) 3 v8 r.f8 :: row (Kd.int .i64) 3 v9 r.f9 :: row kE 102 v10 r.f10 :: F)))
  case first =>
    have hW := M1.out.blk_at 1 rfl
    go_quiet ((go_at_call 74; exact primary_quiet _ _ g r.f0 r.f1 r.f2 r.f3 r.f4 _ r.f6 _ _ _ _ r.f11 r.f12 _ r.f2 hW H.out.w0 H.out.w1 (by have := H.out.i0; have := H.out.i1; omega) H.out.n5))
    go_wp2_with fail
    go_meet
    case rel => exact ⟨rfl, ⟨M1.out.drewN _⟩⟩
  case rest =>
  obtain ⟨rfl, M2⟩ := hcut
  clear M1 cM cG e1 e1' e2 e2' e3 e3'
  obtain ⟨x, hx⟩ : ∃ x, min (max (rd r.f7 m.f1) m.f4) (r.f5.length : Int) = x := ⟨_, rfl⟩
  have HX := Aside0.mk hx
  clear hx
  go_upto_region 2 with (fail)
  go_cut [] (fun wy => Aside0 (Mem w0 wy (blk w.heap.size 29 (Kx.mA m A c) :: blk g 99 (Wa.wc r.f0 r.f1 r.f2 r.f3 r.f4 (.slice B5 r.f5.length d5) r.f6 (.slice (some ⟨g7, 0, none⟩) r.f7.length k7) v8 v9 v10 r.f11 r.f12 vo) :: row kM 29 vo out :: row kE 102 (.slice B5 r.f5.length d5) r.f5 :: row (Kd.int .i64) 3 (.slice (some ⟨g7, 0, none⟩) r.f7.length k7) (r.f7.set m.f1.toNat x) :: row (Kd.int .i64) 3 v8 r.f8 :: row (Kd.int .i64) 3 v9 r.f9 :: row kE 102 v10 r.f10 :: F)))
  case first =>
    have cM := blk_cell (M2.out.blk_at 0 rfl)
    have cG := blk_cell (M2.out.blk_at 1 rfl)
    unfold Wa.wc at cG
    have hi0 := H.out.x0
    have hi2 : m.f1 < (r.f7.length : Int) := by have := H.out.x1; have := H.out.l7; omega
    have x7 := (M2.out.int_cell 4 rfl m.f1 hi0 hi2).1
    have y7 := (M2.out.int_cell 4 rfl m.f1 hi0 hi2).2
    have hi3 : (m.f1 < (r.f7.length : Int)) = True := eq_true hi2
    go_region
    go_wp2_with fail
    go_meet
    case rel =>
      have hx := HX.out
      subst hx
      exact ⟨(M2.out.int_put 4 rfl m.f1 _).drew⟩
  case rest =>
  clear M2
  have M2 := hcut
  clear hcut
  obtain ⟨zs, hz⟩ : ∃ zs, r.f7.set m.f1.toNat x = zs := ⟨_, rfl⟩
  have hlz : r.f7.length = zs.length := by rw [← hz, List.length_set]
  have HZ : Aside0 (r.f7.set m.f1.toNat (min (max (rd r.f7 m.f1) m.f4) (r.f5.length : Int)) = zs) := ⟨by rw [HX.out]; exact hz⟩
  have HLZ := Aside0.mk (show (zs.length : Int) = r.f1 from by rw [← hlz]; exact H.out.l7)
  have M3 : Aside0 (Mem w0 wc (blk w.heap.size 29 (Kx.mA m A c) :: blk g 99 (Wa.wc r.f0 r.f1 r.f2 r.f3 r.f4 (.slice B5 r.f5.length d5) r.f6 (.slice (some ⟨g7, 0, none⟩) zs.length k7) v8 v9 v10 r.f11 r.f12 vo) :: row kM 29 vo out :: row kE 102 (.slice B5 r.f5.length d5) r.f5 :: row (Kd.int .i64) 3 (.slice (some ⟨g7, 0, none⟩) zs.length k7) zs :: row (Kd.int .i64) 3 v8 r.f8 :: row (Kd.int .i64) 3 v9 r.f9 :: row kE 102 v10 r.f10 :: F)) := ⟨by have h := M2.out; rw [hz, hlz] at h; exact h⟩
  clear M2 HX hz hlz
  have hz0 : 0 < zs.length := by have := HLZ.out; have := H.out.i0; have := H.out.i1; omega
  have hzl : zs.length ≤ 1000000 := by have := HLZ.out; have := H.out.n5; omega
  obtain ⟨ys, hys⟩ : ∃ ys, zs.mergeSort (fun a b => decide (a ≤ b)) = ys := ⟨_, rfl⟩
  have HY := Aside0.mk hys
  have hyl : ys.length = zs.length := by rw [← hys, List.length_mergeSort]
  clear hys
  have hmo := Tq.size_most H.out.sz
  obtain ⟨q, hq⟩ : ∃ q, rd ys (r.f1 - most r.f1) = q := ⟨_, rfl⟩
  have HQ : Aside0 (quorum zs r.f1 = q) := ⟨by unfold quorum; rw [HY.out]; exact hq⟩
  have hw1 : wrap64 (r.f1 - most r.f1) = r.f1 - most r.f1 := by have := H.out.n5; unfold wrap64; omega
  have hw2 : IntKind.i64.wrap (r.f1 - most r.f1) = r.f1 - most r.f1 := by have := H.out.n5; rw [IntKind.wrap_i64]; omega
  have hj0 : 0 ≤ r.f1 - most r.f1 := hmo.1
  have hj1 : r.f1 - most r.f1 < (ys.length : Int) := by rw [hyl]; have := HLZ.out; omega
  have hj2 : (r.f1 - most r.f1 < (ys.length : Int)) = True := eq_true hj1
  have HJ := Aside0.mk (And.intro hj0 (And.intro hj1 (And.intro hw1 (And.intro hw2 (And.intro hj2 (And.intro hyl hq))))))
  clear hj0 hj1 hw1 hw2 hj2 hyl hq hmo
  have cM := blk_cell (M3.out.blk_at 0 rfl)
  have cG := blk_cell (M3.out.blk_at 1 rfl)
  unfold Wa.wc at cG
  go_wp2_with fail
  refine (values_calls _ _ _ _).mono ?_
  rintro e w1 ⟨rfl, rfl⟩
  have M4 := Aside0.mk (M3.out.allocAt #[.slice (some ⟨g7, 0, none⟩) zs.length k7] 43 wc.heap.size rfl)
  have HC : Aside0 (∀ j, j < zs.length → (wc.alloc (.cells #[.slice (some ⟨g7, 0, none⟩) zs.length k7] 43 (0, 0))).cell? ⟨g7, j, none⟩ = some (.int .i64 (zs[j]?.getD 0))) := ⟨fun j hj => by
    have h := (M4.out.int_cell 5 rfl (j : Int) (by omega) (by omega)).1
    rw [Int.toNat_natCast] at h
    rw [h]
    unfold rd
    rw [Int.toNat_natCast, List.getD_eq_getElem?_getD]⟩
  go_wp2_with fail
  refine (sorted_calls wc.heap.size g7 k7 zs hz0 hzl _ (by simp) (World.block_lt_of_cell? _ _ (HC.out 0 hz0)) (blk_cell (M4.out.blk_at 0 rfl) 0) HC.out ys HY.out).mono ?_
  rintro e w2 ⟨v, rfl, hM⟩
  obtain ⟨g4, k4, rfl, _⟩ := hM.int_form 0 rfl (by have := HJ.out.2.2.2.2.2.1; omega)
  have M5 := Aside0.mk (Mem.sel (ps := [_, _, _, _, _, _, _, _, _, _]) (F := F) [2, 3, 4, 5, 6, 7, 8, 9, 0] 10 (M4.out.trans hM) rfl rfl)
  clear hM M4 M3 HC cM cG hz0 hzl
  have cG := blk_cell (M5.out.blk_at 1 rfl)
  have fG := blk_frozen (M5.out.blk_at 1 rfl)
  have gG := blk_lt (M5.out.blk_at 1 rfl)
  have hW := M5.out.blk_at 1 rfl
  unfold Wa.wc at cG
  obtain ⟨hj0, hj1, hw1, hw2, hj2, hyl, hq⟩ := HJ.out
  have x4 := (M5.out.int_cell 8 rfl _ hj0 hj1).1
  rw [hq] at x4
  clear hq hyl
  go_wp2_with fail
  go_quiet ((go_at_call 109; exact most_quiet _ _ g r.f0 r.f1 r.f2 r.f3 r.f4 _ r.f6 _ _ _ _ r.f11 r.f12 _ hW (by have := H.out.i0; have := H.out.i1; omega) H.out.n5))
  clear hW x4 hj0 hj1 hw1 hw2 hj2
  by_cases h6 : r.f6 < q
  case neg =>
    have e6 : decide (r.f6 < q) = false := decide_eq_false h6
    have H6 := Aside0.mk h6
    clear h6
    go_wp2
    first | go_end0 | (refine bodyPost_ret (results_none rfl _ _ _) rfl ?_)
    obtain ⟨hs1, hs2⟩ := pair_inj ((tPrepared_few H123.out.1 H123.out.2.1 H123.out.2.2 HZ.out HQ.out (Int.not_lt.2 H6.out)).symm.trans HSS.out)
    subst hs1
    subst hs2
    rw [List.append_nil]
    exact ⟨rfl, _, _, _, _, _, _, Mem.sel (ps := [_, _, _, _, _, _, _, _, _]) (F := F) [1, 2, 3, 4, 5, 6, 7] 9 (M5.out.drewN _) rfl rfl⟩
  have e6 : decide (r.f6 < q) = true := decide_eq_true h6
  have H6 := Aside0.mk h6
  clear h6
  go_wp2_with fail
  refine (all_calls w0 _ emp _ g r.f0 r.f1 r.f2 r.f3 r.f4 _ q _ v8 v9 v10 r.f11 r.f12 vo out 3 0 0 0 0 q 0 none 0 [] (Mem.sel (ps := [_, _, _, _, _, _, _, _, _, _]) (F := F) [0, 2, 3, 4, 5, 6, 7, 8] 10 (Mem.cons_emp ((M5.out.drewN _).set 1 rfl 6 (.int .i64 q))) rfl rfl) (Rd.old (C_zero _)) (by decide) (by decide) (Nat.le_trans HO.out (by decide)) (by have := H.out.i0; have := H.out.i1; omega) H.out.n5).mono ?_
  rintro e w3 ⟨vo2, rfl, hM⟩
  have M6 := Aside0.mk hM
  clear hM
  go_wp2
  first | go_end0 | (refine bodyPost_ret (results_none rfl _ _ _) rfl ?_)
  obtain ⟨hs1, hs2⟩ := pair_inj ((tPrepared_more H123.out.1 H123.out.2.1 H123.out.2.2 HZ.out HQ.out H6.out).symm.trans HSS.out)
  subst hs1
  subst hs2
  exact ⟨rfl, _, _, _, _, _, _, Mem.sel (ps := [_, _, _, _, _, _, _, _]) (F := F) [1, 2, 3, 4, 5, 6, 7] 8 M6.out rfl rfl⟩
theorem prepared_calls (w0 w : World) (F : List Res) (g : Nat) (r s : Rep) (m : Msg) (v5 v7 v8 v9 v10 vo : Value) (out ms : List Msg) (A : Option Addr) (c : Nat) (hM : Mem w0 w (wS g r v5 r.f5 r.f6 v7 v8 v9 v10 vo out F)) (H0 : PreparedIn r m) (ho : out.length ≤ 1000) (hs : tPrepared r m = (s, ms)) : PreparedDoes w0 w F g m A c s (out ++ ms) := by
  by_cases h1 : m.f3 = r.f2
  case neg =>
    obtain ⟨e1, e2⟩ := pair_inj ((tPrepared_no (.inl h1)).symm.trans hs)
    subst e1
    subst e2
    exact prepared_n1 w0 w F g r r m v5 v7 v8 v9 v10 vo out [] A c hM H0 ho h1
  by_cases h2 : r.f4 = 0
  case neg =>
    obtain ⟨e1, e2⟩ := pair_inj ((tPrepared_no (.inr (.inl h2))).symm.trans hs)
    subst e1
    subst e2
    exact prepared_n2 w0 w F g r r m v5 v7 v8 v9 v10 vo out [] A c hM H0 ho h1 h2
  by_cases h3 : r.f2 % r.f1 = r.f0
  case neg =>
    obtain ⟨e1, e2⟩ := pair_inj ((tPrepared_no (.inr (.inr h3))).symm.trans hs)
    subst e1
    subst e2
    exact prepared_n3 w0 w F g r r m v5 v7 v8 v9 v10 vo out [] A c hM H0 ho h1 h2 h3
  exact prepared_on w0 w F g r s m v5 v7 v8 v9 v10 vo out ms A c hM H0 ho h1 h2 h3 hs
end Go.Proofs.Ytggbjokhniigkaa.Cp
