/- Texts laid together: Lx, Mo, Tq, Vs. No condition. -/
import Derived.Deep.RegionHeld3
import Derived.Shelf.SlIterI.Sorted
import Derived.Shelf.SortM.Plain
import Derived.Shelf.SortM.SortNone
import Derived.RangeFuncBox
import Derived.RangeFuncLeaves
import Derived.OwnWalkIn
import Derived.TacticsInMore
import Derived.LoopNIn
import Derived.LoopIn
import Derived.Test.YtggbjokhniigkaaGreatY2z17
namespace Go.Proofs.YtggbjokhniigkaaGreat.Lx
open Go.Proofs.YtggbjokhniigkaaGreat.Ty Go.RowKit Go.Proofs.YtggbjokhniigkaaGreatW.PrintWords Go.Proofs.YtggbjokhniigkaaGreatW.PrintLast Go.Proofs.YtggbjokhniigkaaGreatW.PrintMore Go.Proofs.YtggbjokhniigkaaGreat.Mx Go.Proofs.YtggbjokhniigkaaGreat.Kx Go.Proofs.YtggbjokhniigkaaGreat.Wa Go.Proofs.YtggbjokhniigkaaGreat.Tk Go.Proofs.YtggbjokhniigkaaGreat.We Go.Proofs.YtggbjokhniigkaaGreat.Sa Go.Proofs.YtggbjokhniigkaaGreat.Tl Go.Proofs.YtggbjokhniigkaaGreat.Wj Go.Proofs.YtggbjokhniigkaaGreat.Wd
set_option linter.unusedVariables false
set_option linter.unusedSimpArgs false
abbrev wS (g : Nat) (r : Rep) (v5 : Value) (l5 : List Entry) (cm : Int) (v7 v8 v9 v10 vo : Value) (out : List Msg) (F : List Res) : List Res :=
  blk g 95 (Wa.wc r.f0 r.f1 r.f2 r.f3 r.f4 v5 cm v7 v8 v9 v10 r.f11 r.f12 vo) :: row kM 27 vo out :: row kE 68 v5 l5 :: row (Kd.int .i64) 3 v7 r.f7 :: row (Kd.int .i64) 3 v8 r.f8 :: row (Kd.int .i64) 3 v9 r.f9 :: row kE 68 v10 r.f10 :: F
abbrev qS (g : Nat) (r : Rep) (v5 : Value) (l5 : List Entry) (cm : Int) (v7 v8 v9 v10 : Value) (F : List Res) : List Res :=
  blk g 25 (qc r.f0 r.f1 r.f2 r.f3 r.f4 v5 cm v7 v8 v9 v10 r.f11 r.f12) :: row kE 68 v5 l5 :: row (Kd.int .i64) 3 v7 r.f7 :: row (Kd.int .i64) 3 v8 r.f8 :: row (Kd.int .i64) 3 v9 r.f9 :: row kE 68 v10 r.f10 :: F
end Go.Proofs.YtggbjokhniigkaaGreat.Lx
namespace Go.Proofs.YtggbjokhniigkaaGreat.Mo
open Go.Proofs.YtggbjokhniigkaaGreat.Ty Go.RowKit Go.Proofs.YtggbjokhniigkaaGreatW.PrintWords Go.Proofs.YtggbjokhniigkaaGreatW.PrintLast Go.Proofs.YtggbjokhniigkaaGreatW.PrintMore Go.Proofs.YtggbjokhniigkaaGreat.Mx Go.Proofs.YtggbjokhniigkaaGreat.Kx Go.Proofs.YtggbjokhniigkaaGreat.Wa Go.Proofs.YtggbjokhniigkaaGreat.Wd Go.Proofs.YtggbjokhniigkaaGreat.Tk
set_option linter.unusedVariables false
set_option linter.unusedSimpArgs false
theorem half {n : Int} (h : 0 ≤ n) : n.tdiv 2 = n / 2 := Int.tdiv_eq_ediv_of_nonneg h
theorem half_wrap {n : Int} (h : 0 ≤ n) (h2 : n ≤ 5) : wrap64 (n / 2 + 1) = most n ∧ IntKind.i64.wrap (n / 2 + 1) = most n ∧ wrap64 (n / 2) = n / 2 ∧ IntKind.i64.wrap (n / 2) = n / 2 := by
  unfold most
  refine ⟨?_, ?_, ?_, ?_⟩
  · unfold wrap64; omega
  · rw [IntKind.wrap_i64]; omega
  · unfold wrap64; omega
  · rw [IntKind.wrap_i64]; omega
set_option maxRecDepth 100000 in
set_option maxHeartbeats 2000000 in
theorem most_calls (w : World) (g : Nat) (i n vw nr hw : Int) (vl : Value) (cm : Int) (va vv vo vb : Value) (bv bd : Int) (vout : Value)
    (hb : w.heap[g]? = some (.cells (wc i n vw nr hw vl cm va vv vo vb bv bd vout) 95 (0, 0))) (hn : 0 ≤ n) (hn2 : n ≤ 5) :
    Calls Tryz.prog 131 #[.pointer (some ⟨g, 0, none⟩)] w fun e w' => e = .returned (.int .i64 (most n)) ∧ Drawn0 w w' := by
  have cB := blk_cell hb
  unfold wc at cB
  clear hb
  have ht := half hn
  obtain ⟨h1, h2, h3, h4⟩ := half_wrap hn hn2
  go_enter Tryz.func131, Tryz.ntmps131
  go_wp2
  (try go_quiet (fail))
  (try go_wp2)
  go_ret
  exact ⟨by first | rfl | (simp only [ht, h1, h2, h3, h4]; done) | (simp [ht, h1, h2, h3, h4]; done) | (unfold most; rfl), by repeat (first | exact Drawn0.refl _ | apply Drawn0.step)⟩
set_option maxRecDepth 100000 in
set_option maxHeartbeats 2000000 in
theorem most11_calls (w : World) (n : Int) (hn : 0 ≤ n) (hn2 : n ≤ 5) :
    Calls Tryz.prog 113 #[.int .i64 n] w fun e w' => e = .returned (.int .i64 (most n)) ∧ Drawn0 w w' := by
  have ht := half hn
  obtain ⟨h1, h2, h3, h4⟩ := half_wrap hn hn2
  go_enter Tryz.func113, Tryz.ntmps113
  go_wp2
  (try go_quiet (fail))
  (try go_wp2)
  go_ret
  exact ⟨by first | rfl | (simp only [ht, h1, h2, h3, h4]; done) | (simp [ht, h1, h2, h3, h4]; done) | (unfold most; rfl), by repeat (first | exact Drawn0.refl _ | apply Drawn0.step)⟩
end Go.Proofs.YtggbjokhniigkaaGreat.Mo
namespace Go.Proofs.YtggbjokhniigkaaGreat.Tq
open Go.Proofs.YtggbjokhniigkaaGreat.Ty Go.Proofs.YtggbjokhniigkaaGreat.Tk
def cnt (l : List Int) (i : Int) : Nat := (l.filter (fun x => decide (i ≤ x))).length
theorem cnt_iff {s : List Int} (hs : s.Pairwise (fun a b => a ≤ b)) {k : Nat} (hk : k < s.length) (i : Int) : s.length - k ≤ cnt s i ↔ i ≤ s[k] := by
  have hp := List.pairwise_iff_getElem.1 hs
  constructor
  · intro h
    rcases Int.lt_or_le s[k] i with h1 | h1
    · exfalso
      have e : cnt s i = cnt (s.drop (k + 1)) i := by
        unfold cnt
        conv => lhs; rw [← List.take_append_drop (k + 1) s]
        rw [List.filter_append]
        have e2 : (s.take (k + 1)).filter (fun x => decide (i ≤ x)) = [] := by
          rw [List.filter_eq_nil_iff]
          intro x hx
          obtain ⟨j, hj, rfl⟩ := List.mem_iff_getElem.1 hx
          rw [List.length_take] at hj
          rw [List.getElem_take]
          have h2 : s[j]'(by omega) ≤ s[k] := by
            rcases Nat.lt_or_ge j k with h3 | h3
            · exact hp j k (by omega) hk h3
            · obtain rfl : j = k := by omega
              exact Int.le_refl _
          simp only [decide_eq_true_eq]
          omega
        rw [e2, List.nil_append]
      have h2 : cnt (s.drop (k + 1)) i ≤ (s.drop (k + 1)).length := List.length_filter_le _ _
      rw [List.length_drop] at h2
      omega
    · exact h1
  · intro h
    have e : (s.drop k).filter (fun x => decide (i ≤ x)) = s.drop k := by
      rw [List.filter_eq_self]
      intro x hx
      obtain ⟨j, hj, rfl⟩ := List.mem_iff_getElem.1 hx
      rw [List.length_drop] at hj
      rw [List.getElem_drop]
      have h2 : s[k] ≤ s[k + j]'(by omega) := by
        rcases Nat.eq_zero_or_pos j with h3 | h3
        · subst h3
          exact Int.le_refl _
        · exact hp k (k + j) hk (by omega) (by omega)
      simp only [decide_eq_true_eq]
      omega
    unfold cnt
    conv => rhs; rw [← List.take_append_drop k s]
    rw [List.filter_append, e, List.length_append, List.length_drop]
    omega
theorem cnt_perm {s l : List Int} (h : s.Perm l) (i : Int) : cnt s i = cnt l i := (h.filter _).length_eq
theorem size_most {n : Int} (h : size n = true) : 0 ≤ n - most n ∧ n - most n < n ∧ n - (n - most n) = most n ∧ 1 ≤ most n := by
  unfold size at h
  unfold most
  simp at h
  omega
/-- Of a sorted one. -/
theorem sorted_iff {s l : List Int} (hp : s.Perm l) (hs : s.Pairwise (fun a b => a ≤ b)) {n : Int} (hn : (l.length : Int) = n) (hz : size n = true) (i : Int) : most n ≤ (cnt l i : Int) ↔ i ≤ s.getD (n - most n).toNat 0 := by
  have h1 := size_most hz
  have hl : s.length = l.length := hp.length_eq
  have hk : (n - most n).toNat < s.length := by omega
  rw [← cnt_perm hp, List.getD_eq_getElem?_getD, List.getElem?_eq_getElem hk, Option.getD_some, ← cnt_iff hs hk]
  omega
theorem merge_sorted (l : List Int) : (l.mergeSort (fun a b => decide (a ≤ b))).Pairwise (fun a b => a ≤ b) := by
  have h := List.pairwise_mergeSort (le := fun (a b : Int) => decide (a ≤ b)) (fun a b c h1 h2 => by simp only [decide_eq_true_eq] at *; omega) (fun a b => by simp only [Bool.or_eq_true, decide_eq_true_eq]; omega) l
  exact h.imp (fun h => by simpa using h)
theorem quorum_iff {l : List Int} {n : Int} (hn : (l.length : Int) = n) (hz : size n = true) (i : Int) : most n ≤ (cnt l i : Int) ↔ i ≤ quorum l n :=
  sorted_iff (List.mergeSort_perm l _) (merge_sorted l) hn hz i
theorem quorum_mem {l : List Int} {n : Int} (hn : (l.length : Int) = n) (hz : size n = true) : quorum l n ∈ l := by
  have h1 := size_most hz
  have hl : (l.mergeSort (fun a b => decide (a ≤ b))).length = l.length := List.length_mergeSort l
  have hk : (n - most n).toNat < (l.mergeSort (fun a b => decide (a ≤ b))).length := by omega
  unfold quorum
  rw [List.getD_eq_getElem?_getD, List.getElem?_eq_getElem hk, Option.getD_some]
  exact (List.mergeSort_perm l _).mem_iff.1 (List.getElem_mem hk)
/-! ### rising numbers -/
end Go.Proofs.YtggbjokhniigkaaGreat.Tq
namespace Go.Proofs.YtggbjokhniigkaaGreat.Vs
open Go.Proofs Go.RowKit Go.Maps Go.Sort Go.Shelf Go.Proofs.YtggbjokhniigkaaGreatW.PrintWords Go.Proofs.YtggbjokhniigkaaGreatW.PrintLast Go.Proofs.YtggbjokhniigkaaGreatW.PrintMore Go.Proofs.YtggbjokhniigkaaGreat.Mx
set_option linter.unusedVariables false
set_option linter.unusedSimpArgs false
def laysZR : Ren :=
  { f := fun x => match x with
    | 6 => 129
    | 8 => 135
    | 9 => 136
    | 11 => 141
    | n => n,
    t := fun x => match x with
    | 26 => 3
    | 28 => 142
    | 24 => 23
    | 0 => 0
    | 33 => 73
    | n => n,
    g := fun x => x }
theorem laysZ : SlLaysZI.n11 Tryz.prog laysZR :=
  { mixed := rfl,
    f11 := ⟨"slices.AppendSeq[[]int,int]", by decide, Tryz.func141.trans (congrArg some (by kernel_rfl))⟩,
    t0 := Tryz.underlying0,
    a0 := Tryz.isAgg0,
    z0 := Tryz.sizeOf0,
    v0 := Tryz.zeroValue0,
    t24 := Tryz.underlying23,
    a24 := Tryz.isAgg23,
    z24 := Tryz.sizeOf23,
    v24 := Tryz.zeroValue23,
    t26 := Tryz.underlying3,
    a26 := Tryz.isAgg3,
    z26 := Tryz.sizeOf3,
    v26 := Tryz.zeroValue3,
    t28 := Tryz.underlying142,
    a28 := Tryz.isAgg142,
    z28 := Tryz.sizeOf142,
    v28 := Tryz.zeroValue142,
    i26 := by kernel_rfl }
def laysMR : Ren :=
  { f := fun x => match x with
    | 5 => 136
    | 8 => 143
    | 7 => 142
    | 19 => 156
    | 20 => 157
    | 10 => 148
    | 11 => 149
    | 12 => 150
    | 13 => 151
    | 14 => 152
    | 15 => 153
    | 16 => 144
    | 17 => 154
    | 18 => 155
    | 30 => 160
    | 31 => 161
    | 32 => 162
    | 33 => 163
    | 34 => 164
    | 35 => 158
    | 40 => 166
    | n => n,
    t := fun x => match x with
    | 23 => 23
    | 25 => 3
    | 3 => 3
    | 32 => 69
    | 22 => 23
    | 0 => 0
    | 44 => 165
    | 46 => 167
    | 4 => 4
    | 36 => 159
    | 35 => 158
    | 41 => 147
    | 5 => 5
    | 9 => 9
    | 53 => 168
    | 57 => 172
    | 63 => 174
    | 64 => 43
    | n => n,
    g := fun x => x }
theorem laysM : SlLaysM.n5 Tryz.prog laysMR :=
  { mixed := rfl,
    f5 := ⟨"slices.Sort[[]int,int]", by decide, Tryz.func136.trans (congrArg some (by kernel_rfl))⟩,
    f7 := ⟨"slices.pdqsortOrdered[int]", by decide, Tryz.func142.trans (congrArg some (by kernel_rfl))⟩,
    f8 := Tryz.func143.trans (congrArg some (by kernel_rfl)),
    f10 := ⟨"slices.insertionSortOrdered[int]", by decide, Tryz.func148.trans (congrArg some (by kernel_rfl))⟩,
    f11 := ⟨"slices.heapSortOrdered[int]", by decide, Tryz.func149.trans (congrArg some (by kernel_rfl))⟩,
    f12 := ⟨"slices.breakPatternsOrdered[int]", by decide, Tryz.func150.trans (congrArg some (by kernel_rfl))⟩,
    f13 := ⟨"slices.choosePivotOrdered[int]", by decide, Tryz.func151.trans (congrArg some (by kernel_rfl))⟩,
    f14 := ⟨"slices.reverseRangeOrdered[int]", by decide, Tryz.func152.trans (congrArg some (by kernel_rfl))⟩,
    f15 := ⟨"slices.partialInsertionSortOrdered[int]", by decide, Tryz.func153.trans (congrArg some (by kernel_rfl))⟩,
    f16 := ⟨"cmp.Less[int]", by decide, Tryz.func144.trans (congrArg some (by kernel_rfl))⟩,
    f17 := ⟨"slices.partitionEqualOrdered[int]", by decide, Tryz.func154.trans (congrArg some (by kernel_rfl))⟩,
    f18 := ⟨"slices.partitionOrdered[int]", by decide, Tryz.func155.trans (congrArg some (by kernel_rfl))⟩,
    f19 := Tryz.func156.trans (congrArg some (by kernel_rfl)),
    f20 := Tryz.func157.trans (congrArg some (by kernel_rfl)),
    f30 := ⟨"slices.siftDownOrdered[int]", by decide, Tryz.func160.trans (congrArg some (by kernel_rfl))⟩,
    f31 := Tryz.func161.trans (congrArg some (by kernel_rfl)),
    f32 := Tryz.func162.trans (congrArg some (by kernel_rfl)),
    f33 := ⟨"slices.medianAdjacentOrdered[int]", by decide, Tryz.func163.trans (congrArg some (by kernel_rfl))⟩,
    f34 := ⟨"slices.medianOrdered[int]", by decide, Tryz.func164.trans (congrArg some (by kernel_rfl))⟩,
    f35 := ⟨"cmp.isNaN[int]", by decide, Tryz.func158.trans (congrArg some (by kernel_rfl))⟩,
    f40 := ⟨"slices.order2Ordered[int]", by decide, Tryz.func166.trans (congrArg some (by kernel_rfl))⟩,
    t0 := Tryz.underlying0,
    a0 := Tryz.isAgg0,
    z0 := Tryz.sizeOf0,
    v0 := Tryz.zeroValue0,
    t3 := Tryz.underlying3,
    a3 := Tryz.isAgg3,
    z3 := Tryz.sizeOf3,
    v3 := Tryz.zeroValue3,
    t4 := Tryz.underlying4,
    a4 := Tryz.isAgg4,
    z4 := Tryz.sizeOf4,
    v4 := Tryz.zeroValue4,
    t5 := Tryz.underlying5,
    a5 := Tryz.isAgg5,
    z5 := Tryz.sizeOf5,
    v5 := Tryz.zeroValue5,
    t9 := Tryz.underlying9,
    a9 := Tryz.isAgg9,
    z9 := Tryz.sizeOf9,
    v9 := Tryz.zeroValue9,
    t22 := Tryz.underlying23,
    a22 := Tryz.isAgg23,
    z22 := Tryz.sizeOf23,
    v22 := Tryz.zeroValue23,
    t23 := Tryz.underlying23,
    a23 := Tryz.isAgg23,
    z23 := Tryz.sizeOf23,
    v23 := Tryz.zeroValue23,
    t25 := Tryz.underlying3,
    a25 := Tryz.isAgg3,
    z25 := Tryz.sizeOf3,
    v25 := Tryz.zeroValue3,
    t32 := Tryz.underlying69,
    a32 := Tryz.isAgg69,
    z32 := Tryz.sizeOf69,
    v32 := Tryz.zeroValue69,
    t35 := Tryz.underlying158,
    a35 := Tryz.isAgg158,
    z35 := Tryz.sizeOf158,
    v35 := Tryz.zeroValue158,
    t36 := Tryz.underlying159,
    a36 := Tryz.isAgg159,
    z36 := Tryz.sizeOf159,
    v36 := Tryz.zeroValue159,
    t41 := Tryz.underlying147,
    a41 := Tryz.isAgg147,
    z41 := Tryz.sizeOf147,
    v41 := Tryz.zeroValue147,
    t44 := Tryz.underlying165,
    a44 := Tryz.isAgg165,
    z44 := Tryz.sizeOf165,
    v44 := Tryz.zeroValue165,
    t46 := Tryz.underlying167,
    a46 := Tryz.isAgg167,
    z46 := Tryz.sizeOf167,
    v46 := Tryz.zeroValue167,
    t53 := Tryz.underlying168,
    a53 := Tryz.isAgg168,
    z53 := Tryz.sizeOf168,
    v53 := Tryz.zeroValue168,
    t57 := Tryz.underlying172,
    a57 := Tryz.isAgg172,
    z57 := Tryz.sizeOf172,
    v57 := Tryz.zeroValue172,
    t63 := Tryz.underlying174,
    a63 := Tryz.isAgg174,
    z63 := Tryz.sizeOf174,
    v63 := Tryz.zeroValue174,
    t64 := Tryz.underlying43,
    a64 := Tryz.isAgg43,
    z64 := Tryz.sizeOf43,
    v64 := Tryz.zeroValue43 }
attribute [local go_sem] Oper.semAt_some
theorem taken (zs : List Int) (k : Nat) (h : k < zs.length) : zs.take k ++ [zs[k]?.getD 0] = zs.take (k + 1) := by
  rw [List.take_add_one, List.getElem?_eq_getElem h]
  rfl
set_option maxRecDepth 100000 in
set_option maxHeartbeats 2000000 in
/-- The iterator over a slice, for a body that keeps what lay below. -/
theorem values1_in (n : Nat) (hn : 1 ≤ n) (l Bs b cap : Nat) (zs : List Int) (hlen : zs.length ≤ 1000000) (w0 : World) (hb : b < w0.heap.size) (J : List Int → World → Prop)
    (hY : ∀ pre x W, J pre W → pre.length < zs.length → YieldAt Fence.wide (n - 1) Tryz.prog l #[encZ x] W fun e W' => e = .returned (.bool true) ∧ J (pre ++ [x]) W' ∧ KeepsWalks W W')
    (hJB : ∀ pre W', J pre W' → Below w0.heap.size w0 W') (W : World) (hBs : W.cell? ⟨Bs, 0, none⟩ = some (.slice (some ⟨b, 0, none⟩) zs.length cap)) (hc : ∀ j, j < zs.length → w0.cell? ⟨b, j, none⟩ = some (.int .i64 (zs[j]?.getD 0))) (h0 : J [] W) :
    CallsIn Fence.wide n Tryz.prog 137 #[.func (.yield l) #[] #[], .pointer (some ⟨Bs, 0, none⟩)] W fun e W' => (∃ v, e = .returned v) ∧ J zs W' := by
  refine callsIn_of_wp Tryz.func137 rfl trivial ?_ rfl
  simp only [Tryz.ntmps137, List.size_toArray, List.length_cons, List.length_nil, Nat.reduceAdd, Nat.reduceSub, Array.replicate_succ, Array.replicate_zero, List.push_toArray, List.append_toArray, List.nil_append, List.cons_append]
  gi_wp2
  gi_loopw [7] (fun i wr => ∃ k : Nat, k ≤ zs.length ∧ i = .int .i64 k ∧ J (zs.take k) wr)
    (fun i _ => zs.length - (intOf i).toNat)
  case atStart => exact ⟨0, Nat.zero_le _, rfl, h0⟩
  case round =>
    obtain ⟨k, hk, rfl, hJs⟩ := hrel
    by_cases hlt : k < zs.length
    · have ht := taken zs k hlt
      have hcx' : wr.cell? ⟨b, k, none⟩ = some (.int .i64 (zs[k]?.getD 0)) := ((hJB _ _ hJs).cell (p := ⟨b, k, none⟩) hb).trans (hc k hlt)
      obtain ⟨x, hx⟩ : ∃ x, zs[k]?.getD 0 = x := ⟨_, rfl⟩
      rw [hx] at ht hcx'
      clear hx hc
      obtain ⟨fn, tmps, assign, body, hy, hR⟩ := hY _ x wr hJs (by rw [List.length_take]; omega)
      gi_wp2
      refine hR.mono ?_
      rintro e W3 ⟨rfl, hJ3, hk3⟩
      gi_wp2
      go_roundw
      case rel => exact ⟨k + 1, by omega, by simp, by rw [← ht]; exact hJ3⟩
      case measure => simp [intOf]; omega
    · obtain rfl : k = zs.length := by omega
      gi_wp2
      go_end0
      rw [List.take_length] at hJs
      exact ⟨⟨_, rfl⟩, hJs⟩
set_option maxRecDepth 100000 in
set_option maxHeartbeats 2000000 in
/-- slices.AppendSeq(nil, slices.Values(l)). -/
theorem appendSeq_values (n : Nat) (hn : 2 ≤ n) (Bq b cap : Nat) (zs : List Int) (hlen : zs.length ≤ 1000000) (w : World) (hq : Bq < w.heap.size) (hb : b < w.heap.size) (hBq : w.cell? ⟨Bq, 0, none⟩ = some (.slice (some ⟨b, 0, none⟩) zs.length cap)) (hc : ∀ j, j < zs.length → w.cell? ⟨b, j, none⟩ = some (.int .i64 (zs[j]?.getD 0))) :
    CallsIn Fence.wide n Tryz.prog 141 #[.slice none 0 0, .func (.func 137) #[] #[.pointer (some ⟨Bq, 0, none⟩)]] w fun e w' => ∃ v : Value, e = .returned v ∧ w'.ownsRow w.heap.size 3 1 v zs.length (zs.map encZ) ∧ Below w.heap.size w w' := by
  have h1 : 1 ≤ n := by omega
  have eg : ∀ args w, (callFunc 137 args).run Tryz.prog w = .ok (.enter 137 args) w := enters_of Tryz.func137 (by kernel_rfl) rfl
  have hne : laysZR.t 24 ≠ laysZR.t 26 := by decide
  refine callsIn_of_wp_marks Tryz.func141 rfl trivial ?_ rfl
  simp only [Tryz.ntmps141, List.size_toArray, List.length_cons, List.length_nil, Nat.reduceAdd, Nat.reduceSub, Array.replicate_succ, Array.replicate_zero, List.push_toArray, List.append_toArray, List.nil_append, List.cons_append]
  gi_wp2
  refine wpIn_rangeFunc ?_
  intro fn hfn
  obtain ⟨W0, hW0⟩ : ∃ W0, w.alloc (.cells #[.slice none 0 0] 23) = W0 := ⟨_, rfl⟩
  have hs0 : W0.heap.size = w.heap.size + 1 := by rw [← hW0]; simp
  have hv0 : W0.heap[w.heap.size]? = some (.cells #[.slice none 0 0] 23 (0, 0)) := by rw [← hW0]; exact World.alloc_heap_new w _
  have hb0 : Below w.heap.size w W0 := by rw [← hW0]; exact (Below.refl _ w).alloc (Nat.le_refl _) _
  rw [hW0]
  obtain ⟨sv, hsv⟩ : ∃ sv : Value, .func (.func 137) #[] #[.pointer (some ⟨Bq, 0, none⟩)] = sv := ⟨_, rfl⟩
  obtain ⟨W1, hW1⟩ : ∃ W1, (W0.alloc (.deferred (some []))).alloc (.loop (AnyZI.apRec laysZR fn sv w.heap.size W0.heap.size .ready none)) = W1 := ⟨_, rfl⟩
  have hold : ∀ k, k < W0.heap.size → W1.heap[k]? = W0.heap[k]? := fun k hk => by
    rw [← hW1]; exact (Below.heap_alloc _ _ k (by simp; omega)).trans (Below.heap_alloc _ _ k hk)
  have hb1 : Below w.heap.size w W1 := by rw [← hW1]; exact (hb0.alloc hb0.size _).alloc (by have := hb0.size; simp; omega) _
  have hs1 : W1.heap.size = W0.heap.size + 2 := by rw [← hW1]; simp
  have hM : AnyZI.ApAt laysZR w fn sv w.heap.size (W0.heap.size + 1) W0.heap.size [] W1 :=
    ⟨⟨_, (hold w.heap.size (by omega)).trans hv0, ⟨rfl, .inl ⟨rfl, rfl⟩⟩, by simp⟩,
     by rw [← hW1]; have := World.alloc_heap_new (W0.alloc (.deferred (some []))) (.loop (AnyZI.apRec laysZR fn sv w.heap.size W0.heap.size .ready none)); rwa [World.size_alloc] at this,
     by rw [← hW1]; exact (Below.heap_alloc _ _ _ (by simp)).trans (World.alloc_heap_new W0 _), hb1⟩
  refine ⟨W0.heap.size + 1, [{ target := .collected W0.heap.size, args := #[] }], W1, { target := .fn (.func 137) #[.pointer (some ⟨Bq, 0, none⟩)], args := #[.func (.yield (W0.heap.size + 1)) #[] #[]] }, W1, 137,
    #[.func (.yield (W0.heap.size + 1)) #[] #[]] ++ #[.pointer (some ⟨Bq, 0, none⟩)], W1, ?_, ?_, ?_, ?_, fun _ => h1, ?_⟩
  · subst hsv
    rw [← hW1]
    exact run_enterLoop_outer _ _ _ _ _
  · simp [resolve, go_sem]
  · intro f' hf'; simp [Target.leads] at hf'; subst hf'; trivial
  · simp [invoke, go_sem, eg]
  · refine (values1_in (n - 1) (by omega) (W0.heap.size + 1) Bq b cap zs hlen w hb (AnyZI.ApAt laysZR w fn sv w.heap.size (W0.heap.size + 1) W0.heap.size)
      (fun pre x W hJ hl => AnyZI.apYield laysZ Fence.wide (n - 1 - 1) w fn hfn _ w.heap.size (W0.heap.size + 1) W0.heap.size (by omega) (by omega) (by omega) (Nat.le_refl _) (by omega) zs.length (by unfold maxLen; omega) (by omega) pre x W hJ hl)
      (fun pre W h => h.below) W1 ((hb1.cell hq).trans hBq) hc hM).mono ?_
    rintro e W2 ⟨⟨v0, rfl⟩, h2⟩
    obtain ⟨v, hv, hrow, hnil⟩ := h2.box
    have hend := run_endLoop (P := Tryz.prog) h2.L (by simp [AnyZI.apRec])
    obtain ⟨W3, hW3⟩ : ∃ W3, W2.putObj (W0.heap.size + 1) (.loop { AnyZI.apRec laysZR fn sv w.heap.size W0.heap.size .ready none with state := .exhausted }) = W3 := ⟨_, rfl⟩
    rw [hW3] at hend
    have hg3 : W2.grownBy W3 (some (W0.heap.size + 1)) := by rw [← hW3]; exact grownBy_putObj_a _ _ _
    have hv3 : W3.heap[w.heap.size]? = some (.cells #[v] 23 (0, 0)) := by rw [← hW3]; exact (World.putObj_heap_other (by omega)).trans hv
    have hK3 : W3.heap[W0.heap.size]? = some (.deferred (some [])) := by rw [← hW3]; exact (World.putObj_heap_other (by omega)).trans h2.K
    have hrow3 := hrow.kept hg3 (ownsRow_ne_a hrow h2.L (fun cur e => by first | cases e | exact hne (Obj.cells.inj e).2.1))
    have hb3 : Below w.heap.size w W3 := h2.below.grown hg3 h2.below.size (fun k e => by cases e; omega)
    obtain ⟨hc3, hf3⟩ := cell_of_box_a hv3
    clear hW3
    refine ⟨none, W3, hend, ?_⟩
    gi_wp2
    rw [← hs0]
    refine ⟨by simp, .inl ⟨_, _, rfl, run_takeDeferred hK3, ?_⟩⟩
    exact ⟨_, results_tmp rfl _ _ _, v, rfl, hrow3.kept (grownBy_putObj_a _ _ _) (ownsRow_ne_a hrow3 hK3 (fun cur e => by first | cases e | exact hne (Obj.cells.inj e).2.1)), hb3.grown (grownBy_putObj_a _ _ _) hb3.size (fun k e => by cases e; omega)⟩
set_option maxRecDepth 100000 in
set_option maxHeartbeats 2000000 in
theorem collect_values (Bq b cap : Nat) (zs : List Int) (hlen : zs.length ≤ 1000000) (w : World) (hq : Bq < w.heap.size) (hb : b < w.heap.size) (hBq : w.cell? ⟨Bq, 0, none⟩ = some (.slice (some ⟨b, 0, none⟩) zs.length cap)) (hc : ∀ j, j < zs.length → w.cell? ⟨b, j, none⟩ = some (.int .i64 (zs[j]?.getD 0))) :
    Calls Tryz.prog 135 #[.func (.func 137) #[] #[.pointer (some ⟨Bq, 0, none⟩)]] w fun e w' => ∃ v : Value, e = .returned v ∧ w'.ownsRow w.heap.size 3 1 v zs.length (zs.map encZ) ∧ Below w.heap.size w w' := by
  have q := (callsIn_wide (n := 5)).1 (appendSeq_values 5 (by decide) Bq b cap zs hlen w hq hb hBq hc)
  clear hBq hc
  go_enter Tryz.func135, Tryz.ntmps135
  go_wp2_with fail
  refine q.mono ?_
  rintro e w' ⟨v, rfl, h1, h2⟩
  go_wp2
  go_ret
  exact ⟨_, rfl, h1, h2⟩
set_option maxRecDepth 100000 in
set_option maxHeartbeats 2000000 in
theorem values_calls (A : Option Addr) (n c : Nat) (w : World) :
    Calls Tryz.prog 130 #[.slice A n c] w fun e w' => e = .returned (.func (.func 137) #[] #[.pointer (some ⟨w.heap.size, 0, none⟩)]) ∧ w' = w.alloc (.cells #[.slice A n c] 23 (0, 0)) := by
  go_enter Tryz.func130, Tryz.ntmps130
  go_wp2
  go_ret
  exact ⟨rfl, rfl⟩
theorem reps_ints (w : World) (b : Nat) (ok : Nat → Prop) (xs : List Int) : Reps ((Kd.int .i64).M w b ok) (Kd.int .i64).sz xs (xs.map encZ) := by
  refine ⟨by show (xs.map encZ).length = xs.length * 1; rw [List.length_map, Nat.mul_one], fun j p hj => ?_⟩
  show ((xs.map encZ).drop (j * 1)).take 1 = [Value.int .i64 p]
  rw [Nat.mul_one, List.drop_eq_getElem_cons (by rw [List.length_map]; exact (List.getElem?_eq_some_iff.1 hj).1)]
  simp only [List.take_succ_cons, List.take_zero, List.getElem_map, (List.getElem?_eq_some_iff.1 hj).2]
set_option maxRecDepth 100000 in
set_option maxHeartbeats 2000000 in
/-- slices.Sorted(slices.Values(l)): a row of its own that holds the numbers, sorted. -/
theorem sorted_calls (Bq b cap : Nat) (zs : List Int) (h0 : 0 < zs.length) (hlen : zs.length ≤ 1000000) (w : World) (hq : Bq < w.heap.size) (hb : b < w.heap.size) (hBq : w.cell? ⟨Bq, 0, none⟩ = some (.slice (some ⟨b, 0, none⟩) zs.length cap)) (hc : ∀ j, j < zs.length → w.cell? ⟨b, j, none⟩ = some (.int .i64 (zs[j]?.getD 0))) (ys : List Int) (hys : zs.mergeSort (fun a b => decide (a ≤ b)) = ys) :
    Calls Tryz.prog 129 #[.func (.func 137) #[] #[.pointer (some ⟨Bq, 0, none⟩)]] w fun e w' => ∃ v : Value, e = .returned v ∧ Mem w w' [row (Kd.int .i64) 3 v ys] := by
  have q := collect_values Bq b cap zs hlen w hq hb hBq hc
  have HY := Aside0.mk hys
  clear hBq hc hys
  go_enter Tryz.func129, Tryz.ntmps129
  go_wp2_with fail
  refine q.mono ?_
  rintro e W ⟨v, rfl, hrow, hB⟩
  obtain ⟨gb, c2, cur, rfl, hbase, hgb, r1, r2, r3, r4⟩ : ∃ gb c2 cur, v = .slice (some ⟨gb, 0, none⟩) zs.length c2 ∧ w.heap.size ≤ gb ∧ W.heap[gb]? = some (.cells cur 3 (0, 0)) ∧ zs.length ≤ c2 ∧ c2 ≤ maxLen ∧ cur.size = c2 * 1 ∧ cur.toList.take (zs.length * 1) = zs.map encZ := by
    rcases hrow.2 with ⟨_, h⟩ | h
    · exact absurd h (by omega)
    · exact h
  have hH : Holds encZ W gb 0 zs.toArray := holds_of_block_i hgb (by simpa using r4)
  have hgl : gb < W.heap.size := (Array.getElem?_eq_some_iff.1 hgb).1
  have HR := Aside0.mk (And.intro hrow (And.intro hB (And.intro hbase (And.intro hgb (And.intro r1 (And.intro r2 r3))))))
  have S := Aside0.mk (AnyM.slices_Sort_int laysM gb 0 c2 zs W hH hgl (by omega))
  clear hrow hB hbase hgb r1 r2 r3 r4 hH hgl q
  go_wp2_with fail
  refine S.out.mono ?_
  rintro e w2 ⟨rfl, k, os, hw2⟩
  obtain ⟨hrow, hB, hbase, hgb, r1, r2, r3⟩ := HR.out
  have hown : w2.ownsRow w.heap.size 3 1 (.slice (some ⟨gb, 0, none⟩) zs.length c2) zs.length ((zs.mergeSort (fun a b => decide (a ≤ b))).map encZ) := by rw [hw2]; exact ownsRow_sorted_i (by simp) hbase hgb r1 r2 r3
  have hB2 : Below w.heap.size w w2 := by rw [hw2]; exact hB.grown (grownBy_sorted_i _) hB.size (fun j hj => by cases hj; exact hbase)
  have M : Mem w w2 [row (Kd.int .i64) 3 (.slice (some ⟨gb, 0, none⟩) zs.length c2) ys] := by
    have hl : ys.length = zs.length := by rw [← HY.out, List.length_mergeSort]
    rw [HY.out] at hown
    refine (Mem.nil w).fresh (ok := fun _ => True) hB2 ⟨fun _ _ => trivial, ys.map encZ, ?_, reps_ints _ _ _ _⟩
    rw [hl]
    exact hown
  clear hown hB2 hw2 S HR hrow hB hbase hgb r1 r2 r3
  go_wp2
  go_ret
  exact ⟨_, rfl, M⟩
end Go.Proofs.YtggbjokhniigkaaGreat.Vs
