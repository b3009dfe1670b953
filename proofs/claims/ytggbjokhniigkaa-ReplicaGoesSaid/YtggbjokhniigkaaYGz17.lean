/- Texts laid together: Pn, Jo, Ad, Ij. No condition. -/
import Derived.Lib.AppendZerosOnto
import Derived.Laws.NewBlocks
import Derived.Deep.RegionLaw
import Derived.Test.YtggbjokhniigkaaYGz16
set_option linter.unusedVariables false
set_option linter.unusedSimpArgs false
set_option maxRecDepth 100000
set_option maxHeartbeats 8000000
namespace Go.Proofs.Ytggbjokhniigkaa.Pn
open Go.RowKit YtggbjokhniigkaaW.PrintWords YtggbjokhniigkaaW.PrintLast YtggbjokhniigkaaW.PrintMore Mx Ty Kx Wa Wd
theorem shape_of {w : World} {g T : Nat} {cs : Array Value} (h : w.heap[g]? = some (.cells cs T (0, 0))) : w.shape? g = some (T, cs.size) := by simp [World.shape?, h]
theorem ins_take {α : Type} {enc : α → List Value} {K : Nat} (hl : ∀ x, (enc x).length = K) (xs ys : List α) (i n m : Nat) (hi : i ≤ n) (hx : xs.length = n) (hy : ys.length = m) (L : List Value) (hL : (n + m) * K ≤ L.length) (h1 : L.take (i * K) = (xs.take i).flatMap enc) (h2 : (L.drop (i * K)).take (m * K) = ys.flatMap enc) (h3 : (L.drop ((i + m) * K)).take ((n - i) * K) = (xs.drop i).flatMap enc) :
    L.take ((xs.take i ++ ys ++ xs.drop i).length * K) = (xs.take i ++ ys ++ xs.drop i).flatMap enc := by
  have e : (xs.take i ++ ys ++ xs.drop i).length = n + m := by simp; omega
  have a1 : (i + m) * K = i * K + m * K := Nat.add_mul ..
  have a2 : (n - i) * K + i * K = n * K := by rw [← Nat.add_mul]; congr 1; omega
  have a3 : (n + m) * K = n * K + m * K := Nat.add_mul ..
  rw [e, List.flatMap_append, List.flatMap_append, ← h1, ← h2, ← h3]
  have e2 : (n + m) * K = i * K + (m * K + (n - i) * K) := by omega
  rw [e2, List.take_add, List.take_add, List.drop_drop, ← a1, List.append_assoc]
theorem flatI : Flat (Kd.int .i64) (fun h : Int => [Value.int .i64 h]) := ⟨fun h => h, fun _ _ _ _ => rfl, fun h => h⟩
theorem Wh0_ne {w0 w : World} {rs : List Res} (h : Mem w0 w rs) (i j : Nat) {g T g' T' : Nat} {cs cs' : Array Value} (hi : rs[i]? = some (blk g T cs)) (hj : rs[j]? = some (blk g' T' cs')) (hij : i ≠ j) : ¬ g = g' := by
  obtain ⟨f, q, h1, h2, _, _, h5, _⟩ := h.take2 hi hj hij
  intro e
  subst e
  exact h5 _ h1.2 h2.2
/-! ### insI -/
theorem insI_cells {w0 w : World} {rs : List Res} (k : Nat) {g : Nat} {cs : Array Value} {xs : List Int} {n : Nat} (h : Mem w0 w rs) (hi : rs[k]? = some (blk g 3 cs)) (ht : cs.toList.take (n * 1) = xs.flatMap (fun h : Int => [Value.int .i64 h])) : ∀ j v, (xs.flatMap (fun h : Int => [Value.int .i64 h]))[j]? = some v → w.cell? ⟨g, j, none⟩ = some v := by
  intro j v hj
  rw [blk_cell (h.blk_at k hi) j, ← Array.getElem?_toList]
  rw [← ht, List.getElem?_take] at hj
  split at hj
  · exact hj
  · cases hj
theorem insI_end (w0 w : World) (F : List Res) (g n c gv i m : Nat) (xs ys : List Int) (hM : Mem w0 w (row (Kd.int .i64) 3 (.slice (some ⟨g, 0, none⟩) n c) xs :: blk gv 3 (ys.flatMap (fun h : Int => [Value.int .i64 h])).toArray :: F)) (hy : ys.length = m) (hm : 0 < m) (hm1 : m ≤ 1000) (hin : i = n) (hp : 0 < n) (hn : n ≤ 1000000) (zs : List Int) (hzs : xs.take i ++ ys ++ xs.drop i = zs) : Calls Try.prog 116 #[.slice (some ⟨g, 0, none⟩) n c, .int .i64 i, .slice (some ⟨gv, 0, none⟩) m m] w fun e w' => ∃ v', e = .returned v' ∧ Mem w0 w' (row (Kd.int .i64) 3 v' zs :: F) := by
  subst hin
  obtain ⟨hix, hic, hC0⟩ := Kd.R_reads' (hM.hold (i := 0) rfl)
  have hv := Mem.blk_row (c := m) flatI hM 1 ys rfl (by rw [List.size_toArray, flat_len (sz := 1) (fun _ => rfl), hy]; rfl) (by rw [List.take_of_length_le]; rw [flat_len (sz := 1) (fun _ => rfl)]; exact Nat.le_refl _) (by omega) (by unfold maxLen; omega)
  have hC := hv.row_C 1 rfl
  rw [hy] at hC
  have HC := Aside0.mk hC
  have HL := Aside0.mk hix
  rw [List.take_of_length_le (by omega), List.drop_eq_nil_of_le (by omega), List.append_nil] at hzs
  subst hzs
  have M0 := Aside0.mk hM
  clear hM hv hC hC0 hic
  have e1 : ((m : Int) == 0) = false := by simp; omega
  have e2 : ((i : Int) == (i : Int)) = true := by simp
  have e3 : ¬ ((m : Int) = 0) := by omega
  have e4 : (i : Int) ≤ (i : Int) := Int.le_refl _
  go_enter Try.func116, Try.ntmps116
  go_wp2_with (((with_reducible refine gate_builtin (b := .append) (xs := #[.tmp 23, .tmp 24]) rfl ?_); at_builtin; refine Mem.app (Kd.int .i64) M0.out 0 _ xs ys rfl (.tmp 23) (.tmp 24) 43 3 _ _ rfl Try.underlying43 infoInt rfl (by decide) (by omega) (some ⟨gv, 0, none⟩) m m rfl rfl rfl HC.out (fun x cs h => by have h2 := flatI.rd_ h; subst h2; exact flatI.mk_ _ _ _ _) (by have := HL.out; omega) ?_; intro v1 w1 hM1; have M1 := Aside0.mk hM1; clear hM1))
  all_goals
    go_ret
    exact ⟨_, rfl, Mem.sel (ps := [_, _]) (F := F) [0] 2 M1.out rfl rfl⟩
theorem insI_overlaps (w : World) (g gv n c : Nat) (o lb cb m vc : Nat) (cs vs : Array Value) (hne : gv ≠ g) (h1 : w.heap[gv]? = some (.cells vs 3 (0, 0))) (h2 : w.heap[g]? = some (.cells cs 3 (0, 0))) (h3 : cs.size ≠ 0) :
    (callFunc 123 #[.slice (some ⟨gv, 0, none⟩) m vc, .slice (some ⟨g, o, none⟩) lb cb]).run Try.prog w = .ok (.value (.bool false)) w := by
  rw [run_callFunc_extern Try.func123 (by kernel_rfl) (by kernel_rfl) (by kernel_rfl) (e := Extern.SlicesOverlaps.overlaps #[43, 43] #[4]) (by kernel_rfl),
    Lib.run_overlaps_apart w 43 4 3 Try.underlying43 1 (fun w => by kernel_rfl) ⟨gv, 0, none⟩ ⟨g, o, none⟩ m vc lb cb hne 3 3 vs.size cs.size (shape_of h1) (shape_of h2) h3 (blk_frozen h1 0) (blk_frozen h1 _)]
  rfl
theorem insI_room (w0 w : World) (F : List Res) (g n c gv i m : Nat) (xs ys : List Int) (hM : Mem w0 w (row (Kd.int .i64) 3 (.slice (some ⟨g, 0, none⟩) n c) xs :: blk gv 3 (ys.flatMap (fun h : Int => [Value.int .i64 h])).toArray :: F)) (hy : ys.length = m) (hm : 0 < m) (hm1 : m ≤ 1000) (hin : i < n) (hr : n + m ≤ c) (hn : n ≤ 1000000) (zs : List Int) (hzs : xs.take i ++ ys ++ xs.drop i = zs) : Calls Try.prog 116 #[.slice (some ⟨g, 0, none⟩) n c, .int .i64 i, .slice (some ⟨gv, 0, none⟩) m m] w fun e w' => ∃ v', e = .returned v' ∧ Mem w0 w' (row (Kd.int .i64) 3 v' zs :: F) := by
  obtain ⟨cs, hsz, htk, hnx, hnc, hcm, hB⟩ := Mem.row_blk flatI hM 0 rfl
  change cs.size = c * 1 at hsz
  change cs.toList.take (n * 1) = _ at htk
  have hcs := insI_cells 0 hB rfl htk
  have hvs := insI_cells (n := m) (xs := ys) 1 hB rfl (by rw [List.take_of_length_le]; rw [flat_len (sz := 1) (fun _ => rfl), hy]; exact Nat.le_refl _)
  have hfl : (xs.flatMap (fun h : Int => [Value.int .i64 h])).length = n * 1 := by rw [flat_len (sz := 1) (fun _ => rfl), ← hnx]
  have hvl : (ys.flatMap (fun h : Int => [Value.int .i64 h])).length = m * 1 := by rw [flat_len (sz := 1) (fun _ => rfl), hy]
  have h1c : ∀ v ∈ xs.flatMap (fun h : Int => [Value.int .i64 h]), v.oneCell' = true := fun v hv => by obtain ⟨x, _, hx⟩ := List.mem_flatMap.1 hv; exact flatI.one w x v hx
  have h1v : ∀ v ∈ ys.flatMap (fun h : Int => [Value.int .i64 h]), v.oneCell' = true := fun v hv => by obtain ⟨x, _, hx⟩ := List.mem_flatMap.1 hv; exact flatI.one w x v hx
  have hsp : ∀ j, j < (n + m) * 1 → (w.cell? ⟨g, j, none⟩).isSome = true := fun j hj => by rw [blk_cell (hB.blk_at 0 rfl) j, Array.getElem?_eq_getElem (by have := Nat.mul_le_mul_right 1 hr; omega)]; rfl
  have hsp : ∀ j, j < (n + m) * 1 → (w.cell? ⟨g, j, none⟩).isSome = true := fun j hj => hsp j hj
  have hfz : ∀ j, w.frozen? ⟨g, j, none⟩ = false := fun j => blk_frozen (hB.blk_at 0 rfl) j
  have hvb : gv ≠ g := fun e => Wh0_ne hB 1 0 rfl rfl (by decide) e
  have hov := fun o lb cb => insI_overlaps w g gv n c o lb cb m m cs _ hvb (hB.blk_at 1 rfl) (hB.blk_at 0 rfl) (by omega)
  have hdl : ((xs.flatMap (fun h : Int => [Value.int .i64 h])).drop (i * 1)).length = (n - i) * 1 := by rw [List.length_drop, hfl, Nat.sub_mul]
  have hinfo : (Try.prog.info? 3).map (·.size) = some 1 := by kernel_rfl
  have hcp1 : ∀ ty dc sc, (Builtin.copy_ #[43, 43] ty #[.slice (some ⟨g, i + m, none⟩) (n + m - (i + m)) dc, .slice (some ⟨g, i, none⟩) (n + m - i) sc]).run Try.prog w.drew = .ok (goInt ((n - i : Nat) : Int)) (w.drew.setCells g (i + m) ((xs.flatMap (fun h : Int => [Value.int .i64 h])).drop (i * 1))) := fun ty dc sc =>
    run_copyK w.drew _ _ ty 3 g (i + m) (n + m - (i + m)) dc ⟨g, i, none⟩ (n + m - i) sc 1 (n - i) _ Try.underlying43 hinfo (by simp only [Nat.min_def]; split <;> omega) hdl
      (fun j v hj => by rw [Addr.add_lit]; exact hcs (i + j) v (by rw [List.getElem?_drop] at hj; simpa using hj))
      (fun j hj => hsp _ (by rw [hdl] at hj; have := Nat.sub_mul n i 1; have := Nat.add_mul i m 1; have := Nat.add_mul n m 1; have := Nat.mul_le_mul_right 1 (Nat.le_of_lt hin); omega)) (fun j hj => hfz _) (fun v hv => h1c v (List.mem_of_mem_drop hv))
  obtain ⟨W1, hW1⟩ : ∃ W1, W1 = w.drew.setCells g (i + m) ((xs.flatMap (fun h : Int => [Value.int .i64 h])).drop (i * 1)) := ⟨_, rfl⟩
  have hsp1 : ∀ k, k < (n + m) * 1 → (W1.cell? ⟨g, k, none⟩).isSome = true := fun k hk => by
    rw [hW1]
    exact isSome_setCells g ((xs.flatMap (fun h : Int => [Value.int .i64 h])).drop (i * 1)) (i + m) w.drew (fun j hj => hsp _ (by rw [hdl] at hj; have := Nat.sub_mul n i 1; have := Nat.add_mul i m 1; have := Nat.add_mul n m 1; have := Nat.mul_le_mul_right 1 (Nat.le_of_lt hin); omega)) _ (hsp k hk)
  have hcp2 : ∀ (W : World), (∀ x, W.cell? x = W1.cell? x) → (∀ x, W.frozen? x = W1.frozen? x) → ∀ ty dc, (Builtin.copy_ #[43, 43] ty #[.slice (some ⟨g, i, none⟩) (n + m - i) dc, .slice (some ⟨gv, 0, none⟩) m m]).run Try.prog W = .ok (goInt m) (W.setCells g (i) (ys.flatMap (fun h : Int => [Value.int .i64 h]))) := fun W hWc hWf ty dc =>
    run_copyK W _ _ ty 3 g (i) (n + m - i) dc ⟨gv, 0, none⟩ m m 1 m _ Try.underlying43 hinfo (by simp only [Nat.min_def]; split <;> omega) hvl
      (fun j v hj => by
        rw [Addr.add_lit, hWc, hW1, World.cell?_setCells_out g _ _ _ _ (fun h _ => absurd h hvb), Nat.zero_add]
        exact hvs j v hj)
      (fun j hj => by rw [hWc]; exact hsp1 _ (by rw [hvl] at hj; have := Nat.add_mul n m 1; have := Nat.mul_le_mul_right 1 (Nat.le_of_lt hin); omega)) (fun j hj => by rw [hWf, hW1, World.frozen?_setCells]; exact hfz _) h1v
  rw [← hW1] at hcp1
  have hMW : ∃ cs1 cs2 : Array Value, cs1.toList = cs.toList.take ((i + m) * 1) ++ (xs.flatMap (fun h : Int => [Value.int .i64 h])).drop (i * 1) ++ cs.toList.drop ((i + m) * 1 + (n - i) * 1) ∧ cs2.toList = cs1.toList.take (i * 1) ++ ys.flatMap (fun h : Int => [Value.int .i64 h]) ++ cs1.toList.drop (i * 1 + m * 1) ∧ cs2.size = c * 1 ∧ Mem w0 (W1.setCells g (i) (ys.flatMap (fun h : Int => [Value.int .i64 h]))) (blk g 3 cs2 :: blk gv 3 (ys.flatMap (fun h : Int => [Value.int .i64 h])).toArray :: F) := by
    have a1 := Nat.sub_mul n i 1
    have a2 := Nat.add_mul i m 1
    have a3 := Nat.add_mul n m 1
    have a4 := Nat.mul_le_mul_right 1 hr
    have a5 := Nat.mul_le_mul_right 1 (Nat.le_of_lt hin)
    obtain ⟨cs1, b1, b2, b3⟩ := Mem.setRange hB.drew 0 rfl ((i + m) * 1) ((xs.flatMap (fun h : Int => [Value.int .i64 h])).drop (i * 1)) (by rw [hdl]; omega)
    obtain ⟨cs2, d1, d2, d3⟩ := Mem.setRange b3 0 rfl (i * 1) (ys.flatMap (fun h : Int => [Value.int .i64 h])) (by rw [hvl, b2]; omega)
    refine ⟨cs1, cs2, by rw [b1, hdl], by rw [d1, hvl], by rw [d2, b2, hsz], ?_⟩
    rw [hW1]
    simpa using d3
  obtain ⟨cs1, cs2, hc1, hc2, hc3, hMF⟩ := hMW
  have HMF := Aside0.mk hMF
  have HFIN := Aside0.mk (show cs2.toList.take ((xs.take i ++ ys ++ xs.drop i).length * 1) = (xs.take i ++ ys ++ xs.drop i).flatMap (fun h : Int => [Value.int .i64 h]) from by
    have a1 := Nat.sub_mul n i 1
    have a2 := Nat.add_mul i m 1
    have a3 := Nat.add_mul n m 1
    have a4 := Nat.mul_le_mul_right 1 hr
    have a5 := Nat.mul_le_mul_right 1 (Nat.le_of_lt hin)
    have l0 : cs.toList.length = c * 1 := by rw [Array.length_toList, hsz]
    have l1 : cs1.toList.length = c * 1 := by rw [hc1, List.length_append, List.length_append, hdl, List.length_take, List.length_drop, l0]; omega
    have l2 : cs2.toList.length = c * 1 := by rw [Array.length_toList, hc3]
    refine ins_take (K := 1) (fun _ => rfl) xs ys i n m (by omega) hnx.symm hy cs2.toList (by rw [l2]; exact a4) ?_ ?_ ?_
    · rw [hc2, List.append_assoc, List.take_append_of_le_length (by rw [List.length_take, l1]; omega), List.take_take, Nat.min_self, hc1, List.append_assoc, List.take_append_of_le_length (by rw [List.length_take, l0]; omega), List.take_take, Nat.min_eq_left (by omega), ← flat_take (sz := 1) (fun _ => rfl), ← htk, List.take_take, Nat.min_eq_left (by omega)]
    · rw [hc2, List.append_assoc, List.drop_append, List.drop_eq_nil_of_le (by rw [List.length_take, l1]; omega), List.nil_append, List.length_take, l1, Nat.min_eq_left (by omega), Nat.sub_self, List.drop_zero, List.take_append_of_le_length (by rw [hvl]; exact Nat.le_refl _), List.take_of_length_le (by rw [hvl]; exact Nat.le_refl _)]
    · rw [hc2, List.drop_append, List.drop_eq_nil_of_le (by rw [List.length_append, List.length_take, l1, hvl]; omega), List.nil_append, List.length_append, List.length_take, l1, hvl, Nat.min_eq_left (by omega), show (i + m) * 1 - (i * 1 + m * 1) = 0 by omega, List.drop_zero, hc1, show i * 1 + m * 1 = (i + m) * 1 by omega, List.append_assoc, List.drop_append, List.drop_eq_nil_of_le (by rw [List.length_take, l0]; omega), List.nil_append, List.length_take, l0, Nat.min_eq_left (by omega), Nat.sub_self, List.drop_zero, List.take_append_of_le_length (by rw [hdl]; exact Nat.le_refl _), List.take_of_length_le (by rw [hdl]; exact Nat.le_refl _), flat_drop (sz := 1) (fun _ => rfl)])
  have HSZ := Aside0.mk hc3
  have HLEN := Aside0.mk (show (xs.take i ++ ys ++ xs.drop i).length = n + m by simp; omega)
  have HCM := Aside0.mk hcm
  have HZ := Aside0.mk hzs
  have HVB := Aside0.mk hvb
  have mixed : Try.prog.follows Departure.mixedOrders = true := by kernel_rfl
  have hw1 : IntKind.i64.wrap ((i : Int) + (m : Int)) = (i : Int) + (m : Int) := by rw [IntKind.wrap_i64]; omega
  have hz1 : ¬ ((m : Int) = 0) := by omega
  have hz2 : ¬ ((i : Int) = (n : Int)) := by omega
  have hb1 : (0 : Int) ≤ (i : Int) + (m : Int) := by omega
  have hin' : i ≤ n := by omega
  have htn : ((i : Int) + (m : Int)).toNat = i + m := by omega
  have hb2 : ¬ (c = i + m) := by omega
  have hb3 : (i : Int) ≤ (n : Int) + (m : Int) := by omega
  have hb4 : ¬ (c = i) := by omega
  have hc63 : c ≤ 9223372036854775807 := by unfold maxLen at hcm; exact hcm
  clear hM hB hcs hvs hfl hvl h1c h1v hsp hfz hdl hinfo hsp1 hMF hc1 hc2 hc3 htk hsz hnx hnc hcm hvb hy hzs
  go_enter Try.func116, Try.ntmps116
  go_wp2_with (simp only [hov])
  go_region_law_o (refine step_copy_runI rfl _ _ 43 43 rfl _ _ (by simp [Act.eval, Act.put]) (by simp [Act.eval, Act.put]) (hcp1 _ _ _) ?_)
  go_wp2_with (at_builtin; refine wpList_copy_runI _ rfl _ _ 43 43 rfl _ _ rfl rfl (hcp2 _ (fun _ => rfl) (fun _ => rfl) _ _) ?_)
  subst hW1
  go_ret
  refine ⟨_, rfl, ?_⟩
  have h9 := Mem.blk_row (c := c) flatI HMF.out 0 (xs.take i ++ ys ++ xs.drop i) rfl HSZ.out HFIN.out (by rw [HLEN.out]; exact hr) HCM.out
  rw [HLEN.out, HZ.out] at h9
  simp only [Nat.mul_one] at h9
  exact Mem.sel (ps := [_, _]) (F := F) [0] 2 h9 rfl rfl
theorem insI_grow (w0 w : World) (F : List Res) (g n c gv i m : Nat) (xs ys : List Int) (hM : Mem w0 w (row (Kd.int .i64) 3 (.slice (some ⟨g, 0, none⟩) n c) xs :: blk gv 3 (ys.flatMap (fun h : Int => [Value.int .i64 h])).toArray :: F)) (hy : ys.length = m) (hm : 0 < m) (hm1 : m ≤ 1000) (hin : i < n) (hr : c < n + m) (hn : n ≤ 1000000) (zs : List Int) (hzs : xs.take i ++ ys ++ xs.drop i = zs) : Calls Try.prog 116 #[.slice (some ⟨g, 0, none⟩) n c, .int .i64 i, .slice (some ⟨gv, 0, none⟩) m m] w fun e w' => ∃ v', e = .returned v' ∧ Mem w0 w' (row (Kd.int .i64) 3 v' zs :: F) := by
  have hzs0 := hzs
  clear hzs
  obtain ⟨cs, hsz, htk, hnx, hnc, hcm, hB⟩ := Mem.row_blk flatI hM 0 rfl
  change cs.size = c * 1 at hsz
  change cs.toList.take (n * 1) = _ at htk
  have hcs := insI_cells 0 hB rfl htk
  have hvs := insI_cells (n := m) (xs := ys) 1 hB rfl (by rw [List.take_of_length_le]; rw [flat_len (sz := 1) (fun _ => rfl), hy]; exact Nat.le_refl _)
  have hfl : (xs.flatMap (fun h : Int => [Value.int .i64 h])).length = n * 1 := by rw [flat_len (sz := 1) (fun _ => rfl), ← hnx]
  have hvl : (ys.flatMap (fun h : Int => [Value.int .i64 h])).length = m * 1 := by rw [flat_len (sz := 1) (fun _ => rfl), hy]
  have h1c : ∀ v ∈ xs.flatMap (fun h : Int => [Value.int .i64 h]), v.oneCell' = true := fun v hv => by obtain ⟨x, _, hx⟩ := List.mem_flatMap.1 hv; exact flatI.one w x v hx
  have h1v : ∀ v ∈ ys.flatMap (fun h : Int => [Value.int .i64 h]), v.oneCell' = true := fun v hv => by obtain ⟨x, _, hx⟩ := List.mem_flatMap.1 hv; exact flatI.one w x v hx
  have hbw := blk_lt (hB.blk_at 0 rfl)
  have hvw := blk_lt (hB.blk_at 1 rfl)
  have hdl : ((xs.flatMap (fun h : Int => [Value.int .i64 h])).drop (i * 1)).length = (n - i) * 1 := by rw [List.length_drop, hfl, Nat.sub_mul]
  have htl : ((xs.flatMap (fun h : Int => [Value.int .i64 h])).take (i * 1)).length = i * 1 := by rw [List.length_take, hfl]; have := Nat.mul_le_mul_right 1 (Nat.le_of_lt hin); omega
  have hinfo : (Try.prog.info? 3).map (·.size) = some 1 := by kernel_rfl
  obtain ⟨i0, hi0, hz0, hzs, hzb⟩ := info_parts infoInt
  have hkk : (n : Int) + (m : Int) - (i : Int) = ((n + m - i : Nat) : Int) := by omega
  have hik : i + (n + m - i) = n + m := by omega
  have hold : (Builtin.firstCells i0.size i (.slice (some ⟨g, 0, none⟩) i c)).run Try.prog w.drew = .ok ((xs.flatMap (fun h : Int => [Value.int .i64 h])).take (i * 1)).toArray w.drew := by
    rw [hzs]
    exact run_firstCells_some w.drew 1 i ⟨g, 0, none⟩ i c ((xs.flatMap (fun h : Int => [Value.int .i64 h])).take (i * 1)) htl (fun j v hj => by
      rw [Addr.add_lit, Nat.zero_add]
      rw [List.getElem?_take] at hj
      split at hj
      · exact hcs j v hj
      · cases hj)
  obtain ⟨G, hG⟩ : ∃ G, G = grownCap w (n + m) c 3 := ⟨_, rfl⟩
  obtain ⟨ROW, hROW⟩ : ∃ ROW : Array Value, ROW = ((xs.flatMap (fun h : Int => [Value.int .i64 h])).take (i * 1)).toArray ++ Builtin.zeroCells (Value.int .i64 0).cells (n + m - i) ++ Builtin.zeroCells (Value.int .i64 0).cells (G - (n + m)) := ⟨_, rfl⟩
  have hrz : ∀ ty, (Builtin.append_ #[43, 3] ty #[.slice (some ⟨g, 0, none⟩) i c, .int .i64 ((n : Int) + (m : Int) - (i : Int))]).run Try.prog w =
      .ok (.slice (some ⟨w.heap.size, 0, none⟩) (n + m) G) (w.drew.alloc (.cells ROW 3)) := fun ty => by
    have h := Lib.run_append_grow_zeros w 43 3 ty 3 i0 _ .i64 .i64 Try.underlying43 Try.underlying3 hi0 hz0 (some ⟨g, 0, none⟩) i c _ hold (n + m - i) (by omega) (by rw [hzs]; decide) (by omega) (by omega) (by rw [hzb]; omega) (by rw [hzb, hik]; exact growslice_fits hr (by omega))
    rw [hik] at h
    rw [hkk, hROW, hG]
    exact h
  have hGn : n + m ≤ G := by rw [hG]; exact grownCap_ge w _ _ _
  have hGm : G ≤ maxLen := by rw [hG]; exact grownCap_le_maxLen w (n + m) c 3 (by unfold maxLen; omega)
  have hRs : ROW.size = G * 1 := by
    rw [hROW]
    simp only [Array.size_append, List.size_toArray, htl, size_zeroCells]
    have e1 : (Value.int .i64 0).cells.size = 1 := rfl
    rw [e1, ← Nat.add_mul, ← Nat.add_mul]
    congr 1
    omega
  have hRt : ROW.toList.take (i * 1) = (xs.flatMap (fun h : Int => [Value.int .i64 h])).take (i * 1) := by
    rw [hROW]
    simp only [Array.toList_append, List.append_assoc]
    rw [List.take_append_of_le_length (by rw [htl]; exact Nat.le_refl _), List.take_take, Nat.min_self]
  obtain ⟨W1, hW1⟩ : ∃ W1, W1 = w.drew.alloc (.cells ROW 3) := ⟨_, rfl⟩
  rw [← hW1] at hrz
  have b1 := Nat.mul_le_mul_right 1 hGn
  have b2 := Nat.add_mul n m 1
  have b3 := Nat.add_mul i m 1
  have b4 := Nat.sub_mul n i 1
  have b5 := Nat.mul_le_mul_right 1 (Nat.le_of_lt hin)
  have hN : ∀ j, j < (n + m) * 1 → (W1.cell? ⟨w.heap.size, j, none⟩).isSome = true := fun j hj => by
    rw [hW1, World.cell?_alloc_at (w := w.drew) ROW _ w.heap.size j rfl, Array.getElem?_eq_getElem (by omega)]; rfl
  have hNf : ∀ j, W1.frozen? ⟨w.heap.size, j, none⟩ = false := fun j => by rw [hW1]; exact World.frozen?_alloc_at (w := w.drew) ROW _ w.heap.size j rfl
  have hOb : ∀ j v, w.cell? ⟨g, j, none⟩ = some v → W1.cell? ⟨g, j, none⟩ = some v := fun j v h => by rw [hW1, World.cell?_alloc_past (w := w.drew) _ g j hbw]; exact h
  have hOv : ∀ j v, w.cell? ⟨gv, j, none⟩ = some v → W1.cell? ⟨gv, j, none⟩ = some v := fun j v h => by rw [hW1, World.cell?_alloc_past (w := w.drew) _ gv j hvw]; exact h
  have hcpA : ∀ (W : World), (∀ x, W.cell? x = W1.cell? x) → (∀ x, W.frozen? x = W1.frozen? x) → ∀ ty dc, (Builtin.copy_ #[43, 43] ty #[.slice (some ⟨w.heap.size, i, none⟩) (n + m - i) dc, .slice (some ⟨gv, 0, none⟩) m m]).run Try.prog W = .ok (goInt m) (W.setCells w.heap.size (i) (ys.flatMap (fun h : Int => [Value.int .i64 h]))) := fun W hWc hWf ty dc =>
    run_copyK W _ _ ty 3 w.heap.size (i) (n + m - i) dc ⟨gv, 0, none⟩ m m 1 m _ Try.underlying43 hinfo (by simp only [Nat.min_def]; split <;> omega) hvl
      (fun j v hj => by rw [Addr.add_lit, hWc, Nat.zero_add]; exact hOv _ v (hvs j v hj))
      (fun j hj => by rw [hWc]; exact hN _ (by rw [hvl] at hj; omega)) (fun j hj => by rw [hWf]; exact hNf _) h1v
  have hGi : ¬ (G = i) := by omega
  have hGim : ¬ (G = i + m) := by omega
  have hci : ¬ (c = i) := by omega
  have hbN : g ≠ w.heap.size := by omega
  have hcpB : ∀ (W : World), (∀ x, W.cell? x = (W1.setCells w.heap.size (i) (ys.flatMap (fun h : Int => [Value.int .i64 h]))).cell? x) → (∀ x, W.frozen? x = (W1.setCells w.heap.size (i) (ys.flatMap (fun h : Int => [Value.int .i64 h]))).frozen? x) → ∀ ty dc sc, (Builtin.copy_ #[43, 43] ty #[.slice (some ⟨w.heap.size, i + m, none⟩) (n + m - (i + m)) dc, .slice (some ⟨g, i, none⟩) (n - i) sc]).run Try.prog W = .ok (goInt ((n - i : Nat) : Int)) (W.setCells w.heap.size (i + m) ((xs.flatMap (fun h : Int => [Value.int .i64 h])).drop (i * 1))) := fun W hWc hWf ty dc sc =>
    run_copyK W _ _ ty 3 w.heap.size (i + m) (n + m - (i + m)) dc ⟨g, i, none⟩ (n - i) sc 1 (n - i) _ Try.underlying43 hinfo (by simp only [Nat.min_def]; split <;> omega) hdl
      (fun j v hj => by
        rw [Addr.add_lit, hWc, World.cell?_setCells_out _ _ _ _ _ (fun h _ => absurd h hbN)]
        exact hOb _ v (hcs (i + j) v (by rw [List.getElem?_drop] at hj; simpa using hj)))
      (fun j hj => by rw [hWc]; exact isSome_setCells _ _ _ _ (fun t ht => hN _ (by rw [hvl] at ht; omega)) _ (hN _ (by rw [hdl] at hj; omega)))
      (fun j hj => by rw [hWf, World.frozen?_setCells]; exact hNf _) (fun v hv => h1c v (List.mem_of_mem_drop hv))
  have hMW : ∃ cs1 cs2 : Array Value, cs1.toList = ROW.toList.take (i * 1) ++ ys.flatMap (fun h : Int => [Value.int .i64 h]) ++ ROW.toList.drop (i * 1 + m * 1) ∧ cs2.toList = cs1.toList.take ((i + m) * 1) ++ (xs.flatMap (fun h : Int => [Value.int .i64 h])).drop (i * 1) ++ cs1.toList.drop ((i + m) * 1 + (n - i) * 1) ∧ cs2.size = G * 1 ∧ Mem w0 (((w.alloc (.cells ROW 3)).drew.setCells w.heap.size (i) (ys.flatMap (fun h : Int => [Value.int .i64 h]))).drew.setCells w.heap.size (i + m) ((xs.flatMap (fun h : Int => [Value.int .i64 h])).drop (i * 1))) (blk w.heap.size 3 cs2 :: blk g 3 cs :: blk gv 3 (ys.flatMap (fun h : Int => [Value.int .i64 h])).toArray :: F) := by
    obtain ⟨cs1, c1, c2, c3⟩ := Mem.setRange (hB.allocAt ROW 3 w.heap.size rfl).drew 0 rfl (i * 1) (ys.flatMap (fun h : Int => [Value.int .i64 h])) (by rw [hvl, hRs]; omega)
    obtain ⟨cs2, d1, d2, d3⟩ := Mem.setRange c3.drew 0 rfl ((i + m) * 1) ((xs.flatMap (fun h : Int => [Value.int .i64 h])).drop (i * 1)) (by rw [hdl, c2, hRs]; omega)
    refine ⟨cs1, cs2, by rw [c1, hvl], by rw [d1, hdl], by rw [d2, c2, hRs], ?_⟩
    simpa using d3
  obtain ⟨cs1, cs2, hc1, hc2, hc3, hMF⟩ := hMW
  have HMF := Aside0.mk hMF
  have HFIN := Aside0.mk (show cs2.toList.take ((xs.take i ++ ys ++ xs.drop i).length * 1) = (xs.take i ++ ys ++ xs.drop i).flatMap (fun h : Int => [Value.int .i64 h]) from by
    have l0 : ROW.toList.length = G * 1 := by rw [Array.length_toList, hRs]
    have l1 : cs1.toList.length = G * 1 := by rw [hc1, List.length_append, List.length_append, hvl, List.length_take, List.length_drop, l0]; omega
    have l2 : cs2.toList.length = G * 1 := by rw [Array.length_toList, hc3]
    refine ins_take (K := 1) (fun _ => rfl) xs ys i n m (by omega) hnx.symm hy cs2.toList (by rw [l2]; exact b1) ?_ ?_ ?_
    · rw [hc2, List.append_assoc, List.take_append_of_le_length (by rw [List.length_take, l1]; omega), List.take_take, Nat.min_eq_left (by omega), hc1, List.append_assoc, List.take_append_of_le_length (by rw [List.length_take, l0]; omega), List.take_take, Nat.min_self, hRt, flat_take (sz := 1) (fun _ => rfl)]
    · rw [hc2, List.append_assoc, List.drop_append_of_le_length (by rw [List.length_take, l1]; omega), List.take_append_of_le_length (by rw [List.length_drop, List.length_take, l1]; omega), List.drop_take, List.take_take, Nat.min_eq_left (by omega), hc1, List.append_assoc, List.drop_append, List.drop_eq_nil_of_le (by rw [List.length_take, l0]; omega), List.nil_append, List.length_take, l0, Nat.min_eq_left (by omega), Nat.sub_self, List.drop_zero, List.take_append_of_le_length (by rw [hvl]; exact Nat.le_refl _), List.take_of_length_le (by rw [hvl]; exact Nat.le_refl _)]
    · rw [hc2, List.append_assoc, List.drop_append, List.drop_eq_nil_of_le (by rw [List.length_take, l1]; omega), List.nil_append, List.length_take, l1, Nat.min_eq_left (by omega), Nat.sub_self, List.drop_zero, List.take_append_of_le_length (by rw [hdl]; exact Nat.le_refl _), List.take_of_length_le (by rw [hdl]; exact Nat.le_refl _), flat_drop (sz := 1) (fun _ => rfl)])
  have HSZ := Aside0.mk hc3
  have HLEN := Aside0.mk (show (xs.take i ++ ys ++ xs.drop i).length = n + m by simp; omega)
  have HCM := Aside0.mk hGm
  have HGN := Aside0.mk hGn
  have HZ := Aside0.mk hzs0
  have mixed : Try.prog.follows Departure.mixedOrders = true := by kernel_rfl
  have hz1 : ¬ ((m : Int) = 0) := by omega
  have hz2 : ¬ ((i : Int) = (n : Int)) := by omega
  have hz3 : (c : Int) < (n : Int) + (m : Int) := by omega
  subst hW1
  have hE1 : ∀ x, ((w.alloc (.cells ROW 3)).drew).cell? x = (w.drew.alloc (.cells ROW 3)).cell? x := fun x => rfl
  have hE2 : ∀ x, ((w.alloc (.cells ROW 3)).drew).frozen? x = (w.drew.alloc (.cells ROW 3)).frozen? x := fun x => rfl
  have hF1 : ∀ x, (((w.alloc (.cells ROW 3)).drew.setCells w.heap.size (i) (ys.flatMap (fun h : Int => [Value.int .i64 h]))).drew).cell? x = ((w.drew.alloc (.cells ROW 3)).setCells w.heap.size (i) (ys.flatMap (fun h : Int => [Value.int .i64 h]))).cell? x := fun x => rfl
  have hF2 : ∀ x, (((w.alloc (.cells ROW 3)).drew.setCells w.heap.size (i) (ys.flatMap (fun h : Int => [Value.int .i64 h]))).drew).frozen? x = ((w.drew.alloc (.cells ROW 3)).setCells w.heap.size (i) (ys.flatMap (fun h : Int => [Value.int .i64 h]))).frozen? x := fun x => rfl
  have hw1 : IntKind.i64.wrap ((i : Int) + (m : Int)) = (i : Int) + (m : Int) := by rw [IntKind.wrap_i64]; omega
  have hb1 : (0 : Int) ≤ (i : Int) + (m : Int) := by omega
  have hin' : i ≤ n := by omega
  have htn : ((i : Int) + (m : Int)).toNat = i + m := by omega
  have hb3 : (i : Int) ≤ (n : Int) := by omega
  have hic : i ≤ c := by omega
  have hic2 : (i : Int) ≤ (c : Int) := by omega
  have hc63 : c ≤ 9223372036854775807 := by unfold maxLen at hcm; exact hcm
  have hG63 : G ≤ 9223372036854775807 := by unfold maxLen at hGm; exact hGm
  clear hM hB hcs hvs hfl hvl h1c h1v hdl htl hinfo hMF hc1 hc2 hc3 htk hsz hnx hnc hcm hy hzs0 hkk hik hold hROW hG hRs hRt b1 b2 b3 b4 b5 hN hNf hOb hOv hi0 hz0 hzs hzb hbw hvw hGm
  go_enter Try.func116, Try.ntmps116
  go_wp2_with (first
    | (at_builtin; refine Lib.wpList_append_run _ rfl _ _ _ _ rfl _ _ rfl rfl _ _ (hrz _) ?_)
    | (at_builtin; refine wpList_copy_runI _ rfl _ _ 43 43 rfl _ _ rfl rfl (hcpA _ hE1 hE2 _ _) ?_)
    | (at_builtin; refine wpList_copy_runI _ rfl _ _ 43 43 rfl _ _ rfl rfl (hcpB _ (fun _ => rfl) (fun _ => rfl) _ _ _) ?_))
  go_region_law_o (refine step_copy_runI rfl _ _ 43 43 rfl (.slice (some ⟨w.heap.size, i + m, none⟩) (n + m - (i + m)) (G - (i + m))) (.slice (some ⟨g, i, none⟩) (n - i) (c - i)) (by simp [Act.eval, Act.put]) (by simp [Act.eval, Act.put]) (hcpB _ hF1 hF2 3 (G - (i + m)) (c - i)) ?_)
  go_wp2
  go_ret
  refine ⟨_, rfl, ?_⟩
  have h9 := Mem.blk_row (c := G) flatI HMF.out 0 (xs.take i ++ ys ++ xs.drop i) rfl HSZ.out HFIN.out (by rw [HLEN.out]; exact HGN.out) HCM.out
  rw [HLEN.out, HZ.out] at h9
  simp only [Nat.mul_one] at h9
  exact Mem.sel (ps := [_, _, _]) (F := F) [0] 3 h9 rfl rfl
/-- Whatever the room. -/
theorem insI_calls (w0 w : World) (F : List Res) (v : Value) (gv i m : Nat) (xs ys : List Int) (hM : Mem w0 w (row (Kd.int .i64) 3 v xs :: blk gv 3 (ys.flatMap (fun h : Int => [Value.int .i64 h])).toArray :: F)) (hy : ys.length = m) (hm : 0 < m) (hm1 : m ≤ 1000) (hn : xs.length ≤ 1000000) (hp : 0 < xs.length) (hi : i ≤ xs.length) (zs : List Int) (hzs : xs.take i ++ ys ++ xs.drop i = zs) :
    Calls Try.prog 116 #[v, .int .i64 i, .slice (some ⟨gv, 0, none⟩) m m] w fun e w' => ∃ v', e = .returned v' ∧ Mem w0 w' (row (Kd.int .i64) 3 v' zs :: F) := by
  obtain ⟨g, c, rfl, _⟩ := Kd.R_form (hM.hold (i := 0) rfl) hp
  by_cases h1 : i = xs.length
  · exact insI_end w0 w F g xs.length c gv i m xs ys hM hy hm hm1 h1 hp hn zs hzs
  · by_cases h2 : xs.length + m ≤ c
    · exact insI_room w0 w F g xs.length c gv i m xs ys hM hy hm hm1 (by omega) h2 hn zs hzs
    · exact insI_grow w0 w F g xs.length c gv i m xs ys hM hy hm hm1 (by omega) (by omega) hn zs hzs
end Go.Proofs.Ytggbjokhniigkaa.Pn
namespace Go.Proofs.Ytggbjokhniigkaa.Jo
open Ty Go.RowKit YtggbjokhniigkaaW.PrintWords YtggbjokhniigkaaW.PrintLast YtggbjokhniigkaaW.PrintMore Mx Kx Wa Wd Bs Pn
/-- It is there. -/
theorem joined_there (w0 w : World) (F : List Res) (v : Value) (l : List Int) (k : Int) (hM : Mem w0 w (row (Kd.int .i64) 3 v l :: F)) (hn : l.length ≤ 1000000) (p : Nat) (hp : p ≤ l.length)
    (h1 : ∀ t : Nat, t < p → rd l (t : Int) < k) (h2 : ∀ t : Nat, p ≤ t → t < l.length → k ≤ rd l (t : Int)) (h3 : p < l.length) (h4 : rd l (p : Int) = k) :
    Calls Try.prog 110 #[v, .int .i64 k] w fun e w' => e = .returned (.tuple #[v, .bool false]) ∧ Mem w0 w' (row (Kd.int .i64) 3 v l :: F) := by
  obtain ⟨A, c, rfl, _, _⟩ := hM.row_at 0 rfl
  have M1 := Aside0.mk hM
  have S := Aside0.mk (search_calls A c l k w (hM.row_C 0 rfl) hn p hp h1 h2 true ⟨fun _ => ⟨h3, h4⟩, fun _ => rfl⟩)
  clear hM hn hp h1 h2 h3 h4
  go_enter Try.func110, Try.ntmps110
  go_wp2_with fail
  refine S.out.mono ?_
  rintro e w1 ⟨rfl, hD⟩
  have M2 := Aside0.mk (M1.out.drawn hD)
  clear hD S M1
  go_wp2
  refine bodyPost_ret (results_tmp2 rfl _ _ _) rfl ?_
  exact ⟨rfl, M2.out⟩
/-- It is laid where it belongs. -/
theorem joined_new (w0 w : World) (F : List Res) (v : Value) (l : List Int) (k : Int) (hM : Mem w0 w (row (Kd.int .i64) 3 v l :: F)) (hn : l.length ≤ 1000000) (h0 : 0 < l.length) (p : Nat) (hp : p ≤ l.length)
    (h1 : ∀ t : Nat, t < p → rd l (t : Int) < k) (h2 : ∀ t : Nat, p ≤ t → t < l.length → k ≤ rd l (t : Int)) (h3 : ¬ (p < l.length ∧ rd l (p : Int) = k)) (zs : List Int) (hz : l.take p ++ [k] ++ l.drop p = zs) :
    Calls Try.prog 110 #[v, .int .i64 k] w fun e w' => ∃ v' : Value, e = .returned (.tuple #[v', .bool true]) ∧ Mem w0 w' (row (Kd.int .i64) 3 v' zs :: row (Kd.int .i64) 3 v l :: F) := by
  obtain ⟨A, c, rfl, _, _⟩ := hM.row_at 0 rfl
  have M1 := Aside0.mk hM
  have HN := Aside0.mk hn
  have HP := Aside0.mk hp
  have H0 := Aside0.mk h0
  have HZ := Aside0.mk hz
  have S := Aside0.mk (search_calls A c l k w (hM.row_C 0 rfl) hn p hp h1 h2 false ⟨(fun h => by cases h), fun h => absurd h h3⟩)
  clear hM hn hp h1 h2 h3 h0 hz
  go_enter Try.func110, Try.ntmps110
  go_wp2_with fail
  refine S.out.mono ?_
  rintro e w1 ⟨rfl, hD⟩
  have M2 := Aside0.mk (M1.out.drawn hD)
  clear hD S M1
  go_wp2_with fail
  refine (cloneI_calls A c l _ (M2.out.row_C 0 rfl) (Nat.le_trans HN.out (by decide))).mono ?_
  rintro e w2 ⟨vc, rfl, hM⟩
  obtain ⟨B, d, rfl, _, _⟩ := hM.row_at 0 rfl
  have M3 := Aside0.mk (M2.out.trans hM)
  clear hM M2
  go_wp2_with fail
  have M4 := Aside0.mk (M3.out.allocAt #[.int .i64 k] 3 w2.heap.size rfl)
  refine (insI_calls w0 _ (row (Kd.int .i64) 3 (.slice A l.length c) l :: F) (.slice B l.length d) w2.heap.size p 1 l [k] (Mem.sel (ps := [_, _, _]) (F := F) [1, 0, 2] 3 M4.out rfl rfl) rfl (by decide) (by decide) HN.out H0.out HP.out zs HZ.out).mono ?_
  rintro e w3 ⟨v', rfl, hM⟩
  have M5 := Aside0.mk hM
  clear hM M3 M4
  go_wp2
  refine bodyPost_ret (results_tmp2 rfl _ _ _) rfl ?_
  exact ⟨_, rfl, M5.out⟩
/-- Into none. -/
theorem insI_nil (w0 w : World) (F : List Res) (A : Option Addr) (c gv : Nat) (k : Int) (hM : Mem w0 w (row (Kd.int .i64) 3 (.slice A 0 c) [] :: blk gv 3 #[.int .i64 k] :: F)) :
    Calls Try.prog 116 #[.slice A 0 c, .int .i64 0, .slice (some ⟨gv, 0, none⟩) 1 1] w fun e w' => ∃ v', e = .returned v' ∧ Mem w0 w' (row (Kd.int .i64) 3 v' [k] :: F) := by
  have hv := Mem.blk_row (c := 1) flatI hM 1 [k] rfl rfl rfl (Nat.le_refl _) (by unfold maxLen; omega)
  have hC := hv.row_C 1 rfl
  have HC := Aside0.mk hC
  have M0 := Aside0.mk hM
  clear hM hv hC
  have hc0 : (0 : Int) ≤ (0 : Int) := Int.le_refl _
  cases A with
  | none =>
    go_enter Try.func116, Try.ntmps116
    go_wp2_with (((with_reducible refine gate_builtin (b := .append) (xs := #[.tmp 23, .tmp 24]) rfl ?_); at_builtin; refine Mem.app (Kd.int .i64) M0.out 0 _ [] [k] rfl (.tmp 23) (.tmp 24) 43 3 _ _ rfl Try.underlying43 infoInt rfl (by decide) (by omega) (some ⟨gv, 0, none⟩) 1 1 rfl rfl rfl HC.out (fun x cs h => by have h2 := flatI.rd_ h; subst h2; exact flatI.mk_ _ _ _ _) (by simp) ?_; intro v1 w1 hM1; have M1 := Aside0.mk hM1; clear hM1))
    all_goals
      go_ret
      exact ⟨_, rfl, Mem.sel (ps := [_, _]) (F := F) [0] 2 M1.out rfl rfl⟩
  | some ad =>
    go_enter Try.func116, Try.ntmps116
    go_wp2_with (((with_reducible refine gate_builtin (b := .append) (xs := #[.tmp 23, .tmp 24]) rfl ?_); at_builtin; refine Mem.app (Kd.int .i64) M0.out 0 _ [] [k] rfl (.tmp 23) (.tmp 24) 43 3 _ _ rfl Try.underlying43 infoInt rfl (by decide) (by omega) (some ⟨gv, 0, none⟩) 1 1 rfl rfl rfl HC.out (fun x cs h => by have h2 := flatI.rd_ h; subst h2; exact flatI.mk_ _ _ _ _) (by simp) ?_; intro v1 w1 hM1; have M1 := Aside0.mk hM1; clear hM1))
    all_goals
      go_ret
      exact ⟨_, rfl, Mem.sel (ps := [_, _]) (F := F) [0] 2 M1.out rfl rfl⟩
theorem joined_first (w0 w : World) (F : List Res) (v : Value) (k : Int) (hM : Mem w0 w (row (Kd.int .i64) 3 v ([] : List Int) :: F)) :
    Calls Try.prog 110 #[v, .int .i64 k] w fun e w' => ∃ v' : Value, e = .returned (.tuple #[v', .bool true]) ∧ Mem w0 w' (row (Kd.int .i64) 3 v' [k] :: row (Kd.int .i64) 3 v ([] : List Int) :: F) := by
  obtain ⟨A, c, rfl, _, _⟩ := hM.row_at 0 rfl
  have M1 := Aside0.mk hM
  have S := Aside0.mk (search_calls A c [] k w (hM.row_C 0 rfl) (by simp) 0 (Nat.zero_le _) (fun t h => absurd h (Nat.not_lt_zero _)) (fun t _ h => absurd h (Nat.not_lt_zero _)) false ⟨(fun h => by cases h), fun h => absurd h.1 (Nat.not_lt_zero _)⟩)
  clear hM
  go_enter Try.func110, Try.ntmps110
  go_wp2_with fail
  refine S.out.mono ?_
  rintro e w1 ⟨rfl, hD⟩
  have M2 := Aside0.mk (M1.out.drawn hD)
  clear hD S M1
  go_wp2_with fail
  refine (cloneI_calls A c [] _ (M2.out.row_C 0 rfl) (by simp)).mono ?_
  rintro e w2 ⟨vc, rfl, hM⟩
  obtain ⟨B, d, rfl, _, _⟩ := hM.row_at 0 rfl
  have M3 := Aside0.mk (M2.out.trans hM)
  clear hM M2
  go_wp2_with fail
  have M4 := Aside0.mk (M3.out.allocAt #[.int .i64 k] 3 w2.heap.size rfl)
  refine (insI_nil w0 _ (row (Kd.int .i64) 3 (.slice A 0 c) [] :: F) B d w2.heap.size k (Mem.sel (ps := [_, _, _]) (F := F) [1, 0, 2] 3 M4.out rfl rfl)).mono ?_
  rintro e w3 ⟨v', rfl, hM⟩
  have M5 := Aside0.mk hM
  clear hM M3 M4
  go_wp2
  refine bodyPost_ret (results_tmp2 rfl _ _ _) rfl ?_
  exact ⟨_, rfl, M5.out⟩
end Go.Proofs.Ytggbjokhniigkaa.Jo
namespace Go.Proofs.Ytggbjokhniigkaa.Ad
end Go.Proofs.Ytggbjokhniigkaa.Ad
namespace Go.Proofs.Ytggbjokhniigkaa.Ij
open Ty Go.RowKit YtggbjokhniigkaaW.PrintWords Tk
theorem rd_cons_zero (x : Int) (l : List Int) : rd (x :: l) ((0 : Nat) : Int) = x := rfl
theorem rd_cons_succ (x : Int) (l : List Int) (t : Nat) : rd (x :: l) ((t + 1 : Nat) : Int) = rd l (t : Int) := rfl
theorem rd_mem (l : List Int) (t : Nat) (h : t < l.length) : rd l (t : Int) ∈ l := by
  have e : rd l (t : Int) = l[t] := by
    unfold rd
    rw [Int.toNat_natCast, List.getD_eq_getElem?_getD, List.getElem?_eq_getElem h]
    rfl
  rw [e]
  exact List.getElem_mem h
theorem place_cons (x : Int) (l : List Int) (k : Int) : place (x :: l) k = if x < k then place l k + 1 else 0 := by
  unfold place
  by_cases h : x < k
  · simp [h]
  · simp [h]
theorem place_le (l : List Int) (k : Int) : place l k ≤ l.length := by
  induction l with
  | nil => exact Nat.zero_le _
  | cons x l ih =>
    rw [place_cons, List.length_cons]
    split <;> omega
theorem place_lt (l : List Int) (k : Int) : ∀ t : Nat, t < place l k → rd l (t : Int) < k := by
  induction l with
  | nil => intro t h; exact absurd h (Nat.not_lt_zero _)
  | cons x l ih =>
    intro t h
    rw [place_cons] at h
    split at h
    case isFalse => exact absurd h (Nat.not_lt_zero _)
    cases t with
    | zero => rw [rd_cons_zero]; assumption
    | succ t => rw [rd_cons_succ]; exact ih t (by omega)
theorem place_ge (l : List Int) (k : Int) (hs : l.Pairwise (· < ·)) : ∀ t : Nat, place l k ≤ t → t < l.length → k ≤ rd l (t : Int) := by
  induction l with
  | nil => intro t _ h; exact absurd h (Nat.not_lt_zero _)
  | cons x l ih =>
    intro t h h2
    rw [List.pairwise_cons] at hs
    rw [place_cons] at h
    rw [List.length_cons] at h2
    split at h
    · cases t with
      | zero => omega
      | succ t => rw [rd_cons_succ]; exact ih hs.2 t (by omega) (by omega)
    · rename_i hx
      cases t with
      | zero => rw [rd_cons_zero]; omega
      | succ t =>
        rw [rd_cons_succ]
        have := hs.1 _ (rd_mem l t (by omega))
        omega
theorem place_there (l : List Int) (k : Int) (hs : l.Pairwise (· < ·)) (hk : k ∈ l) : place l k < l.length ∧ rd l (place l k : Int) = k := by
  induction l with
  | nil => cases hk
  | cons x l ih =>
    rw [List.pairwise_cons] at hs
    rw [place_cons, List.length_cons]
    rcases List.mem_cons.1 hk with e | h
    · subst e
      rw [if_neg (by omega)]
      exact ⟨by omega, rfl⟩
    · have := hs.1 _ h
      rw [if_pos this]
      have q := ih hs.2 h
      exact ⟨by omega, by rw [rd_cons_succ]; exact q.2⟩
theorem place_not (l : List Int) (k : Int) (hk : k ∉ l) : ¬ (place l k < l.length ∧ rd l (place l k : Int) = k) := fun h => hk (h.2 ▸ rd_mem l _ h.1)
end Go.Proofs.Ytggbjokhniigkaa.Ij
