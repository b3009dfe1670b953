/- Texts laid together: Pi. No condition. -/
import Derived.Lib.AppendZerosOnto
import Derived.Laws.NewBlocks
import Derived.Deep.RegionLaw
import Derived.Test.YtookpmdgoednfaaYPz5
set_option linter.unusedVariables false
set_option linter.unusedSimpArgs false
set_option maxRecDepth 100000
set_option maxHeartbeats 8000000
namespace Go.Proofs.Ytookpmdgoednfaa.Pi
open Go.RowKit YtookpmdgoednfaaW.PrintWords YtookpmdgoednfaaW.PrintLast YtookpmdgoednfaaW.PrintMore Mx PPagePuts Pa
theorem shape_of {w : World} {g T : Nat} {cs : Array Value} (h : w.heap[g]? = some (.cells cs T (0, 0))) : w.shape? g = some (T, cs.size) := by simp [World.shape?, h]
theorem ins_take {α : Type} {enc : α → List Value} {K : Nat} (hl : ∀ x, (enc x).length = K) (xs ys : List α) (i n m : Nat) (hi : i ≤ n) (hx : xs.length = n) (hy : ys.length = m) (L : List Value) (hL : (n + m) * K ≤ L.length) (h1 : L.take (i * K) = (xs.take i).flatMap enc) (h2 : (L.drop (i * K)).take (m * K) = ys.flatMap enc) (h3 : (L.drop ((i + m) * K)).take ((n - i) * K) = (xs.drop i).flatMap enc) :
    L.take ((xs.take i ++ ys ++ xs.drop i).length * K) = (xs.take i ++ ys ++ xs.drop i).flatMap enc := by
  have e : (xs.take i ++ ys ++ xs.drop i).length = n + m := by simp; omega
  have a1 : (i + m) * K = i * K + m * K := Nat.add_mul ..
  have a2 : (n - i) * K + i * K = n * K := by rw [← Nat.add_mul]; congr 1; omega
  have a3 : (n + m) * K = n * K + m * K := Nat.add_mul ..
  rw [e, List.flatMap_append, List.flatMap_append, ← h1, ← h2, ← h3]
  have e2 : (n + m) * K = i * K + (m * K + (n - i) * K) := by omega
  rw [e2, List.take_add, List.take_add, List.drop_drop, ← a1, List.append_assoc]
theorem Wh0_ne {w0 w : World} {rs : List Res} (h : Mem w0 w rs) (i j : Nat) {g T g' T' : Nat} {cs cs' : Array Value} (hi : rs[i]? = some (blk g T cs)) (hj : rs[j]? = some (blk g' T' cs')) (hij : i ≠ j) : ¬ g = g' := by
  obtain ⟨f, q, h1, h2, _, _, h5, _⟩ := h.take2 hi hj hij
  intro e
  subst e
  exact h5 _ h1.2 h2.2
/-! ### insP -/
theorem insP_cells {w0 w : World} {rs : List Res} (k : Nat) {g : Nat} {cs : Array Value} {xs : List SP} {n : Nat} (h : Mem w0 w rs) (hi : rs[k]? = some (blk g 41 cs)) (ht : cs.toList.take (n * 2) = xs.flatMap encP) : ∀ j v, (xs.flatMap encP)[j]? = some v → w.cell? ⟨g, j, none⟩ = some v := by
  intro j v hj
  rw [blk_cell (h.blk_at k hi) j, ← Array.getElem?_toList]
  rw [← ht, List.getElem?_take] at hj
  split at hj
  · exact hj
  · cases hj
theorem insP_end (w0 w : World) (F : List Res) (g n c gv i m : Nat) (xs ys : List SP) (hM : Mem w0 w (row kP 41 (.slice (some ⟨g, 0, none⟩) n c) xs :: blk gv 41 (ys.flatMap encP).toArray :: F)) (hy : ys.length = m) (hm : 0 < m) (hm1 : m ≤ 1000) (hin : i = n) (hp : 0 < n) (hn : n ≤ 1000000) (zs : List SP) (hzs : xs.take i ++ ys ++ xs.drop i = zs) : Calls Try.prog 72 #[.slice (some ⟨g, 0, none⟩) n c, .int .i64 i, .slice (some ⟨gv, 0, none⟩) m m] w fun e w' => ∃ v', e = .returned v' ∧ Mem w0 w' (row kP 41 v' zs :: F) := by
  subst hin
  obtain ⟨hix, hic, hC0⟩ := Kd.R_reads' (hM.hold (i := 0) rfl)
  have hv := Mem.blk_row (c := m) flatP hM 1 ys rfl (by rw [List.size_toArray, flat_len (sz := 2) (fun _ => rfl), hy]; rfl) (by rw [List.take_of_length_le]; rw [flat_len (sz := 2) (fun _ => rfl)]; exact Nat.le_refl _) (by omega) (by unfold maxLen; omega)
  have hC := hv.row_C 1 rfl
  rw [hy] at hC
  have HC := Aside0.mk hC
  have HL := Aside0.mk hix
  rw [List.take_of_length_le (by omega), List.drop_eq_nil_of_le (by omega), List.append_nil] at hzs
  subst hzs
  have M0 := Aside0.mk hM
  clear hM hv hC hC0 hic
  have e1 : ((m : Int) == 0) = false := by simp; omega
  have e2 : ((i : Int) == (i : Int)) = true := by simp
  have e3 : ¬ ((m : Int) = 0) := by omega
  have e4 : (i : Int) ≤ (i : Int) := Int.le_refl _
  go_enter Try.func72, Try.ntmps72
  go_wp2_with (((with_reducible refine gate_builtin (b := .append) (xs := #[.tmp 23, .tmp 24]) rfl ?_); at_builtin; refine Mem.app kP M0.out 0 _ xs ys rfl (.tmp 23) (.tmp 24) 32 41 _ _ rfl Try.underlying32 info41 rfl (by decide) (by omega) (some ⟨gv, 0, none⟩) m m rfl rfl rfl HC.out (fun x cs h => by have h2 := flatP.rd_ h; subst h2; exact flatP.mk_ _ _ _ _) (by have := HL.out; omega) ?_; intro v1 w1 hM1; have M1 := Aside0.mk hM1; clear hM1))
  all_goals
    go_ret
    exact ⟨_, rfl, Mem.sel (ps := [_, _]) (F := F) [0] 2 M1.out rfl rfl⟩
theorem insP_overlaps (w : World) (g gv n c : Nat) (o lb cb m vc : Nat) (cs vs : Array Value) (hne : gv ≠ g) (h1 : w.heap[gv]? = some (.cells vs 41 (0, 0))) (h2 : w.heap[g]? = some (.cells cs 41 (0, 0))) (h3 : cs.size ≠ 0) :
    (callFunc 109 #[.slice (some ⟨gv, 0, none⟩) m vc, .slice (some ⟨g, o, none⟩) lb cb]).run Try.prog w = .ok (.value (.bool false)) w := by
  rw [run_callFunc_extern Try.func109 (by kernel_rfl) (by kernel_rfl) (by kernel_rfl) (e := Extern.SlicesOverlaps.overlaps #[32, 32] #[4]) (by kernel_rfl),
    Lib.run_overlaps_apart w 32 4 41 Try.underlying32 2 (fun w => by kernel_rfl) ⟨gv, 0, none⟩ ⟨g, o, none⟩ m vc lb cb hne 41 41 vs.size cs.size (shape_of h1) (shape_of h2) h3 (blk_frozen h1 0) (blk_frozen h1 _)]
  rfl
theorem insP_room (w0 w : World) (F : List Res) (g n c gv i m : Nat) (xs ys : List SP) (hM : Mem w0 w (row kP 41 (.slice (some ⟨g, 0, none⟩) n c) xs :: blk gv 41 (ys.flatMap encP).toArray :: F)) (hy : ys.length = m) (hm : 0 < m) (hm1 : m ≤ 1000) (hin : i < n) (hr : n + m ≤ c) (hn : n ≤ 1000000) (zs : List SP) (hzs : xs.take i ++ ys ++ xs.drop i = zs) : Calls Try.prog 72 #[.slice (some ⟨g, 0, none⟩) n c, .int .i64 i, .slice (some ⟨gv, 0, none⟩) m m] w fun e w' => ∃ v', e = .returned v' ∧ Mem w0 w' (row kP 41 v' zs :: F) := by
  obtain ⟨cs, hsz, htk, hnx, hnc, hcm, hB⟩ := Mem.row_blk flatP hM 0 rfl
  change cs.size = c * 2 at hsz
  change cs.toList.take (n * 2) = _ at htk
  have hcs := insP_cells 0 hB rfl htk
  have hvs := insP_cells (n := m) (xs := ys) 1 hB rfl (by rw [List.take_of_length_le]; rw [flat_len (sz := 2) (fun _ => rfl), hy]; exact Nat.le_refl _)
  have hfl : (xs.flatMap encP).length = n * 2 := by rw [flat_len (sz := 2) (fun _ => rfl), ← hnx]
  have hvl : (ys.flatMap encP).length = m * 2 := by rw [flat_len (sz := 2) (fun _ => rfl), hy]
  have h1c : ∀ v ∈ xs.flatMap encP, v.oneCell' = true := fun v hv => by obtain ⟨x, _, hx⟩ := List.mem_flatMap.1 hv; exact flatP.one w x v hx
  have h1v : ∀ v ∈ ys.flatMap encP, v.oneCell' = true := fun v hv => by obtain ⟨x, _, hx⟩ := List.mem_flatMap.1 hv; exact flatP.one w x v hx
  have hsp : ∀ j, j < (n + m) * 2 → (w.cell? ⟨g, j, none⟩).isSome = true := fun j hj => by rw [blk_cell (hB.blk_at 0 rfl) j, Array.getElem?_eq_getElem (by have := Nat.mul_le_mul_right 2 hr; omega)]; rfl
  have hsp : ∀ j, j < (n + m) * 2 → (w.cell? ⟨g, j, none⟩).isSome = true := fun j hj => hsp j hj
  have hfz : ∀ j, w.frozen? ⟨g, j, none⟩ = false := fun j => blk_frozen (hB.blk_at 0 rfl) j
  have hvb : gv ≠ g := fun e => Wh0_ne hB 1 0 rfl rfl (by decide) e
  have hov := fun o lb cb => insP_overlaps w g gv n c o lb cb m m cs _ hvb (hB.blk_at 1 rfl) (hB.blk_at 0 rfl) (by omega)
  have hdl : ((xs.flatMap encP).drop (i * 2)).length = (n - i) * 2 := by rw [List.length_drop, hfl, Nat.sub_mul]
  have hinfo : (Try.prog.info? 41).map (·.size) = some 2 := by kernel_rfl
  have hcp1 : ∀ ty dc sc, (Builtin.copy_ #[32, 32] ty #[.slice (some ⟨g, (i + m) * 2, none⟩) (n + m - (i + m)) dc, .slice (some ⟨g, i * 2, none⟩) (n + m - i) sc]).run Try.prog w.drew = .ok (goInt ((n - i : Nat) : Int)) (w.drew.setCells g ((i + m) * 2) ((xs.flatMap encP).drop (i * 2))) := fun ty dc sc =>
    run_copyK w.drew _ _ ty 41 g ((i + m) * 2) (n + m - (i + m)) dc ⟨g, i * 2, none⟩ (n + m - i) sc 2 (n - i) _ Try.underlying32 hinfo (by simp only [Nat.min_def]; split <;> omega) hdl
      (fun j v hj => by rw [Addr.add_lit]; exact hcs (i * 2 + j) v (by rw [List.getElem?_drop] at hj; simpa using hj))
      (fun j hj => hsp _ (by rw [hdl] at hj; have := Nat.sub_mul n i 2; have := Nat.add_mul i m 2; have := Nat.add_mul n m 2; have := Nat.mul_le_mul_right 2 (Nat.le_of_lt hin); omega)) (fun j hj => hfz _) (fun v hv => h1c v (List.mem_of_mem_drop hv))
  obtain ⟨W1, hW1⟩ : ∃ W1, W1 = w.drew.setCells g ((i + m) * 2) ((xs.flatMap encP).drop (i * 2)) := ⟨_, rfl⟩
  have hsp1 : ∀ k, k < (n + m) * 2 → (W1.cell? ⟨g, k, none⟩).isSome = true := fun k hk => by
    rw [hW1]
    exact isSome_setCells g ((xs.flatMap encP).drop (i * 2)) ((i + m) * 2) w.drew (fun j hj => hsp _ (by rw [hdl] at hj; have := Nat.sub_mul n i 2; have := Nat.add_mul i m 2; have := Nat.add_mul n m 2; have := Nat.mul_le_mul_right 2 (Nat.le_of_lt hin); omega)) _ (hsp k hk)
  have hcp2 : ∀ (W : World), (∀ x, W.cell? x = W1.cell? x) → (∀ x, W.frozen? x = W1.frozen? x) → ∀ ty dc, (Builtin.copy_ #[32, 32] ty #[.slice (some ⟨g, i * 2, none⟩) (n + m - i) dc, .slice (some ⟨gv, 0, none⟩) m m]).run Try.prog W = .ok (goInt m) (W.setCells g (i * 2) (ys.flatMap encP)) := fun W hWc hWf ty dc =>
    run_copyK W _ _ ty 41 g (i * 2) (n + m - i) dc ⟨gv, 0, none⟩ m m 2 m _ Try.underlying32 hinfo (by simp only [Nat.min_def]; split <;> omega) hvl
      (fun j v hj => by
        rw [Addr.add_lit, hWc, hW1, World.cell?_setCells_out g _ _ _ _ (fun h _ => absurd h hvb), Nat.zero_add]
        exact hvs j v hj)
      (fun j hj => by rw [hWc]; exact hsp1 _ (by rw [hvl] at hj; have := Nat.add_mul n m 2; have := Nat.mul_le_mul_right 2 (Nat.le_of_lt hin); omega)) (fun j hj => by rw [hWf, hW1, World.frozen?_setCells]; exact hfz _) h1v
  rw [← hW1] at hcp1
  have hMW : ∃ cs1 cs2 : Array Value, cs1.toList = cs.toList.take ((i + m) * 2) ++ (xs.flatMap encP).drop (i * 2) ++ cs.toList.drop ((i + m) * 2 + (n - i) * 2) ∧ cs2.toList = cs1.toList.take (i * 2) ++ ys.flatMap encP ++ cs1.toList.drop (i * 2 + m * 2) ∧ cs2.size = c * 2 ∧ Mem w0 (W1.setCells g (i * 2) (ys.flatMap encP)) (blk g 41 cs2 :: blk gv 41 (ys.flatMap encP).toArray :: F) := by
    have a1 := Nat.sub_mul n i 2
    have a2 := Nat.add_mul i m 2
    have a3 := Nat.add_mul n m 2
    have a4 := Nat.mul_le_mul_right 2 hr
    have a5 := Nat.mul_le_mul_right 2 (Nat.le_of_lt hin)
    obtain ⟨cs1, b1, b2, b3⟩ := Mem.setRange hB.drew 0 rfl ((i + m) * 2) ((xs.flatMap encP).drop (i * 2)) (by rw [hdl]; omega)
    obtain ⟨cs2, d1, d2, d3⟩ := Mem.setRange b3 0 rfl (i * 2) (ys.flatMap encP) (by rw [hvl, b2]; omega)
    refine ⟨cs1, cs2, by rw [b1, hdl], by rw [d1, hvl], by rw [d2, b2, hsz], ?_⟩
    rw [hW1]
    simpa using d3
  obtain ⟨cs1, cs2, hc1, hc2, hc3, hMF⟩ := hMW
  have HMF := Aside0.mk hMF
  have HFIN := Aside0.mk (show cs2.toList.take ((xs.take i ++ ys ++ xs.drop i).length * 2) = (xs.take i ++ ys ++ xs.drop i).flatMap encP from by
    have a1 := Nat.sub_mul n i 2
    have a2 := Nat.add_mul i m 2
    have a3 := Nat.add_mul n m 2
    have a4 := Nat.mul_le_mul_right 2 hr
    have a5 := Nat.mul_le_mul_right 2 (Nat.le_of_lt hin)
    have l0 : cs.toList.length = c * 2 := by rw [Array.length_toList, hsz]
    have l1 : cs1.toList.length = c * 2 := by rw [hc1, List.length_append, List.length_append, hdl, List.length_take, List.length_drop, l0]; omega
    have l2 : cs2.toList.length = c * 2 := by rw [Array.length_toList, hc3]
    refine ins_take (K := 2) (fun _ => rfl) xs ys i n m (by omega) hnx.symm hy cs2.toList (by rw [l2]; exact a4) ?_ ?_ ?_
    · rw [hc2, List.append_assoc, List.take_append_of_le_length (by rw [List.length_take, l1]; omega), List.take_take, Nat.min_self, hc1, List.append_assoc, List.take_append_of_le_length (by rw [List.length_take, l0]; omega), List.take_take, Nat.min_eq_left (by omega), ← flat_take (sz := 2) (fun _ => rfl), ← htk, List.take_take, Nat.min_eq_left (by omega)]
    · rw [hc2, List.append_assoc, List.drop_append, List.drop_eq_nil_of_le (by rw [List.length_take, l1]; omega), List.nil_append, List.length_take, l1, Nat.min_eq_left (by omega), Nat.sub_self, List.drop_zero, List.take_append_of_le_length (by rw [hvl]; exact Nat.le_refl _), List.take_of_length_le (by rw [hvl]; exact Nat.le_refl _)]
    · rw [hc2, List.drop_append, List.drop_eq_nil_of_le (by rw [List.length_append, List.length_take, l1, hvl]; omega), List.nil_append, List.length_append, List.length_take, l1, hvl, Nat.min_eq_left (by omega), show (i + m) * 2 - (i * 2 + m * 2) = 0 by omega, List.drop_zero, hc1, show i * 2 + m * 2 = (i + m) * 2 by omega, List.append_assoc, List.drop_append, List.drop_eq_nil_of_le (by rw [List.length_take, l0]; omega), List.nil_append, List.length_take, l0, Nat.min_eq_left (by omega), Nat.sub_self, List.drop_zero, List.take_append_of_le_length (by rw [hdl]; exact Nat.le_refl _), List.take_of_length_le (by rw [hdl]; exact Nat.le_refl _), flat_drop (sz := 2) (fun _ => rfl)])
  have HSZ := Aside0.mk hc3
  have HLEN := Aside0.mk (show (xs.take i ++ ys ++ xs.drop i).length = n + m by simp; omega)
  have HCM := Aside0.mk hcm
  have HZ := Aside0.mk hzs
  have HVB := Aside0.mk hvb
  have mixed : Try.prog.follows Departure.mixedOrders = true := by kernel_rfl
  have hw1 : IntKind.i64.wrap ((i : Int) + (m : Int)) = (i : Int) + (m : Int) := by rw [IntKind.wrap_i64]; omega
  have hz1 : ¬ ((m : Int) = 0) := by omega
  have hz2 : ¬ ((i : Int) = (n : Int)) := by omega
  have hb1 : (0 : Int) ≤ (i : Int) + (m : Int) := by omega
  have hin' : i ≤ n := by omega
  have htn : ((i : Int) + (m : Int)).toNat = i + m := by omega
  have hb2 : ¬ (c = i + m) := by omega
  have hb3 : (i : Int) ≤ (n : Int) + (m : Int) := by omega
  have hb4 : ¬ (c = i) := by omega
  have hc63 : c ≤ 9223372036854775807 := by unfold maxLen at hcm; exact hcm
  clear hM hB hcs hvs hfl hvl h1c h1v hsp hfz hdl hinfo hsp1 hMF hc1 hc2 hc3 htk hsz hnx hnc hcm hvb hy hzs
  go_enter Try.func72, Try.ntmps72
  go_wp2_with (simp only [hov])
  go_region_law_o (refine step_copy_runI rfl _ _ 32 32 rfl _ _ (by simp [Act.eval, Act.put]) (by simp [Act.eval, Act.put]) (hcp1 _ _ _) ?_)
  go_wp2_with (at_builtin; refine wpList_copy_runI _ rfl _ _ 32 32 rfl _ _ rfl rfl (hcp2 _ (fun _ => rfl) (fun _ => rfl) _ _) ?_)
  subst hW1
  go_ret
  refine ⟨_, rfl, ?_⟩
  have h9 := Mem.blk_row (c := c) flatP HMF.out 0 (xs.take i ++ ys ++ xs.drop i) rfl HSZ.out HFIN.out (by rw [HLEN.out]; exact hr) HCM.out
  rw [HLEN.out, HZ.out] at h9
  exact Mem.sel (ps := [_, _]) (F := F) [0] 2 h9 rfl rfl
theorem insP_grow (w0 w : World) (F : List Res) (g n c gv i m : Nat) (xs ys : List SP) (hM : Mem w0 w (row kP 41 (.slice (some ⟨g, 0, none⟩) n c) xs :: blk gv 41 (ys.flatMap encP).toArray :: F)) (hy : ys.length = m) (hm : 0 < m) (hm1 : m ≤ 1000) (hin : i < n) (hr : c < n + m) (hn : n ≤ 1000000) (zs : List SP) (hzs : xs.take i ++ ys ++ xs.drop i = zs) : Calls Try.prog 72 #[.slice (some ⟨g, 0, none⟩) n c, .int .i64 i, .slice (some ⟨gv, 0, none⟩) m m] w fun e w' => ∃ v', e = .returned v' ∧ Mem w0 w' (row kP 41 v' zs :: F) := by
  have hzs0 := hzs
  clear hzs
  obtain ⟨cs, hsz, htk, hnx, hnc, hcm, hB⟩ := Mem.row_blk flatP hM 0 rfl
  change cs.size = c * 2 at hsz
  change cs.toList.take (n * 2) = _ at htk
  have hcs := insP_cells 0 hB rfl htk
  have hvs := insP_cells (n := m) (xs := ys) 1 hB rfl (by rw [List.take_of_length_le]; rw [flat_len (sz := 2) (fun _ => rfl), hy]; exact Nat.le_refl _)
  have hfl : (xs.flatMap encP).length = n * 2 := by rw [flat_len (sz := 2) (fun _ => rfl), ← hnx]
  have hvl : (ys.flatMap encP).length = m * 2 := by rw [flat_len (sz := 2) (fun _ => rfl), hy]
  have h1c : ∀ v ∈ xs.flatMap encP, v.oneCell' = true := fun v hv => by obtain ⟨x, _, hx⟩ := List.mem_flatMap.1 hv; exact flatP.one w x v hx
  have h1v : ∀ v ∈ ys.flatMap encP, v.oneCell' = true := fun v hv => by obtain ⟨x, _, hx⟩ := List.mem_flatMap.1 hv; exact flatP.one w x v hx
  have hbw := blk_lt (hB.blk_at 0 rfl)
  have hvw := blk_lt (hB.blk_at 1 rfl)
  have hdl : ((xs.flatMap encP).drop (i * 2)).length = (n - i) * 2 := by rw [List.length_drop, hfl, Nat.sub_mul]
  have htl : ((xs.flatMap encP).take (i * 2)).length = i * 2 := by rw [List.length_take, hfl]; have := Nat.mul_le_mul_right 2 (Nat.le_of_lt hin); omega
  have hinfo : (Try.prog.info? 41).map (·.size) = some 2 := by kernel_rfl
  obtain ⟨i0, hi0, hz0, hzs, hzb⟩ := info_parts info41
  have hkk : (n : Int) + (m : Int) - (i : Int) = ((n + m - i : Nat) : Int) := by omega
  have hik : i + (n + m - i) = n + m := by omega
  have hold : (Builtin.firstCells i0.size i (.slice (some ⟨g, 0, none⟩) i c)).run Try.prog w.drew = .ok ((xs.flatMap encP).take (i * 2)).toArray w.drew := by
    rw [hzs]
    exact run_firstCells_some w.drew 2 i ⟨g, 0, none⟩ i c ((xs.flatMap encP).take (i * 2)) htl (fun j v hj => by
      rw [Addr.add_lit, Nat.zero_add]
      rw [List.getElem?_take] at hj
      split at hj
      · exact hcs j v hj
      · cases hj)
  obtain ⟨G, hG⟩ : ∃ G, G = grownCap w (n + m) c 41 := ⟨_, rfl⟩
  obtain ⟨ROW, hROW⟩ : ∃ ROW : Array Value, ROW = ((xs.flatMap encP).take (i * 2)).toArray ++ Builtin.zeroCells (Value.agg #[.string ⟨#[]⟩, .string ⟨#[]⟩]).cells (n + m - i) ++ Builtin.zeroCells (Value.agg #[.string ⟨#[]⟩, .string ⟨#[]⟩]).cells (G - (n + m)) := ⟨_, rfl⟩
  have hrz : ∀ ty, (Builtin.append_ #[32, 3] ty #[.slice (some ⟨g, 0, none⟩) i c, .int .i64 ((n : Int) + (m : Int) - (i : Int))]).run Try.prog w =
      .ok (.slice (some ⟨w.heap.size, 0, none⟩) (n + m) G) (w.drew.alloc (.cells ROW 41)) := fun ty => by
    have h := Lib.run_append_grow_zeros w 32 3 ty 41 i0 _ .i64 .i64 Try.underlying32 Try.underlying3 hi0 hz0 (some ⟨g, 0, none⟩) i c _ hold (n + m - i) (by omega) (by rw [hzs]; decide) (by omega) (by omega) (by rw [hzb]; omega) (by rw [hzb, hik]; exact growslice_fits hr (by omega))
    rw [hik] at h
    rw [hkk, hROW, hG]
    exact h
  have hGn : n + m ≤ G := by rw [hG]; exact grownCap_ge w _ _ _
  have hGm : G ≤ maxLen := by rw [hG]; exact grownCap_le_maxLen w (n + m) c 41 (by unfold maxLen; omega)
  have hRs : ROW.size = G * 2 := by
    rw [hROW]
    simp only [Array.size_append, List.size_toArray, htl, size_zeroCells]
    have e1 : (Value.agg #[.string ⟨#[]⟩, .string ⟨#[]⟩]).cells.size = 2 := rfl
    rw [e1, ← Nat.add_mul, ← Nat.add_mul]
    congr 1
    omega
  have hRt : ROW.toList.take (i * 2) = (xs.flatMap encP).take (i * 2) := by
    rw [hROW]
    simp only [Array.toList_append, List.append_assoc]
    rw [List.take_append_of_le_length (by rw [htl]; exact Nat.le_refl _), List.take_take, Nat.min_self]
  obtain ⟨W1, hW1⟩ : ∃ W1, W1 = w.drew.alloc (.cells ROW 41) := ⟨_, rfl⟩
  rw [← hW1] at hrz
  have b1 := Nat.mul_le_mul_right 2 hGn
  have b2 := Nat.add_mul n m 2
  have b3 := Nat.add_mul i m 2
  have b4 := Nat.sub_mul n i 2
  have b5 := Nat.mul_le_mul_right 2 (Nat.le_of_lt hin)
  have hN : ∀ j, j < (n + m) * 2 → (W1.cell? ⟨w.heap.size, j, none⟩).isSome = true := fun j hj => by
    rw [hW1, World.cell?_alloc_at (w := w.drew) ROW _ w.heap.size j rfl, Array.getElem?_eq_getElem (by omega)]; rfl
  have hNf : ∀ j, W1.frozen? ⟨w.heap.size, j, none⟩ = false := fun j => by rw [hW1]; exact World.frozen?_alloc_at (w := w.drew) ROW _ w.heap.size j rfl
  have hOb : ∀ j v, w.cell? ⟨g, j, none⟩ = some v → W1.cell? ⟨g, j, none⟩ = some v := fun j v h => by rw [hW1, World.cell?_alloc_past (w := w.drew) _ g j hbw]; exact h
  have hOv : ∀ j v, w.cell? ⟨gv, j, none⟩ = some v → W1.cell? ⟨gv, j, none⟩ = some v := fun j v h => by rw [hW1, World.cell?_alloc_past (w := w.drew) _ gv j hvw]; exact h
  have hcpA : ∀ (W : World), (∀ x, W.cell? x = W1.cell? x) → (∀ x, W.frozen? x = W1.frozen? x) → ∀ ty dc, (Builtin.copy_ #[32, 32] ty #[.slice (some ⟨w.heap.size, i * 2, none⟩) (n + m - i) dc, .slice (some ⟨gv, 0, none⟩) m m]).run Try.prog W = .ok (goInt m) (W.setCells w.heap.size (i * 2) (ys.flatMap encP)) := fun W hWc hWf ty dc =>
    run_copyK W _ _ ty 41 w.heap.size (i * 2) (n + m - i) dc ⟨gv, 0, none⟩ m m 2 m _ Try.underlying32 hinfo (by simp only [Nat.min_def]; split <;> omega) hvl
      (fun j v hj => by rw [Addr.add_lit, hWc, Nat.zero_add]; exact hOv _ v (hvs j v hj))
      (fun j hj => by rw [hWc]; exact hN _ (by rw [hvl] at hj; omega)) (fun j hj => by rw [hWf]; exact hNf _) h1v
  have hGi : ¬ (G = i) := by omega
  have hGim : ¬ (G = i + m) := by omega
  have hci : ¬ (c = i) := by omega
  have hbN : g ≠ w.heap.size := by omega
  have hcpB : ∀ (W : World), (∀ x, W.cell? x = (W1.setCells w.heap.size (i * 2) (ys.flatMap encP)).cell? x) → (∀ x, W.frozen? x = (W1.setCells w.heap.size (i * 2) (ys.flatMap encP)).frozen? x) → ∀ ty dc sc, (Builtin.copy_ #[32, 32] ty #[.slice (some ⟨w.heap.size, (i + m) * 2, none⟩) (n + m - (i + m)) dc, .slice (some ⟨g, i * 2, none⟩) (n - i) sc]).run Try.prog W = .ok (goInt ((n - i : Nat) : Int)) (W.setCells w.heap.size ((i + m) * 2) ((xs.flatMap encP).drop (i * 2))) := fun W hWc hWf ty dc sc =>
    run_copyK W _ _ ty 41 w.heap.size ((i + m) * 2) (n + m - (i + m)) dc ⟨g, i * 2, none⟩ (n - i) sc 2 (n - i) _ Try.underlying32 hinfo (by simp only [Nat.min_def]; split <;> omega) hdl
      (fun j v hj => by
        rw [Addr.add_lit, hWc, World.cell?_setCells_out _ _ _ _ _ (fun h _ => absurd h hbN)]
        exact hOb _ v (hcs (i * 2 + j) v (by rw [List.getElem?_drop] at hj; simpa using hj)))
      (fun j hj => by rw [hWc]; exact isSome_setCells _ _ _ _ (fun t ht => hN _ (by rw [hvl] at ht; omega)) _ (hN _ (by rw [hdl] at hj; omega)))
      (fun j hj => by rw [hWf, World.frozen?_setCells]; exact hNf _) (fun v hv => h1c v (List.mem_of_mem_drop hv))
  have hMW : ∃ cs1 cs2 : Array Value, cs1.toList = ROW.toList.take (i * 2) ++ ys.flatMap encP ++ ROW.toList.drop (i * 2 + m * 2) ∧ cs2.toList = cs1.toList.take ((i + m) * 2) ++ (xs.flatMap encP).drop (i * 2) ++ cs1.toList.drop ((i + m) * 2 + (n - i) * 2) ∧ cs2.size = G * 2 ∧ Mem w0 (((w.alloc (.cells ROW 41)).drew.setCells w.heap.size (i * 2) (ys.flatMap encP)).drew.setCells w.heap.size ((i + m) * 2) ((xs.flatMap encP).drop (i * 2))) (blk w.heap.size 41 cs2 :: blk g 41 cs :: blk gv 41 (ys.flatMap encP).toArray :: F) := by
    obtain ⟨cs1, c1, c2, c3⟩ := Mem.setRange (hB.allocAt ROW 41 w.heap.size rfl).drew 0 rfl (i * 2) (ys.flatMap encP) (by rw [hvl, hRs]; omega)
    obtain ⟨cs2, d1, d2, d3⟩ := Mem.setRange c3.drew 0 rfl ((i + m) * 2) ((xs.flatMap encP).drop (i * 2)) (by rw [hdl, c2, hRs]; omega)
    refine ⟨cs1, cs2, by rw [c1, hvl], by rw [d1, hdl], by rw [d2, c2, hRs], ?_⟩
    simpa using d3
  obtain ⟨cs1, cs2, hc1, hc2, hc3, hMF⟩ := hMW
  have HMF := Aside0.mk hMF
  have HFIN := Aside0.mk (show cs2.toList.take ((xs.take i ++ ys ++ xs.drop i).length * 2) = (xs.take i ++ ys ++ xs.drop i).flatMap encP from by
    have l0 : ROW.toList.length = G * 2 := by rw [Array.length_toList, hRs]
    have l1 : cs1.toList.length = G * 2 := by rw [hc1, List.length_append, List.length_append, hvl, List.length_take, List.length_drop, l0]; omega
    have l2 : cs2.toList.length = G * 2 := by rw [Array.length_toList, hc3]
    refine ins_take (K := 2) (fun _ => rfl) xs ys i n m (by omega) hnx.symm hy cs2.toList (by rw [l2]; exact b1) ?_ ?_ ?_
    · rw [hc2, List.append_assoc, List.take_append_of_le_length (by rw [List.length_take, l1]; omega), List.take_take, Nat.min_eq_left (by omega), hc1, List.append_assoc, List.take_append_of_le_length (by rw [List.length_take, l0]; omega), List.take_take, Nat.min_self, hRt, flat_take (sz := 2) (fun _ => rfl)]
    · rw [hc2, List.append_assoc, List.drop_append_of_le_length (by rw [List.length_take, l1]; omega), List.take_append_of_le_length (by rw [List.length_drop, List.length_take, l1]; omega), List.drop_take, List.take_take, Nat.min_eq_left (by omega), hc1, List.append_assoc, List.drop_append, List.drop_eq_nil_of_le (by rw [List.length_take, l0]; omega), List.nil_append, List.length_take, l0, Nat.min_eq_left (by omega), Nat.sub_self, List.drop_zero, List.take_append_of_le_length (by rw [hvl]; exact Nat.le_refl _), List.take_of_length_le (by rw [hvl]; exact Nat.le_refl _)]
    · rw [hc2, List.append_assoc, List.drop_append, List.drop_eq_nil_of_le (by rw [List.length_take, l1]; omega), List.nil_append, List.length_take, l1, Nat.min_eq_left (by omega), Nat.sub_self, List.drop_zero, List.take_append_of_le_length (by rw [hdl]; exact Nat.le_refl _), List.take_of_length_le (by rw [hdl]; exact Nat.le_refl _), flat_drop (sz := 2) (fun _ => rfl)])
  have HSZ := Aside0.mk hc3
  have HLEN := Aside0.mk (show (xs.take i ++ ys ++ xs.drop i).length = n + m by simp; omega)
  have HCM := Aside0.mk hGm
  have HGN := Aside0.mk hGn
  have HZ := Aside0.mk hzs0
  have mixed : Try.prog.follows Departure.mixedOrders = true := by kernel_rfl
  have hz1 : ¬ ((m : Int) = 0) := by omega
  have hz2 : ¬ ((i : Int) = (n : Int)) := by omega
  have hz3 : (c : Int) < (n : Int) + (m : Int) := by omega
  subst hW1
  have hE1 : ∀ x, ((w.alloc (.cells ROW 41)).drew).cell? x = (w.drew.alloc (.cells ROW 41)).cell? x := fun x => rfl
  have hE2 : ∀ x, ((w.alloc (.cells ROW 41)).drew).frozen? x = (w.drew.alloc (.cells ROW 41)).frozen? x := fun x => rfl
  have hF1 : ∀ x, (((w.alloc (.cells ROW 41)).drew.setCells w.heap.size (i * 2) (ys.flatMap encP)).drew).cell? x = ((w.drew.alloc (.cells ROW 41)).setCells w.heap.size (i * 2) (ys.flatMap encP)).cell? x := fun x => rfl
  have hF2 : ∀ x, (((w.alloc (.cells ROW 41)).drew.setCells w.heap.size (i * 2) (ys.flatMap encP)).drew).frozen? x = ((w.drew.alloc (.cells ROW 41)).setCells w.heap.size (i * 2) (ys.flatMap encP)).frozen? x := fun x => rfl
  have hw1 : IntKind.i64.wrap ((i : Int) + (m : Int)) = (i : Int) + (m : Int) := by rw [IntKind.wrap_i64]; omega
  have hb1 : (0 : Int) ≤ (i : Int) + (m : Int) := by omega
  have hin' : i ≤ n := by omega
  have htn : ((i : Int) + (m : Int)).toNat = i + m := by omega
  have hb3 : (i : Int) ≤ (n : Int) := by omega
  have hic : i ≤ c := by omega
  have hic2 : (i : Int) ≤ (c : Int) := by omega
  have hc63 : c ≤ 9223372036854775807 := by unfold maxLen at hcm; exact hcm
  have hG63 : G ≤ 9223372036854775807 := by unfold maxLen at hGm; exact hGm
  clear hM hB hcs hvs hfl hvl h1c h1v hdl htl hinfo hMF hc1 hc2 hc3 htk hsz hnx hnc hcm hy hzs0 hkk hik hold hROW hG hRs hRt b1 b2 b3 b4 b5 hN hNf hOb hOv hi0 hz0 hzs hzb hbw hvw hGm
  go_enter Try.func72, Try.ntmps72
  go_wp2_with (first
    | (at_builtin; refine Lib.wpList_append_run _ rfl _ _ _ _ rfl _ _ rfl rfl _ _ (hrz _) ?_)
    | (at_builtin; refine wpList_copy_runI _ rfl _ _ 32 32 rfl _ _ rfl rfl (hcpA _ hE1 hE2 _ _) ?_)
    | (at_builtin; refine wpList_copy_runI _ rfl _ _ 32 32 rfl _ _ rfl rfl (hcpB _ (fun _ => rfl) (fun _ => rfl) _ _ _) ?_))
  go_region_law_o (refine step_copy_runI rfl _ _ 32 32 rfl (.slice (some ⟨w.heap.size, (i + m) * 2, none⟩) (n + m - (i + m)) (G - (i + m))) (.slice (some ⟨g, i * 2, none⟩) (n - i) (c - i)) (by simp [Act.eval, Act.put]) (by simp [Act.eval, Act.put]) (hcpB _ hF1 hF2 3 (G - (i + m)) (c - i)) ?_)
  go_wp2
  go_ret
  refine ⟨_, rfl, ?_⟩
  have h9 := Mem.blk_row (c := G) flatP HMF.out 0 (xs.take i ++ ys ++ xs.drop i) rfl HSZ.out HFIN.out (by rw [HLEN.out]; exact HGN.out) HCM.out
  rw [HLEN.out, HZ.out] at h9
  exact Mem.sel (ps := [_, _, _]) (F := F) [0] 3 h9 rfl rfl
/-- Whatever the room. -/
theorem insP_calls (w0 w : World) (F : List Res) (v : Value) (gv i m : Nat) (xs ys : List SP) (hM : Mem w0 w (row kP 41 v xs :: blk gv 41 (ys.flatMap encP).toArray :: F)) (hy : ys.length = m) (hm : 0 < m) (hm1 : m ≤ 1000) (hn : xs.length ≤ 1000000) (hp : 0 < xs.length) (hi : i ≤ xs.length) (zs : List SP) (hzs : xs.take i ++ ys ++ xs.drop i = zs) :
    Calls Try.prog 72 #[v, .int .i64 i, .slice (some ⟨gv, 0, none⟩) m m] w fun e w' => ∃ v', e = .returned v' ∧ Mem w0 w' (row kP 41 v' zs :: F) := by
  obtain ⟨g, c, rfl, _⟩ := Kd.R_form (hM.hold (i := 0) rfl) hp
  by_cases h1 : i = xs.length
  · exact insP_end w0 w F g xs.length c gv i m xs ys hM hy hm hm1 h1 hp hn zs hzs
  · by_cases h2 : xs.length + m ≤ c
    · exact insP_room w0 w F g xs.length c gv i m xs ys hM hy hm hm1 (by omega) h2 hn zs hzs
    · exact insP_grow w0 w F g xs.length c gv i m xs ys hM hy hm hm1 (by omega) (by omega) hn zs hzs
/-! ### insH -/
theorem insH_cells {w0 w : World} {rs : List Res} (k : Nat) {g : Nat} {cs : Array Value} {xs : List Hd} {n : Nat} (h : Mem w0 w rs) (hi : rs[k]? = some (blk g 32 cs)) (ht : cs.toList.take (n * 1) = xs.flatMap (fun h : Hd => [h.v])) : ∀ j v, (xs.flatMap (fun h : Hd => [h.v]))[j]? = some v → w.cell? ⟨g, j, none⟩ = some v := by
  intro j v hj
  rw [blk_cell (h.blk_at k hi) j, ← Array.getElem?_toList]
  rw [← ht, List.getElem?_take] at hj
  split at hj
  · exact hj
  · cases hj
theorem insH_end (w0 w : World) (F : List Res) (g n c gv i m : Nat) (xs ys : List Hd) (hM : Mem w0 w (row kH 32 (.slice (some ⟨g, 0, none⟩) n c) xs :: blk gv 32 (ys.flatMap (fun h : Hd => [h.v])).toArray :: F)) (hy : ys.length = m) (hm : 0 < m) (hm1 : m ≤ 1000) (hin : i = n) (hp : 0 < n) (hn : n ≤ 1000000) (zs : List Hd) (hzs : xs.take i ++ ys ++ xs.drop i = zs) : Calls Try.prog 74 #[.slice (some ⟨g, 0, none⟩) n c, .int .i64 i, .slice (some ⟨gv, 0, none⟩) m m] w fun e w' => ∃ v', e = .returned v' ∧ Mem w0 w' (row kH 32 v' zs :: F) := by
  subst hin
  obtain ⟨hix, hic, hC0⟩ := Kd.R_reads' (hM.hold (i := 0) rfl)
  have hv := Mem.blk_row (c := m) flatH hM 1 ys rfl (by rw [List.size_toArray, flat_len (sz := 1) (fun _ => rfl), hy]; rfl) (by rw [List.take_of_length_le]; rw [flat_len (sz := 1) (fun _ => rfl)]; exact Nat.le_refl _) (by omega) (by unfold maxLen; omega)
  have hC := hv.row_C 1 rfl
  rw [hy] at hC
  have HC := Aside0.mk hC
  have HL := Aside0.mk hix
  rw [List.take_of_length_le (by omega), List.drop_eq_nil_of_le (by omega), List.append_nil] at hzs
  subst hzs
  have M0 := Aside0.mk hM
  clear hM hv hC hC0 hic
  have e1 : ((m : Int) == 0) = false := by simp; omega
  have e2 : ((i : Int) == (i : Int)) = true := by simp
  have e3 : ¬ ((m : Int) = 0) := by omega
  have e4 : (i : Int) ≤ (i : Int) := Int.le_refl _
  go_enter Try.func74, Try.ntmps74
  go_wp2_with (((with_reducible refine gate_builtin (b := .append) (xs := #[.tmp 23, .tmp 24]) rfl ?_); at_builtin; refine Mem.app kH M0.out 0 _ xs ys rfl (.tmp 23) (.tmp 24) 22 32 _ _ rfl Try.underlying22 info32 rfl (by decide) (by omega) (some ⟨gv, 0, none⟩) m m rfl rfl rfl HC.out (fun x cs h => by have h2 := flatH.rd_ h; subst h2; exact flatH.mk_ _ _ _ _) (by have := HL.out; omega) ?_; intro v1 w1 hM1; have M1 := Aside0.mk hM1; clear hM1))
  all_goals
    go_ret
    exact ⟨_, rfl, Mem.sel (ps := [_, _]) (F := F) [0] 2 M1.out rfl rfl⟩
theorem insH_overlaps (w : World) (g gv n c : Nat) (o lb cb m vc : Nat) (cs vs : Array Value) (hne : gv ≠ g) (h1 : w.heap[gv]? = some (.cells vs 32 (0, 0))) (h2 : w.heap[g]? = some (.cells cs 32 (0, 0))) (h3 : cs.size ≠ 0) :
    (callFunc 111 #[.slice (some ⟨gv, 0, none⟩) m vc, .slice (some ⟨g, o, none⟩) lb cb]).run Try.prog w = .ok (.value (.bool false)) w := by
  rw [run_callFunc_extern Try.func111 (by kernel_rfl) (by kernel_rfl) (by kernel_rfl) (e := Extern.SlicesOverlaps.overlaps #[22, 22] #[4]) (by kernel_rfl),
    Lib.run_overlaps_apart w 22 4 32 Try.underlying22 1 (fun w => by kernel_rfl) ⟨gv, 0, none⟩ ⟨g, o, none⟩ m vc lb cb hne 32 32 vs.size cs.size (shape_of h1) (shape_of h2) h3 (blk_frozen h1 0) (blk_frozen h1 _)]
  rfl
theorem insH_room (w0 w : World) (F : List Res) (g n c gv i m : Nat) (xs ys : List Hd) (hM : Mem w0 w (row kH 32 (.slice (some ⟨g, 0, none⟩) n c) xs :: blk gv 32 (ys.flatMap (fun h : Hd => [h.v])).toArray :: F)) (hy : ys.length = m) (hm : 0 < m) (hm1 : m ≤ 1000) (hin : i < n) (hr : n + m ≤ c) (hn : n ≤ 1000000) (zs : List Hd) (hzs : xs.take i ++ ys ++ xs.drop i = zs) : Calls Try.prog 74 #[.slice (some ⟨g, 0, none⟩) n c, .int .i64 i, .slice (some ⟨gv, 0, none⟩) m m] w fun e w' => ∃ v', e = .returned v' ∧ Mem w0 w' (row kH 32 v' zs :: F) := by
  obtain ⟨cs, hsz, htk, hnx, hnc, hcm, hB⟩ := Mem.row_blk flatH hM 0 rfl
  change cs.size = c * 1 at hsz
  change cs.toList.take (n * 1) = _ at htk
  have hcs := insH_cells 0 hB rfl htk
  have hvs := insH_cells (n := m) (xs := ys) 1 hB rfl (by rw [List.take_of_length_le]; rw [flat_len (sz := 1) (fun _ => rfl), hy]; exact Nat.le_refl _)
  have hfl : (xs.flatMap (fun h : Hd => [h.v])).length = n * 1 := by rw [flat_len (sz := 1) (fun _ => rfl), ← hnx]
  have hvl : (ys.flatMap (fun h : Hd => [h.v])).length = m * 1 := by rw [flat_len (sz := 1) (fun _ => rfl), hy]
  have h1c : ∀ v ∈ xs.flatMap (fun h : Hd => [h.v]), v.oneCell' = true := fun v hv => by obtain ⟨x, _, hx⟩ := List.mem_flatMap.1 hv; exact flatH.one w x v hx
  have h1v : ∀ v ∈ ys.flatMap (fun h : Hd => [h.v]), v.oneCell' = true := fun v hv => by obtain ⟨x, _, hx⟩ := List.mem_flatMap.1 hv; exact flatH.one w x v hx
  have hsp : ∀ j, j < (n + m) * 1 → (w.cell? ⟨g, j, none⟩).isSome = true := fun j hj => by rw [blk_cell (hB.blk_at 0 rfl) j, Array.getElem?_eq_getElem (by have := Nat.mul_le_mul_right 1 hr; omega)]; rfl
  have hsp : ∀ j, j < (n + m) * 1 → (w.cell? ⟨g, j, none⟩).isSome = true := fun j hj => hsp j hj
  have hfz : ∀ j, w.frozen? ⟨g, j, none⟩ = false := fun j => blk_frozen (hB.blk_at 0 rfl) j
  have hvb : gv ≠ g := fun e => Wh0_ne hB 1 0 rfl rfl (by decide) e
  have hov := fun o lb cb => insH_overlaps w g gv n c o lb cb m m cs _ hvb (hB.blk_at 1 rfl) (hB.blk_at 0 rfl) (by omega)
  have hdl : ((xs.flatMap (fun h : Hd => [h.v])).drop (i * 1)).length = (n - i) * 1 := by rw [List.length_drop, hfl, Nat.sub_mul]
  have hinfo : (Try.prog.info? 32).map (·.size) = some 1 := by kernel_rfl
  have hcp1 : ∀ ty dc sc, (Builtin.copy_ #[22, 22] ty #[.slice (some ⟨g, i + m, none⟩) (n + m - (i + m)) dc, .slice (some ⟨g, i, none⟩) (n + m - i) sc]).run Try.prog w.drew = .ok (goInt ((n - i : Nat) : Int)) (w.drew.setCells g (i + m) ((xs.flatMap (fun h : Hd => [h.v])).drop (i * 1))) := fun ty dc sc =>
    run_copyK w.drew _ _ ty 32 g (i + m) (n + m - (i + m)) dc ⟨g, i, none⟩ (n + m - i) sc 1 (n - i) _ Try.underlying22 hinfo (by simp only [Nat.min_def]; split <;> omega) hdl
      (fun j v hj => by rw [Addr.add_lit]; exact hcs (i + j) v (by rw [List.getElem?_drop] at hj; simpa using hj))
      (fun j hj => hsp _ (by rw [hdl] at hj; have := Nat.sub_mul n i 1; have := Nat.add_mul i m 1; have := Nat.add_mul n m 1; have := Nat.mul_le_mul_right 1 (Nat.le_of_lt hin); omega)) (fun j hj => hfz _) (fun v hv => h1c v (List.mem_of_mem_drop hv))
  obtain ⟨W1, hW1⟩ : ∃ W1, W1 = w.drew.setCells g (i + m) ((xs.flatMap (fun h : Hd => [h.v])).drop (i * 1)) := ⟨_, rfl⟩
  have hsp1 : ∀ k, k < (n + m) * 1 → (W1.cell? ⟨g, k, none⟩).isSome = true := fun k hk => by
    rw [hW1]
    exact isSome_setCells g ((xs.flatMap (fun h : Hd => [h.v])).drop (i * 1)) (i + m) w.drew (fun j hj => hsp _ (by rw [hdl] at hj; have := Nat.sub_mul n i 1; have := Nat.add_mul i m 1; have := Nat.add_mul n m 1; have := Nat.mul_le_mul_right 1 (Nat.le_of_lt hin); omega)) _ (hsp k hk)
  have hcp2 : ∀ (W : World), (∀ x, W.cell? x = W1.cell? x) → (∀ x, W.frozen? x = W1.frozen? x) → ∀ ty dc, (Builtin.copy_ #[22, 22] ty #[.slice (some ⟨g, i, none⟩) (n + m - i) dc, .slice (some ⟨gv, 0, none⟩) m m]).run Try.prog W = .ok (goInt m) (W.setCells g (i) (ys.flatMap (fun h : Hd => [h.v]))) := fun W hWc hWf ty dc =>
    run_copyK W _ _ ty 32 g (i) (n + m - i) dc ⟨gv, 0, none⟩ m m 1 m _ Try.underlying22 hinfo (by simp only [Nat.min_def]; split <;> omega) hvl
      (fun j v hj => by
        rw [Addr.add_lit, hWc, hW1, World.cell?_setCells_out g _ _ _ _ (fun h _ => absurd h hvb), Nat.zero_add]
        exact hvs j v hj)
      (fun j hj => by rw [hWc]; exact hsp1 _ (by rw [hvl] at hj; have := Nat.add_mul n m 1; have := Nat.mul_le_mul_right 1 (Nat.le_of_lt hin); omega)) (fun j hj => by rw [hWf, hW1, World.frozen?_setCells]; exact hfz _) h1v
  rw [← hW1] at hcp1
  have hMW : ∃ cs1 cs2 : Array Value, cs1.toList = cs.toList.take ((i + m) * 1) ++ (xs.flatMap (fun h : Hd => [h.v])).drop (i * 1) ++ cs.toList.drop ((i + m) * 1 + (n - i) * 1) ∧ cs2.toList = cs1.toList.take (i * 1) ++ ys.flatMap (fun h : Hd => [h.v]) ++ cs1.toList.drop (i * 1 + m * 1) ∧ cs2.size = c * 1 ∧ Mem w0 (W1.setCells g (i) (ys.flatMap (fun h : Hd => [h.v]))) (blk g 32 cs2 :: blk gv 32 (ys.flatMap (fun h : Hd => [h.v])).toArray :: F) := by
    have a1 := Nat.sub_mul n i 1
    have a2 := Nat.add_mul i m 1
    have a3 := Nat.add_mul n m 1
    have a4 := Nat.mul_le_mul_right 1 hr
    have a5 := Nat.mul_le_mul_right 1 (Nat.le_of_lt hin)
    obtain ⟨cs1, b1, b2, b3⟩ := Mem.setRange hB.drew 0 rfl ((i + m) * 1) ((xs.flatMap (fun h : Hd => [h.v])).drop (i * 1)) (by rw [hdl]; omega)
    obtain ⟨cs2, d1, d2, d3⟩ := Mem.setRange b3 0 rfl (i * 1) (ys.flatMap (fun h : Hd => [h.v])) (by rw [hvl, b2]; omega)
    refine ⟨cs1, cs2, by rw [b1, hdl], by rw [d1, hvl], by rw [d2, b2, hsz], ?_⟩
    rw [hW1]
    simpa using d3
  obtain ⟨cs1, cs2, hc1, hc2, hc3, hMF⟩ := hMW
  have HMF := Aside0.mk hMF
  have HFIN := Aside0.mk (show cs2.toList.take ((xs.take i ++ ys ++ xs.drop i).length * 1) = (xs.take i ++ ys ++ xs.drop i).flatMap (fun h : Hd => [h.v]) from by
    have a1 := Nat.sub_mul n i 1
    have a2 := Nat.add_mul i m 1
    have a3 := Nat.add_mul n m 1
    have a4 := Nat.mul_le_mul_right 1 hr
    have a5 := Nat.mul_le_mul_right 1 (Nat.le_of_lt hin)
    have l0 : cs.toList.length = c * 1 := by rw [Array.length_toList, hsz]
    have l1 : cs1.toList.length = c * 1 := by rw [hc1, List.length_append, List.length_append, hdl, List.length_take, List.length_drop, l0]; omega
    have l2 : cs2.toList.length = c * 1 := by rw [Array.length_toList, hc3]
    refine ins_take (K := 1) (fun _ => rfl) xs ys i n m (by omega) hnx.symm hy cs2.toList (by rw [l2]; exact a4) ?_ ?_ ?_
    · rw [hc2, List.append_assoc, List.take_append_of_le_length (by rw [List.length_take, l1]; omega), List.take_take, Nat.min_self, hc1, List.append_assoc, List.take_append_of_le_length (by rw [List.length_take, l0]; omega), List.take_take, Nat.min_eq_left (by omega), ← flat_take (sz := 1) (fun _ => rfl), ← htk, List.take_take, Nat.min_eq_left (by omega)]
    · rw [hc2, List.append_assoc, List.drop_append, List.drop_eq_nil_of_le (by rw [List.length_take, l1]; omega), List.nil_append, List.length_take, l1, Nat.min_eq_left (by omega), Nat.sub_self, List.drop_zero, List.take_append_of_le_length (by rw [hvl]; exact Nat.le_refl _), List.take_of_length_le (by rw [hvl]; exact Nat.le_refl _)]
    · rw [hc2, List.drop_append, List.drop_eq_nil_of_le (by rw [List.length_append, List.length_take, l1, hvl]; omega), List.nil_append, List.length_append, List.length_take, l1, hvl, Nat.min_eq_left (by omega), show (i + m) * 1 - (i * 1 + m * 1) = 0 by omega, List.drop_zero, hc1, show i * 1 + m * 1 = (i + m) * 1 by omega, List.append_assoc, List.drop_append, List.drop_eq_nil_of_le (by rw [List.length_take, l0]; omega), List.nil_append, List.length_take, l0, Nat.min_eq_left (by omega), Nat.sub_self, List.drop_zero, List.take_append_of_le_length (by rw [hdl]; exact Nat.le_refl _), List.take_of_length_le (by rw [hdl]; exact Nat.le_refl _), flat_drop (sz := 1) (fun _ => rfl)])
  have HSZ := Aside0.mk hc3
  have HLEN := Aside0.mk (show (xs.take i ++ ys ++ xs.drop i).length = n + m by simp; omega)
  have HCM := Aside0.mk hcm
  have HZ := Aside0.mk hzs
  have HVB := Aside0.mk hvb
  have mixed : Try.prog.follows Departure.mixedOrders = true := by kernel_rfl
  have hw1 : IntKind.i64.wrap ((i : Int) + (m : Int)) = (i : Int) + (m : Int) := by rw [IntKind.wrap_i64]; omega
  have hz1 : ¬ ((m : Int) = 0) := by omega
  have hz2 : ¬ ((i : Int) = (n : Int)) := by omega
  have hb1 : (0 : Int) ≤ (i : Int) + (m : Int) := by omega
  have hin' : i ≤ n := by omega
  have htn : ((i : Int) + (m : Int)).toNat = i + m := by omega
  have hb2 : ¬ (c = i + m) := by omega
  have hb3 : (i : Int) ≤ (n : Int) + (m : Int) := by omega
  have hb4 : ¬ (c = i) := by omega
  have hc63 : c ≤ 9223372036854775807 := by unfold maxLen at hcm; exact hcm
  clear hM hB hcs hvs hfl hvl h1c h1v hsp hfz hdl hinfo hsp1 hMF hc1 hc2 hc3 htk hsz hnx hnc hcm hvb hy hzs
  go_enter Try.func74, Try.ntmps74
  go_wp2_with (simp only [hov])
  go_region_law_o (refine step_copy_runI rfl _ _ 22 22 rfl _ _ (by simp [Act.eval, Act.put]) (by simp [Act.eval, Act.put]) (hcp1 _ _ _) ?_)
  go_wp2_with (at_builtin; refine wpList_copy_runI _ rfl _ _ 22 22 rfl _ _ rfl rfl (hcp2 _ (fun _ => rfl) (fun _ => rfl) _ _) ?_)
  subst hW1
  go_ret
  refine ⟨_, rfl, ?_⟩
  have h9 := Mem.blk_row (c := c) flatH HMF.out 0 (xs.take i ++ ys ++ xs.drop i) rfl HSZ.out HFIN.out (by rw [HLEN.out]; exact hr) HCM.out
  rw [HLEN.out, HZ.out] at h9
  simp only [Nat.mul_one] at h9
  exact Mem.sel (ps := [_, _]) (F := F) [0] 2 h9 rfl rfl
theorem insH_grow (w0 w : World) (F : List Res) (g n c gv i m : Nat) (xs ys : List Hd) (hM : Mem w0 w (row kH 32 (.slice (some ⟨g, 0, none⟩) n c) xs :: blk gv 32 (ys.flatMap (fun h : Hd => [h.v])).toArray :: F)) (hy : ys.length = m) (hm : 0 < m) (hm1 : m ≤ 1000) (hin : i < n) (hr : c < n + m) (hn : n ≤ 1000000) (zs : List Hd) (hzs : xs.take i ++ ys ++ xs.drop i = zs) : Calls Try.prog 74 #[.slice (some ⟨g, 0, none⟩) n c, .int .i64 i, .slice (some ⟨gv, 0, none⟩) m m] w fun e w' => ∃ v', e = .returned v' ∧ Mem w0 w' (row kH 32 v' zs :: F) := by
  have hzs0 := hzs
  clear hzs
  obtain ⟨cs, hsz, htk, hnx, hnc, hcm, hB⟩ := Mem.row_blk flatH hM 0 rfl
  change cs.size = c * 1 at hsz
  change cs.toList.take (n * 1) = _ at htk
  have hcs := insH_cells 0 hB rfl htk
  have hvs := insH_cells (n := m) (xs := ys) 1 hB rfl (by rw [List.take_of_length_le]; rw [flat_len (sz := 1) (fun _ => rfl), hy]; exact Nat.le_refl _)
  have hfl : (xs.flatMap (fun h : Hd => [h.v])).length = n * 1 := by rw [flat_len (sz := 1) (fun _ => rfl), ← hnx]
  have hvl : (ys.flatMap (fun h : Hd => [h.v])).length = m * 1 := by rw [flat_len (sz := 1) (fun _ => rfl), hy]
  have h1c : ∀ v ∈ xs.flatMap (fun h : Hd => [h.v]), v.oneCell' = true := fun v hv => by obtain ⟨x, _, hx⟩ := List.mem_flatMap.1 hv; exact flatH.one w x v hx
  have h1v : ∀ v ∈ ys.flatMap (fun h : Hd => [h.v]), v.oneCell' = true := fun v hv => by obtain ⟨x, _, hx⟩ := List.mem_flatMap.1 hv; exact flatH.one w x v hx
  have hbw := blk_lt (hB.blk_at 0 rfl)
  have hvw := blk_lt (hB.blk_at 1 rfl)
  have hdl : ((xs.flatMap (fun h : Hd => [h.v])).drop (i * 1)).length = (n - i) * 1 := by rw [List.length_drop, hfl, Nat.sub_mul]
  have htl : ((xs.flatMap (fun h : Hd => [h.v])).take (i * 1)).length = i * 1 := by rw [List.length_take, hfl]; have := Nat.mul_le_mul_right 1 (Nat.le_of_lt hin); omega
  have hinfo : (Try.prog.info? 32).map (·.size) = some 1 := by kernel_rfl
  obtain ⟨i0, hi0, hz0, hzs, hzb⟩ := info_parts info32
  have hkk : (n : Int) + (m : Int) - (i : Int) = ((n + m - i : Nat) : Int) := by omega
  have hik : i + (n + m - i) = n + m := by omega
  have hold : (Builtin.firstCells i0.size i (.slice (some ⟨g, 0, none⟩) i c)).run Try.prog w.drew = .ok ((xs.flatMap (fun h : Hd => [h.v])).take (i * 1)).toArray w.drew := by
    rw [hzs]
    exact run_firstCells_some w.drew 1 i ⟨g, 0, none⟩ i c ((xs.flatMap (fun h : Hd => [h.v])).take (i * 1)) htl (fun j v hj => by
      rw [Addr.add_lit, Nat.zero_add]
      rw [List.getElem?_take] at hj
      split at hj
      · exact hcs j v hj
      · cases hj)
  obtain ⟨G, hG⟩ : ∃ G, G = grownCap w (n + m) c 32 := ⟨_, rfl⟩
  obtain ⟨ROW, hROW⟩ : ∃ ROW : Array Value, ROW = ((xs.flatMap (fun h : Hd => [h.v])).take (i * 1)).toArray ++ Builtin.zeroCells (Value.slice none 0 0).cells (n + m - i) ++ Builtin.zeroCells (Value.slice none 0 0).cells (G - (n + m)) := ⟨_, rfl⟩
  have hrz : ∀ ty, (Builtin.append_ #[22, 3] ty #[.slice (some ⟨g, 0, none⟩) i c, .int .i64 ((n : Int) + (m : Int) - (i : Int))]).run Try.prog w =
      .ok (.slice (some ⟨w.heap.size, 0, none⟩) (n + m) G) (w.drew.alloc (.cells ROW 32)) := fun ty => by
    have h := Lib.run_append_grow_zeros w 22 3 ty 32 i0 _ .i64 .i64 Try.underlying22 Try.underlying3 hi0 hz0 (some ⟨g, 0, none⟩) i c _ hold (n + m - i) (by omega) (by rw [hzs]; decide) (by omega) (by omega) (by rw [hzb]; omega) (by rw [hzb, hik]; exact growslice_fits hr (by omega))
    rw [hik] at h
    rw [hkk, hROW, hG]
    exact h
  have hGn : n + m ≤ G := by rw [hG]; exact grownCap_ge w _ _ _
  have hGm : G ≤ maxLen := by rw [hG]; exact grownCap_le_maxLen w (n + m) c 32 (by unfold maxLen; omega)
  have hRs : ROW.size = G * 1 := by
    rw [hROW]
    simp only [Array.size_append, List.size_toArray, htl, size_zeroCells]
    have e1 : (Value.slice none 0 0).cells.size = 1 := rfl
    rw [e1, ← Nat.add_mul, ← Nat.add_mul]
    congr 1
    omega
  have hRt : ROW.toList.take (i * 1) = (xs.flatMap (fun h : Hd => [h.v])).take (i * 1) := by
    rw [hROW]
    simp only [Array.toList_append, List.append_assoc]
    rw [List.take_append_of_le_length (by rw [htl]; exact Nat.le_refl _), List.take_take, Nat.min_self]
  obtain ⟨W1, hW1⟩ : ∃ W1, W1 = w.drew.alloc (.cells ROW 32) := ⟨_, rfl⟩
  rw [← hW1] at hrz
  have b1 := Nat.mul_le_mul_right 1 hGn
  have b2 := Nat.add_mul n m 1
  have b3 := Nat.add_mul i m 1
  have b4 := Nat.sub_mul n i 1
  have b5 := Nat.mul_le_mul_right 1 (Nat.le_of_lt hin)
  have hN : ∀ j, j < (n + m) * 1 → (W1.cell? ⟨w.heap.size, j, none⟩).isSome = true := fun j hj => by
    rw [hW1, World.cell?_alloc_at (w := w.drew) ROW _ w.heap.size j rfl, Array.getElem?_eq_getElem (by omega)]; rfl
  have hNf : ∀ j, W1.frozen? ⟨w.heap.size, j, none⟩ = false := fun j => by rw [hW1]; exact World.frozen?_alloc_at (w := w.drew) ROW _ w.heap.size j rfl
  have hOb : ∀ j v, w.cell? ⟨g, j, none⟩ = some v → W1.cell? ⟨g, j, none⟩ = some v := fun j v h => by rw [hW1, World.cell?_alloc_past (w := w.drew) _ g j hbw]; exact h
  have hOv : ∀ j v, w.cell? ⟨gv, j, none⟩ = some v → W1.cell? ⟨gv, j, none⟩ = some v := fun j v h => by rw [hW1, World.cell?_alloc_past (w := w.drew) _ gv j hvw]; exact h
  have hcpA : ∀ (W : World), (∀ x, W.cell? x = W1.cell? x) → (∀ x, W.frozen? x = W1.frozen? x) → ∀ ty dc, (Builtin.copy_ #[22, 22] ty #[.slice (some ⟨w.heap.size, i, none⟩) (n + m - i) dc, .slice (some ⟨gv, 0, none⟩) m m]).run Try.prog W = .ok (goInt m) (W.setCells w.heap.size (i) (ys.flatMap (fun h : Hd => [h.v]))) := fun W hWc hWf ty dc =>
    run_copyK W _ _ ty 32 w.heap.size (i) (n + m - i) dc ⟨gv, 0, none⟩ m m 1 m _ Try.underlying22 hinfo (by simp only [Nat.min_def]; split <;> omega) hvl
      (fun j v hj => by rw [Addr.add_lit, hWc, Nat.zero_add]; exact hOv _ v (hvs j v hj))
      (fun j hj => by rw [hWc]; exact hN _ (by rw [hvl] at hj; omega)) (fun j hj => by rw [hWf]; exact hNf _) h1v
  have hGi : ¬ (G = i) := by omega
  have hGim : ¬ (G = i + m) := by omega
  have hci : ¬ (c = i) := by omega
  have hbN : g ≠ w.heap.size := by omega
  have hcpB : ∀ (W : World), (∀ x, W.cell? x = (W1.setCells w.heap.size (i) (ys.flatMap (fun h : Hd => [h.v]))).cell? x) → (∀ x, W.frozen? x = (W1.setCells w.heap.size (i) (ys.flatMap (fun h : Hd => [h.v]))).frozen? x) → ∀ ty dc sc, (Builtin.copy_ #[22, 22] ty #[.slice (some ⟨w.heap.size, i + m, none⟩) (n + m - (i + m)) dc, .slice (some ⟨g, i, none⟩) (n - i) sc]).run Try.prog W = .ok (goInt ((n - i : Nat) : Int)) (W.setCells w.heap.size (i + m) ((xs.flatMap (fun h : Hd => [h.v])).drop (i * 1))) := fun W hWc hWf ty dc sc =>
    run_copyK W _ _ ty 32 w.heap.size (i + m) (n + m - (i + m)) dc ⟨g, i, none⟩ (n - i) sc 1 (n - i) _ Try.underlying22 hinfo (by simp only [Nat.min_def]; split <;> omega) hdl
      (fun j v hj => by
        rw [Addr.add_lit, hWc, World.cell?_setCells_out _ _ _ _ _ (fun h _ => absurd h hbN)]
        exact hOb _ v (hcs (i + j) v (by rw [List.getElem?_drop] at hj; simpa using hj)))
      (fun j hj => by rw [hWc]; exact isSome_setCells _ _ _ _ (fun t ht => hN _ (by rw [hvl] at ht; omega)) _ (hN _ (by rw [hdl] at hj; omega)))
      (fun j hj => by rw [hWf, World.frozen?_setCells]; exact hNf _) (fun v hv => h1c v (List.mem_of_mem_drop hv))
  have hMW : ∃ cs1 cs2 : Array Value, cs1.toList = ROW.toList.take (i * 1) ++ ys.flatMap (fun h : Hd => [h.v]) ++ ROW.toList.drop (i * 1 + m * 1) ∧ cs2.toList = cs1.toList.take ((i + m) * 1) ++ (xs.flatMap (fun h : Hd => [h.v])).drop (i * 1) ++ cs1.toList.drop ((i + m) * 1 + (n - i) * 1) ∧ cs2.size = G * 1 ∧ Mem w0 (((w.alloc (.cells ROW 32)).drew.setCells w.heap.size (i) (ys.flatMap (fun h : Hd => [h.v]))).drew.setCells w.heap.size (i + m) ((xs.flatMap (fun h : Hd => [h.v])).drop (i * 1))) (blk w.heap.size 32 cs2 :: blk g 32 cs :: blk gv 32 (ys.flatMap (fun h : Hd => [h.v])).toArray :: F) := by
    obtain ⟨cs1, c1, c2, c3⟩ := Mem.setRange (hB.allocAt ROW 32 w.heap.size rfl).drew 0 rfl (i * 1) (ys.flatMap (fun h : Hd => [h.v])) (by rw [hvl, hRs]; omega)
    obtain ⟨cs2, d1, d2, d3⟩ := Mem.setRange c3.drew 0 rfl ((i + m) * 1) ((xs.flatMap (fun h : Hd => [h.v])).drop (i * 1)) (by rw [hdl, c2, hRs]; omega)
    refine ⟨cs1, cs2, by rw [c1, hvl], by rw [d1, hdl], by rw [d2, c2, hRs], ?_⟩
    simpa using d3
  obtain ⟨cs1, cs2, hc1, hc2, hc3, hMF⟩ := hMW
  have HMF := Aside0.mk hMF
  have HFIN := Aside0.mk (show cs2.toList.take ((xs.take i ++ ys ++ xs.drop i).length * 1) = (xs.take i ++ ys ++ xs.drop i).flatMap (fun h : Hd => [h.v]) from by
    have l0 : ROW.toList.length = G * 1 := by rw [Array.length_toList, hRs]
    have l1 : cs1.toList.length = G * 1 := by rw [hc1, List.length_append, List.length_append, hvl, List.length_take, List.length_drop, l0]; omega
    have l2 : cs2.toList.length = G * 1 := by rw [Array.length_toList, hc3]
    refine ins_take (K := 1) (fun _ => rfl) xs ys i n m (by omega) hnx.symm hy cs2.toList (by rw [l2]; exact b1) ?_ ?_ ?_
    · rw [hc2, List.append_assoc, List.take_append_of_le_length (by rw [List.length_take, l1]; omega), List.take_take, Nat.min_eq_left (by omega), hc1, List.append_assoc, List.take_append_of_le_length (by rw [List.length_take, l0]; omega), List.take_take, Nat.min_self, hRt, flat_take (sz := 1) (fun _ => rfl)]
    · rw [hc2, List.append_assoc, List.drop_append_of_le_length (by rw [List.length_take, l1]; omega), List.take_append_of_le_length (by rw [List.length_drop, List.length_take, l1]; omega), List.drop_take, List.take_take, Nat.min_eq_left (by omega), hc1, List.append_assoc, List.drop_append, List.drop_eq_nil_of_le (by rw [List.length_take, l0]; omega), List.nil_append, List.length_take, l0, Nat.min_eq_left (by omega), Nat.sub_self, List.drop_zero, List.take_append_of_le_length (by rw [hvl]; exact Nat.le_refl _), List.take_of_length_le (by rw [hvl]; exact Nat.le_refl _)]
    · rw [hc2, List.append_assoc, List.drop_append, List.drop_eq_nil_of_le (by rw [List.length_take, l1]; omega), List.nil_append, List.length_take, l1, Nat.min_eq_left (by omega), Nat.sub_self, List.drop_zero, List.take_append_of_le_length (by rw [hdl]; exact Nat.le_refl _), List.take_of_length_le (by rw [hdl]; exact Nat.le_refl _), flat_drop (sz := 1) (fun _ => rfl)])
  have HSZ := Aside0.mk hc3
  have HLEN := Aside0.mk (show (xs.take i ++ ys ++ xs.drop i).length = n + m by simp; omega)
  have HCM := Aside0.mk hGm
  have HGN := Aside0.mk hGn
  have HZ := Aside0.mk hzs0
  have mixed : Try.prog.follows Departure.mixedOrders = true := by kernel_rfl
  have hz1 : ¬ ((m : Int) = 0) := by omega
  have hz2 : ¬ ((i : Int) = (n : Int)) := by omega
  have hz3 : (c : Int) < (n : Int) + (m : Int) := by omega
  subst hW1
  have hE1 : ∀ x, ((w.alloc (.cells ROW 32)).drew).cell? x = (w.drew.alloc (.cells ROW 32)).cell? x := fun x => rfl
  have hE2 : ∀ x, ((w.alloc (.cells ROW 32)).drew).frozen? x = (w.drew.alloc (.cells ROW 32)).frozen? x := fun x => rfl
  have hF1 : ∀ x, (((w.alloc (.cells ROW 32)).drew.setCells w.heap.size (i) (ys.flatMap (fun h : Hd => [h.v]))).drew).cell? x = ((w.drew.alloc (.cells ROW 32)).setCells w.heap.size (i) (ys.flatMap (fun h : Hd => [h.v]))).cell? x := fun x => rfl
  have hF2 : ∀ x, (((w.alloc (.cells ROW 32)).drew.setCells w.heap.size (i) (ys.flatMap (fun h : Hd => [h.v]))).drew).frozen? x = ((w.drew.alloc (.cells ROW 32)).setCells w.heap.size (i) (ys.flatMap (fun h : Hd => [h.v]))).frozen? x := fun x => rfl
  have hw1 : IntKind.i64.wrap ((i : Int) + (m : Int)) = (i : Int) + (m : Int) := by rw [IntKind.wrap_i64]; omega
  have hb1 : (0 : Int) ≤ (i : Int) + (m : Int) := by omega
  have hin' : i ≤ n := by omega
  have htn : ((i : Int) + (m : Int)).toNat = i + m := by omega
  have hb3 : (i : Int) ≤ (n : Int) := by omega
  have hic : i ≤ c := by omega
  have hic2 : (i : Int) ≤ (c : Int) := by omega
  have hc63 : c ≤ 9223372036854775807 := by unfold maxLen at hcm; exact hcm
  have hG63 : G ≤ 9223372036854775807 := by unfold maxLen at hGm; exact hGm
  clear hM hB hcs hvs hfl hvl h1c h1v hdl htl hinfo hMF hc1 hc2 hc3 htk hsz hnx hnc hcm hy hzs0 hkk hik hold hROW hG hRs hRt b1 b2 b3 b4 b5 hN hNf hOb hOv hi0 hz0 hzs hzb hbw hvw hGm
  go_enter Try.func74, Try.ntmps74
  go_wp2_with (first
    | (at_builtin; refine Lib.wpList_append_run _ rfl _ _ _ _ rfl _ _ rfl rfl _ _ (hrz _) ?_)
    | (at_builtin; refine wpList_copy_runI _ rfl _ _ 22 22 rfl _ _ rfl rfl (hcpA _ hE1 hE2 _ _) ?_)
    | (at_builtin; refine wpList_copy_runI _ rfl _ _ 22 22 rfl _ _ rfl rfl (hcpB _ (fun _ => rfl) (fun _ => rfl) _ _ _) ?_))
  go_region_law_o (refine step_copy_runI rfl _ _ 22 22 rfl (.slice (some ⟨w.heap.size, i + m, none⟩) (n + m - (i + m)) (G - (i + m))) (.slice (some ⟨g, i, none⟩) (n - i) (c - i)) (by simp [Act.eval, Act.put]) (by simp [Act.eval, Act.put]) (hcpB _ hF1 hF2 3 (G - (i + m)) (c - i)) ?_)
  go_wp2
  go_ret
  refine ⟨_, rfl, ?_⟩
  have h9 := Mem.blk_row (c := G) flatH HMF.out 0 (xs.take i ++ ys ++ xs.drop i) rfl HSZ.out HFIN.out (by rw [HLEN.out]; exact HGN.out) HCM.out
  rw [HLEN.out, HZ.out] at h9
  simp only [Nat.mul_one] at h9
  exact Mem.sel (ps := [_, _, _]) (F := F) [0] 3 h9 rfl rfl
/-- Whatever the room. -/
theorem insH_calls (w0 w : World) (F : List Res) (v : Value) (gv i m : Nat) (xs ys : List Hd) (hM : Mem w0 w (row kH 32 v xs :: blk gv 32 (ys.flatMap (fun h : Hd => [h.v])).toArray :: F)) (hy : ys.length = m) (hm : 0 < m) (hm1 : m ≤ 1000) (hn : xs.length ≤ 1000000) (hp : 0 < xs.length) (hi : i ≤ xs.length) (zs : List Hd) (hzs : xs.take i ++ ys ++ xs.drop i = zs) :
    Calls Try.prog 74 #[v, .int .i64 i, .slice (some ⟨gv, 0, none⟩) m m] w fun e w' => ∃ v', e = .returned v' ∧ Mem w0 w' (row kH 32 v' zs :: F) := by
  obtain ⟨g, c, rfl, _⟩ := Kd.R_form (hM.hold (i := 0) rfl) hp
  by_cases h1 : i = xs.length
  · exact insH_end w0 w F g xs.length c gv i m xs ys hM hy hm hm1 h1 hp hn zs hzs
  · by_cases h2 : xs.length + m ≤ c
    · exact insH_room w0 w F g xs.length c gv i m xs ys hM hy hm hm1 (by omega) h2 hn zs hzs
    · exact insH_grow w0 w F g xs.length c gv i m xs ys hM hy hm hm1 (by omega) (by omega) hn zs hzs
end Go.Proofs.Ytookpmdgoednfaa.Pi
