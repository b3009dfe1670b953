/- Texts laid together: Sj, Lp8, LawSPast. No condition. -/
import Derived.Shelf.Abstract
import Derived.Test.YtookpmdgoednfaaRows
import Derived.ChangeMaps
import Derived.ChangeMaps5
import Derived.Deep.Slices
import Derived.ChangeAt
import Derived.JoinedOf
import Derived.Carry
import Derived.OpenShut
import Derived.ChangeOld
import Derived.WalkKit
import Derived.ProofKit
import Derived.Below
import Derived.Test.YtookpmdgoednfaaYPz16
set_option linter.unusedVariables false
set_option linter.unusedSimpArgs false
set_option maxRecDepth 100000
set_option maxHeartbeats 8000000
namespace Go.Proofs.Ytookpmdgoednfaa.Sj
open Go.RowKit YtookpmdgoednfaaW.PrintWords YtookpmdgoednfaaW.PrintLast YtookpmdgoednfaaW.PrintMore Mx PPagePuts St Ks Sw Su Sv Sx Go.Proofs.Ytookpmdgoednfaa.So Sq Sh Pt8
open Pa hiding SP
/-! ### plain -/
theorem last_late {s : St} (hI : Inv s) (k : Key) (hk : SK s k) (t : Int) : t < stLast s k ↔ ∃ x ∈ s.l, x.f0 = k ∧ t < x.f1 := by
  unfold stLast
  cases hc : cut (isK k) s.l with
  | none =>
    have hn := cut_none.1 hc
    obtain ⟨x, hx, he⟩ := mem_allKeys.1 hk
    have := hn x hx
    unfold isK at this
    rw [he, kb_self] at this
    cases this
  | some q =>
    obtain ⟨a, y, b⟩ := q
    obtain ⟨e1, e2, e3⟩ := cut_some hc
    have hy : y.f0 = k := kb_iff.1 e2
    constructor
    · intro h
      exact ⟨y, by rw [e1]; simp, hy, h⟩
    · rintro ⟨x, hx, he, ht⟩
      show t < y.f1
      have hr := hI.rise
      rw [e1] at hr hx
      rcases List.mem_append.1 hx with hx | hx
      · have := (List.pairwise_append.1 hr).2.2 x hx y (List.mem_cons_self ..) (he.trans hy.symm)
        omega
      · rcases List.mem_cons.1 hx with rfl | hx
        · exact ht
        · have := e3 x hx
          unfold isK at this
          rw [he, kb_self] at this
          cases this
theorem since_keys {s : St} (hI : Inv s) (lo hi : Key) (t : Int) : (((allKeys s.l).filter (inside lo hi)).map pr).any (fun x => decide (t < stLast s x.f0)) = since s lo hi t := by
  rw [Bool.eq_iff_iff]
  unfold since
  rw [List.any_eq_true, List.any_eq_true]
  constructor
  · rintro ⟨x, hx, h⟩
    obtain ⟨k, hk, rfl⟩ := List.mem_map.1 hx
    obtain ⟨h1, h2⟩ := List.mem_filter.1 hk
    obtain ⟨y, hy, he, ht⟩ := (last_late hI k h1 t).1 (of_decide_eq_true h)
    exact ⟨y, hy, by rw [decide_eq_true ht, he, h2]; rfl⟩
  · rintro ⟨y, hy, h⟩
    rw [Bool.and_eq_true, decide_eq_true_eq] at h
    have hm : y.f0 ∈ allKeys s.l := mem_allKeys.2 ⟨y, hy, rfl⟩
    exact ⟨pr y.f0, List.mem_map.2 ⟨y.f0, List.mem_filter.2 ⟨hm, h.2⟩, rfl⟩, decide_eq_true ((last_late hI y.f0 hm t).2 ⟨y, hy, rfl, h.1⟩)⟩
/-! ### the walk -/
theorem enters_1 : ∀ args w, (callFunc 86 args).run Try.prog w = .ok (.enter 86 args) w := enters_of Try.func86 (by kernel_rfl) rfl
theorem index_calls (q : Nat) (cb : Array Value) (A : Option Addr) (c : Nat) (xs : List SP) (p : SP → Bool) (w : World) (hC : Kd.C kP w A xs.length xs) (hn : xs.length ≤ 100000) (eg : ∀ args w, (callFunc q args).run Try.prog w = .ok (.enter q args) w)
    (hf : ∀ (x : SP), x ∈ xs → ∀ w', Below w.heap.size w w' → Calls Try.prog q (#[.agg #[.string x.f0, .string x.f1]] ++ cb) w' fun e w'' => e = .returned (.bool (p x)) ∧ Below w'.heap.size w' w'') :
    Calls Try.prog 114 #[.slice A xs.length c, .func (.func q) #[] cb] w fun e w' => ∃ r : Int, e = .returned (.int .i64 r) ∧ decide (0 ≤ r) = xs.any p ∧ Below w.heap.size w w' := by
  have HC := Aside0.mk hC
  have HF := Aside0.mk hf
  have M0 := Aside0.mk (Mem.nil w)
  clear hC hf
  go_enter Try.func114, Try.ntmps114
  go_wp2_with fail
  go_loopg [5, 8] (xs.length + 1) (fun kq v5 v8 w' => ∃ (i : Nat), v8 = .int .i64 i ∧ Aside0 (i ≤ xs.length ∧ kq = xs.length + 1 - i) ∧ Aside0 ((xs.take i).any p = false) ∧ Aside0 (Mem w w' []))
  case atStart => exact ⟨0, rfl, ⟨by omega, by omega⟩, ⟨rfl⟩, M0⟩
  case round =>
    obtain ⟨i, rfl, HK, HP, M1⟩ := hrel
    clear M0
    have hib : i ≤ 100000 := by have := HK.out.1; omega
    by_cases hlt : i < xs.length
    · have d1 : decide ((i : Int) < (xs.length : Int)) = true := decide_eq_true (by omega)
      have d2 : ((i : Int) < (xs.length : Int)) = True := eq_true (by omega)
      obtain ⟨ad, e, c0, c1⟩ := at_T41 (Kd.C_below HC.out M1.out.below) (i : Int) (by omega) (by omega)
      cases e
      rw [Py.rdT hlt] at c0 c1
      rw [Int.toNat_natCast] at c0 c1
      have HT := Aside0.mk (show xs.take (i + 1) = xs.take i ++ [xs[i]] from List.take_succ_eq_append_getElem hlt)
      have hc := HF.out _ (List.getElem_mem hlt) _ M1.out.below
      have HI := Aside0.mk (show xs[i] ∈ xs from List.getElem_mem hlt)
      have HLT := Aside0.mk hlt
      generalize xs[i] = x at c0 c1 HT hc HI
      clear hlt
      cases hp : p x <;> rw [hp] at hc
      · have HPX := Aside0.mk hp
        clear hp
        go_wp2_with (go_at_fn q; refine hc.mono ?_; rintro e w' ⟨rfl, hb⟩)
        have M2 := Aside0.mk (M1.out.grow hb)
        go_roundg (xs.length - i)
        case measure => have := HK.out; have := HLT.out; omega
        case rel => exact ⟨i + 1, by go_num, ⟨HLT.out, by have := HK.out; have := HLT.out; omega⟩, ⟨by rw [HT.out, List.any_append, HP.out]; simp [HPX.out]⟩, M2⟩
      · have HPX := Aside0.mk hp
        clear hp
        go_wp2_with (go_at_fn q; refine hc.mono ?_; rintro e w' ⟨rfl, hb⟩)
        have M2 := Aside0.mk (M1.out.grow hb)
        go_ret
        refine ⟨(i : Int), rfl, ?_, M2.out.below⟩
        rw [decide_eq_true (by omega : (0 : Int) ≤ (i : Int))]
        exact (List.any_eq_true.2 ⟨x, HI.out, HPX.out⟩).symm
    · have d1 : decide ((i : Int) < (xs.length : Int)) = false := decide_eq_false (by omega)
      have d2 : ((i : Int) < (xs.length : Int)) = False := eq_false (by omega)
      have d3 : (i < xs.length) = False := eq_false hlt
      have HE := Aside0.mk (show xs.take i = xs from List.take_of_length_le (by omega))
      clear hlt
      go_wp2_with fail
      go_ret
      refine ⟨-1, rfl, ?_, M1.out.below⟩
      have := HP.out
      rw [HE.out] at this
      rw [this]
      rfl
theorem contains_calls (q : Nat) (cb : Array Value) (A : Option Addr) (c : Nat) (xs : List SP) (p : SP → Bool) (w : World) (hC : Kd.C kP w A xs.length xs) (hn : xs.length ≤ 100000) (eg : ∀ args w, (callFunc q args).run Try.prog w = .ok (.enter q args) w)
    (hf : ∀ (x : SP), x ∈ xs → ∀ w', Below w.heap.size w w' → Calls Try.prog q (#[.agg #[.string x.f0, .string x.f1]] ++ cb) w' fun e w'' => e = .returned (.bool (p x)) ∧ Below w'.heap.size w' w'') :
    Calls Try.prog 85 #[.slice A xs.length c, .func (.func q) #[] cb] w fun e w' => e = .returned (.bool (xs.any p)) ∧ Below w.heap.size w w' := by
  have HI := Aside0.mk (index_calls q cb A c xs p w hC hn eg hf)
  clear hC hf eg
  go_enter Try.func85, Try.ntmps85
  go_wp2_with fail
  refine HI.out.mono ?_
  rintro e w' ⟨r, rfl, hr, hb⟩
  have HB := Aside0.mk hb
  have HR := Aside0.mk hr
  clear hr hb
  go_wp2_with fail
  go_ret
  refine ⟨?_, HB.out⟩
  rw [← HR.out]
  rfl
theorem since1_calls {w0 w : World} {F : List Res} {g gm : Nat} {s : St} (hA : StA w0 w g gm s F) (hn : s.l.length ≤ 300) (b1 b2 : Nat) (t : Int) (x : SP) (hk : x.f0.size ≤ maxLen) (e1 : w.cell? ⟨b1, 0, none⟩ = some (.pointer (some ⟨g, 0, none⟩))) (e2 : w.cell? ⟨b2, 0, none⟩ = some (.int .i64 t)) :
    Calls Try.prog 86 (#[.agg #[.string x.f0, .string x.f1]] ++ #[.pointer (some ⟨b1, 0, none⟩), .pointer (some ⟨b2, 0, none⟩)]) w fun e w' => e = .returned (.bool (decide (t < stLast s x.f0))) ∧ Below w.heap.size w w' := by
  have M0 := Aside0.mk ((Mem.nil w).allocAt #[.string x.f0, .string x.f1] 41 w.heap.size rfl)
  have HA := Aside0.mk (StA.grow hA M0.out.below)
  have HN := Aside0.mk hn
  have HK := Aside0.mk hk
  have d1 := (M0.out.below.cell (World.block_lt_of_cell? _ _ e1)).trans e1
  have d2 := (M0.out.below.cell (World.block_lt_of_cell? _ _ e2)).trans e2
  have cB := blk_cell (M0.out.blk_at 0 rfl)
  clear hA hn hk e1 e2
  go_enter Try.func86, Try.ntmps86
  go_upto_region 1 with (fail)
  obtain ⟨wx, hwx⟩ : ∃ wx, w.alloc (.cells #[.string x.f0, .string x.f1] 41) = wx := ⟨_, rfl⟩
  rw [hwx] at M0 HA d1 d2 cB ⊢
  clear hwx
  refine start_ (n := 7) (S := fun w' => (∀ j : Nat, w'.cell? ⟨w.heap.size, j, none⟩ = wx.cell? ⟨w.heap.size, j, none⟩) ∧ (w'.cell? ⟨b1, 0, none⟩ = some (.pointer (some ⟨g, 0, none⟩))) ∧ (w'.cell? ⟨b2, 0, none⟩ = some (.int .i64 t))) (ds := []) #[false, false, false, false, false, false, false] (by kernel_rfl) rfl rfl ⟨(fun j => rfl), d1, d2⟩ (fun hHeld => ?_)
  refine pure_ (i := 1) (N := some 6) (v := ?_) (a' := ?_) #[false, true, false, false, false, false, false] rfl rfl (by kernel_rfl) (fun _ _ _ h => h) (Or.inl ⟨by rfl, ?_⟩) ?_ ?_
  rotate_left
  · intro w'
    go_simp
    with_reducible rfl
  rotate_left
  · simp only [Act.put, List.setIfInBounds_toArray, List.set_cons_zero, List.set_cons_succ, i64_w, i32_w]
    rfl
  refine take_ (i := 0) (N := some 5) (v := ?_) (a' := ?_) #[true, true, false, false, false, false, false] rfl rfl (by kernel_rfl) (fun _ _ _ h => h) (Or.inl ⟨by rfl, ?_⟩) hHeld ?_ ?_
  rotate_left
  · rintro w' ⟨s0, s1, s2⟩
    go_simp
    with_reducible rfl
  rotate_left
  · simp only [Act.put, List.setIfInBounds_toArray, List.set_cons_zero, List.set_cons_succ, i64_w, i32_w]
    rfl
  refine take_ (i := 2) (N := some 7) (v := ?_) (a' := ?_) #[true, true, true, false, false, false, false] rfl rfl (by kernel_rfl) (fun _ _ _ h => h) (Or.inl ⟨by rfl, ?_⟩) hHeld ?_ ?_
  rotate_left
  · rintro w' ⟨s0, s1, s2⟩
    go_simp
    with_reducible rfl
  rotate_left
  · simp only [Act.put, List.setIfInBounds_toArray, List.set_cons_zero, List.set_cons_succ, i64_w, i32_w]
    rfl
  refine take_ (i := 4) (N := some 9) (v := ?_) (a' := ?_) #[true, true, true, false, true, false, false] rfl rfl (by kernel_rfl) (fun _ _ _ h => h) (Or.inl ⟨by rfl, ?_⟩) hHeld ?_ ?_
  rotate_left
  · rintro w' ⟨s0, s1, s2⟩
    go_simp
    with_reducible rfl
  rotate_left
  · simp only [Act.put, List.setIfInBounds_toArray, List.set_cons_zero, List.set_cons_succ, i64_w, i32_w]
    rfl
  refine one_ (i := 3) (N := some 8) #[true, true, true, true, true, false, false] rfl rfl (by kernel_rfl) (by decide) (fun K hK => ?_)
  refine goes_ Try.func41 (by kernel_rfl) rfl #[.pointer (some ⟨g, 0, none⟩), .string x.f0] (by rfl) rfl rfl (by simp only [List.map_toArray, List.map_cons, List.map_nil]; rfl) ?_
  with_reducible refine (Last_A (StA.drew HA.out) HN.out (k := x.f0) HK.out).mono ?_
  rintro e w3 ⟨rfl, rfl⟩
  refine ⟨_, rfl, ?_⟩
  refine hK.out _ _ ⟨(fun j => rfl), d1, d2⟩ (fun hHeld => ?_)
  clear hK K
  refine norm_ (a' := ?_) ?_ ?_
  rotate_left
  · show Act.put _ (some 8) _ = _
    simp only [Act.put, List.setIfInBounds_toArray, List.set_cons_zero, List.set_cons_succ, i64_w, i32_w]
    rfl
  refine pure_ (i := 5) (N := some 10) (v := ?_) (a' := ?_) #[true, true, true, true, true, true, false] rfl rfl (by kernel_rfl) (fun _ _ _ h => h) (Or.inl ⟨by rfl, ?_⟩) ?_ ?_
  rotate_left
  · intro w'
    go_simp
    with_reducible rfl
  rotate_left
  · simp only [Act.put, List.setIfInBounds_toArray, List.set_cons_zero, List.set_cons_succ, i64_w, i32_w]
    rfl
  refine pure_ (i := 6) (N := some 4) (v := ?_) (a' := ?_) #[true, true, true, true, true, true, true] rfl rfl (by kernel_rfl) (fun _ _ _ h => h) (Or.inl ⟨by rfl, ?_⟩) ?_ ?_
  rotate_left
  · intro w'
    go_simp
    with_reducible rfl
  rotate_left
  · simp only [Act.put, List.setIfInBounds_toArray, List.set_cons_zero, List.set_cons_succ, i64_w, i32_w]
    rfl
  refine done_ (by kernel_rfl) ?_
  have M3 := Aside0.mk M0.out.drew
  go_wp2_with fail
  go_ret
  exact ⟨rfl, M3.out.below⟩
theorem since2_calls {w0 w w3 : World} {F : List Res} {g gm : Nat} {s : St} (hA : StA w0 w g gm s F) (hn : s.l.length ≤ 300) (t : Int) (A2 : Option Addr) (c2 : Nat) (P : List SP) (hP : P.length ≤ 400) (hk : ∀ x ∈ P, x.f0.size ≤ maxLen) (hM : Mem w w3 (row kP 41 (.slice A2 P.length c2) P :: blk (w.heap.size + 1) 3 #[.int .i64 t] :: blk w.heap.size 43 #[.pointer (some ⟨g, 0, none⟩)] :: [])) :
    Calls Try.prog 85 #[.slice A2 P.length c2, .func (.func 86) #[] #[.pointer (some ⟨w.heap.size, 0, none⟩), .pointer (some ⟨w.heap.size + 1, 0, none⟩)]] w3 fun e w' => e = .returned (.bool (P.any (fun x => decide (t < stLast s x.f0)))) ∧ Below w3.heap.size w3 w' := by
  refine contains_calls 86 _ A2 c2 P _ w3 (hM.row_C 0 rfl) (by omega) enters_1 (fun x hx w' hb => ?_)
  have M' := hM.grow hb
  exact since1_calls (StA.grow hA M'.below) hn w.heap.size (w.heap.size + 1) t x (hk x hx) (blk_cell (M'.blk_at 2 rfl) 0) (blk_cell (M'.blk_at 1 rfl) 0)
theorem Since_calls {w0 w : World} {g gm : Nat} {s : St} {kv : Value} {hdr : ByteArray → Value} {F : List Res} (h : StM w0 w g gm s kv hdr F) (hI : Inv s) (hn : s.l.length ≤ 300) (lo hi : ByteArray) (t : Int) :
    Calls Try.prog 45 #[.pointer (some ⟨g, 0, none⟩), .string lo, .string hi, .int .i64 t] w fun e w' => e = .returned (.bool (since s lo hi t)) ∧ Below w.heap.size w w' := by
  have H := Aside0.mk h
  have HST := Aside0.mk (StM.any h)
  have HN := Aside0.mk hn
  have HFEW := Aside0.mk (show (allKeys s.l).length ≤ 400 by have := keys_le s.l; omega)
  have HR := Aside0.mk (since_keys hI lo hi t)
  clear h hI hn
  have HSC := Aside0.mk (fun (w1 : World) (hX : Mem w0 w1 F) => (keys_scan H.out.keys HFEW.out lo hi hX : Calls Try.prog 30 #[kv, .string lo, .string hi, .int .i64 ((allKeys s.l).length : Int)] w1 fun e w' => ∃ v : Value, e = .returned v ∧ Mem w1 w' [row kP 41 v (((allKeys s.l).filter (inside lo hi)).map pr)]))
  have HPL0 : (((allKeys s.l).filter (inside lo hi)).map pr).length ≤ 400 := by rw [List.length_map]; exact Nat.le_trans (List.length_filter_le _ _) HFEW.out
  have HPK0 : ∀ x ∈ ((allKeys s.l).filter (inside lo hi)).map pr, x.f0.size ≤ maxLen := fun x hx => by
    obtain ⟨k, hk, rfl⟩ := List.mem_map.1 hx
    exact keys_size H.out (show SK s k from (List.mem_filter.1 hk).1)
  generalize ((allKeys s.l).filter (inside lo hi)).map pr = P at HSC HPL0 HPK0 HR
  have HPL := Aside0.mk HPL0
  have HPK := Aside0.mk HPK0
  clear HPL0 HPK0
  have M0 := Aside0.mk (((Mem.nil w).allocAt #[.pointer (some ⟨g, 0, none⟩)] 43 w.heap.size rfl).allocAt #[.int .i64 t] 3 (w.heap.size + 1) (by simp))
  go_enter Try.func45, Try.ntmps45
  go_upto_region 3 with (fail)
  obtain ⟨wx, hwx⟩ : ∃ wx, (w.alloc (.cells #[.pointer (some ⟨g, 0, none⟩)] 43)).alloc (.cells #[.int .i64 t] 3) = wx := ⟨_, rfl⟩
  rw [hwx] at M0 ⊢
  clear hwx
  have cG := blk_cell ((H.out.mem.grow M0.out.below).blk_at 0 rfl)
  unfold sc at cG
  have d1 := blk_cell (M0.out.blk_at 1 rfl) 0
  change wx.cell? _ = some (Value.pointer (some ⟨g, 0, none⟩)) at d1
  refine start_ (n := 15) (S := fun w' => (w'.cell? ⟨w.heap.size, 0, none⟩ = some (.pointer (some ⟨g, 0, none⟩))) ∧ (∀ j : Nat, w'.cell? ⟨g, j, none⟩ = wx.cell? ⟨g, j, none⟩) ∧ (∀ ty : TypeId, (Builtin.len_ #[114] ty #[.map (some gm)]).run Try.prog w' = .ok (.int .i64 ((allKeys s.l).length : Nat)) w')) (ds := [11, 13]) #[false, false, false, false, false, false, false, false, false, false, false, false, false, false, false] (by kernel_rfl) rfl rfl ⟨d1, (fun j => rfl), (fun ty => ((H.out.mem.grow M0.out.drew.below).map_at 1 rfl).len Try.underlying114 ty)⟩ (fun hHeld => ?_)
  refine pure_ (i := 4) (N := some 15) (v := ?_) (a' := ?_) #[false, false, false, false, true, false, false, false, false, false, false, false, false, false, false] rfl rfl (by kernel_rfl) (fun _ _ _ h => h) (Or.inl ⟨by rfl, ?_⟩) ?_ ?_
  rotate_left
  · intro w'
    go_simp
    with_reducible rfl
  rotate_left
  · simp only [Act.put, List.setIfInBounds_toArray, List.set_cons_zero, List.set_cons_succ, i64_w, i32_w]
    rfl
  refine pure_ (i := 5) (N := some 16) (v := ?_) (a' := ?_) #[false, false, false, false, true, true, false, false, false, false, false, false, false, false, false] rfl rfl (by kernel_rfl) (fun _ _ _ h => h) (Or.inl ⟨by rfl, ?_⟩) ?_ ?_
  rotate_left
  · intro w'
    go_simp
    with_reducible rfl
  rotate_left
  · simp only [Act.put, List.setIfInBounds_toArray, List.set_cons_zero, List.set_cons_succ, i64_w, i32_w]
    rfl
  refine pure_ (i := 12) (N := some 23) (v := ?_) (a' := ?_) #[false, false, false, false, true, true, false, false, false, false, false, false, true, false, false] rfl rfl (by kernel_rfl) (fun _ _ _ h => h) (Or.inl ⟨by rfl, ?_⟩) ?_ ?_
  rotate_left
  · intro w'
    go_simp
    with_reducible rfl
  rotate_left
  · simp only [Act.put, List.setIfInBounds_toArray, List.set_cons_zero, List.set_cons_succ, i64_w, i32_w]
    rfl
  refine take_ (i := 0) (N := some 11) (v := ?_) (a' := ?_) #[true, false, false, false, true, true, false, false, false, false, false, false, true, false, false] rfl rfl (by kernel_rfl) (fun _ _ _ h => h) (Or.inl ⟨by rfl, ?_⟩) hHeld ?_ ?_
  rotate_left
  · rintro w' ⟨s0, s1, s2⟩
    go_simp
    with_reducible rfl
  rotate_left
  · simp only [Act.put, List.setIfInBounds_toArray, List.set_cons_zero, List.set_cons_succ, i64_w, i32_w]
    rfl
  refine pure_ (i := 1) (N := some 12) (v := ?_) (a' := ?_) #[true, true, false, false, true, true, false, false, false, false, false, false, true, false, false] rfl rfl (by kernel_rfl) (fun _ _ _ h => h) (Or.inl ⟨by rfl, ?_⟩) ?_ ?_
  rotate_left
  · intro w'
    go_simp
    with_reducible rfl
  rotate_left
  · simp only [Act.put, List.setIfInBounds_toArray, List.set_cons_zero, List.set_cons_succ, i64_w, i32_w]
    rfl
  refine pure_ (i := 2) (N := some 13) (v := ?_) (a' := ?_) #[true, true, true, false, true, true, false, false, false, false, false, false, true, false, false] rfl rfl (by kernel_rfl) (fun _ _ _ h => h) (Or.inl ⟨by rfl, ?_⟩) ?_ ?_
  rotate_left
  · intro w'
    go_simp
    with_reducible rfl
  rotate_left
  · simp only [Act.put, List.setIfInBounds_toArray, List.set_cons_zero, List.set_cons_succ, i64_w, i32_w]
    rfl
  refine take_ (i := 3) (N := some 14) (v := ?_) (a' := ?_) #[true, true, true, true, true, true, false, false, false, false, false, false, true, false, false] rfl rfl (by kernel_rfl) (fun _ _ _ h => h) (Or.inl ⟨by rfl, ?_⟩) hHeld ?_ ?_
  rotate_left
  · rintro w' ⟨s0, s1, s2⟩
    go_simp
    with_reducible rfl
  rotate_left
  · simp only [Act.put, List.setIfInBounds_toArray, List.set_cons_zero, List.set_cons_succ, i64_w, i32_w]
    rfl
  refine take_ (i := 6) (N := some 17) (v := ?_) (a' := ?_) #[true, true, true, true, true, true, true, false, false, false, false, false, true, false, false] rfl rfl (by kernel_rfl) (fun _ _ _ h => h) (Or.inl ⟨by rfl, ?_⟩) hHeld ?_ ?_
  rotate_left
  · rintro w' ⟨s0, s1, s2⟩
    go_simp
    with_reducible rfl
  rotate_left
  · simp only [Act.put, List.setIfInBounds_toArray, List.set_cons_zero, List.set_cons_succ, i64_w, i32_w]
    rfl
  refine pure_ (i := 7) (N := some 18) (v := ?_) (a' := ?_) #[true, true, true, true, true, true, true, true, false, false, false, false, true, false, false] rfl rfl (by kernel_rfl) (fun _ _ _ h => h) (Or.inl ⟨by rfl, ?_⟩) ?_ ?_
  rotate_left
  · intro w'
    go_simp
    with_reducible rfl
  rotate_left
  · simp only [Act.put, List.setIfInBounds_toArray, List.set_cons_zero, List.set_cons_succ, i64_w, i32_w]
    rfl
  refine pure_ (i := 8) (N := some 19) (v := ?_) (a' := ?_) #[true, true, true, true, true, true, true, true, true, false, false, false, true, false, false] rfl rfl (by kernel_rfl) (fun _ _ _ h => h) (Or.inl ⟨by rfl, ?_⟩) ?_ ?_
  rotate_left
  · intro w'
    go_simp
    with_reducible rfl
  rotate_left
  · simp only [Act.put, List.setIfInBounds_toArray, List.set_cons_zero, List.set_cons_succ, i64_w, i32_w]
    rfl
  refine take_ (i := 9) (N := some 20) (v := ?_) (a' := ?_) #[true, true, true, true, true, true, true, true, true, true, false, false, true, false, false] rfl rfl (by kernel_rfl) (fun _ _ _ h => h) (Or.inl ⟨by rfl, ?_⟩) hHeld ?_ ?_
  rotate_left
  · rintro w' ⟨s0, s1, s2⟩
    go_simp
    with_reducible rfl
  rotate_left
  · simp only [Act.put, List.setIfInBounds_toArray, List.set_cons_zero, List.set_cons_succ, i64_w, i32_w]
    rfl
  refine take_ (i := 10) (N := some 21) (v := ?_) (a' := ?_) #[true, true, true, true, true, true, true, true, true, true, true, false, true, false, false] rfl rfl (by kernel_rfl) (fun _ _ _ h => h) (Or.inl ⟨by rfl, ?_⟩) hHeld ?_ ?_
  rotate_left
  · rintro w' ⟨s0, s1, s2⟩
    go_simp
    with_reducible rfl
  rotate_left
  · simp only [Act.put, List.setIfInBounds_toArray, List.set_cons_zero, List.set_cons_succ, i64_w, i32_w]
    rfl
  refine last_ (i := 11) (N := some 22) #[true, true, true, true, true, true, true, true, true, true, true, true, true, false, false] rfl rfl (by kernel_rfl) (by decide) (fun K hK => ?_)
  refine goes_ Try.func30 (by kernel_rfl) rfl #[kv, .string lo, .string hi, .int .i64 ((allKeys s.l).length : Int)] (by rfl) rfl rfl (by simp only [List.map_toArray, List.map_cons, List.map_nil]; rfl) ?_
  with_reducible refine (HSC.out _ (Mem.sel (ps := [_, _, _]) (F := F) [] 3 (H.out.mem.grow M0.out.drew.below) rfl rfl)).mono ?_
  rintro e w3 ⟨v, rfl, hM⟩
  refine ⟨_, rfl, ?_⟩
  have M1 := Aside0.mk (M0.out.drew.trans hM)
  clear hM
  obtain ⟨A2, c2, he, hc2, _⟩ := M1.out.row_at 0 rfl
  subst he
  refine hK.out _ _ ?_
  clear hK K
  refine norm_ (a' := ?_) ?_ ?_
  rotate_left
  · show Act.put _ (some 22) _ = _
    simp only [Act.put, List.setIfInBounds_toArray, List.set_cons_zero, List.set_cons_succ, i64_w, i32_w]
    rfl
  refine last_ (i := 13) (N := some 24) #[true, true, true, true, true, true, true, true, true, true, true, true, true, true, false] rfl rfl (by kernel_rfl) (by decide) (fun K hK => ?_)
  refine goes_ Try.func85 (by kernel_rfl) rfl #[.slice A2 P.length c2, .func (.func 86) #[] #[.pointer (some ⟨w.heap.size, 0, none⟩), .pointer (some ⟨w.heap.size + 1, 0, none⟩)]] (by rfl) rfl rfl (by simp only [List.map_toArray, List.map_cons, List.map_nil]; rfl) ?_
  with_reducible refine (since2_calls HST.out HN.out t A2 c2 P HPL.out HPK.out M1.out).mono ?_
  rintro e w4 ⟨rfl, hb⟩
  refine ⟨_, rfl, ?_⟩
  have M2 := Aside0.mk (M1.out.grow hb)
  clear hb
  refine hK.out _ _ ?_
  clear hK K
  refine norm_ (a' := ?_) ?_ ?_
  rotate_left
  · show Act.put _ (some 24) _ = _
    simp only [Act.put, List.setIfInBounds_toArray, List.set_cons_zero, List.set_cons_succ, i64_w, i32_w]
    rfl
  refine pure_ (i := 14) (N := some 8) (v := ?_) (a' := ?_) #[true, true, true, true, true, true, true, true, true, true, true, true, true, true, true] rfl rfl (by kernel_rfl) (fun _ _ _ h => h) (Or.inl ⟨by rfl, ?_⟩) ?_ ?_
  rotate_left
  · intro w'
    go_simp
    with_reducible rfl
  rotate_left
  · simp only [Act.put, List.setIfInBounds_toArray, List.set_cons_zero, List.set_cons_succ, i64_w, i32_w]
    rfl
  refine done_ (by kernel_rfl) ?_
  go_wp2_with fail
  go_ret
  refine ⟨?_, M2.out.below⟩
  rw [← HR.out]
  rfl
end Go.Proofs.Ytookpmdgoednfaa.Sj
namespace Go.Proofs.Ytookpmdgoednfaa.Lp8
open Go.RowKit YtookpmdgoednfaaW.PrintWords YtookpmdgoednfaaW.PrintLast YtookpmdgoednfaaW.PrintMore Mx PPagePuts St Ks Sw Su Sv Sx Sq Sh Sk Pt8
open Pa hiding SP
theorem Since_A {w0 w : World} {g gm : Nat} {s : St} {F : List Res} (hA : StA w0 w g gm s F) (hI : Inv s) (hn : s.l.length ≤ 300) (lo hi : ByteArray) (t : Int) :
    Calls Try.prog 45 #[.pointer (some ⟨g, 0, none⟩), .string lo, .string hi, .int .i64 t] w fun e w' => e = .returned (.bool (since s lo hi t)) ∧ StA w0 w' g gm s F := by
  have hA' := hA
  obtain ⟨kv, hdr, Y, h⟩ := hA'
  refine (Sj.Since_calls h hI hn lo hi t).mono ?_
  rintro e w' ⟨rfl, hb⟩
  exact ⟨rfl, StA.grow hA hb⟩
theorem StA.blk_of {w0 w : World} {g gm : Nat} {s : St} {F : List Res} (hA : StA w0 w g gm s F) (i : Nat) {b : Nat} {T : TypeId} {cs : Array Value} (hi : F[i]? = some (blk b T cs)) : ∀ j : Nat, w.cell? ⟨b, j, none⟩ = cs[j]? := by
  obtain ⟨kv, hdr, Y, h⟩ := hA
  have hi' : (blk g 116 (sc s.room (s.l.length : Int) s.top kv gm) :: mapS gm s hdr :: rowsS s hdr :: Y :: F)[i + 4]? = some (blk b T cs) := by simpa using hi
  exact blk_cell (h.mem.blk_at (i + 4) hi')
theorem past_calls (A : Option Addr) (c : Nat) (l : List SA8) (time : Int) (w : World) (hC : Kd.C kA8 w A l.length l) :
    Calls Try.prog 10 #[.slice A l.length c, .int .i64 time] w fun e w' => e = .returned (.bool true) ∧ Mem w w' [] := by
  have HC := Aside0.mk hC
  have M0 := Aside0.mk (Mem.nil w)
  clear hC
  go_enter Try.func10, Try.ntmps10
  go_wp2_with fail
  refine (heavy_calls A c l w HC.out).mono ?_
  rintro e w1 ⟨b, rfl, rfl, hb⟩
  have HB := Aside0.mk hb
  clear hb
  have AW := Aside0.mk (fun (w1 : World) => (awake_calls w1 : Calls Try.prog 34 #[] w1 fun e w' => e = .returned (.bool true) ∧ Mem w1 w' []))
  cases b with
  | true =>
    go_wp2_with fail
    refine (AW.out _).mono ?_
    rintro e w2 ⟨rfl, hM⟩
    have M2 := Aside0.mk hM
    clear hM
    go_wp2_with fail
    go_ret
    exact ⟨rfl, M2.out⟩
  | false =>
    have HLL := Aside0.mk (HB.out rfl)
    clear HB
    go_wp2_with fail
    refine (New_calls M0.out 50 (by decide) (by decide)).mono ?_
    rintro e w2 ⟨g, gm, rfl, hA⟩
    have HA := Aside0.mk hA
    clear hA
    go_wp2_with fail
    refine (num_calls _ _).mono ?_
    rintro e w3 ⟨rfl, rfl⟩
    go_wp2_with fail
    go_loopg [7, 8, 9, 10] (l.length + 1) (fun kq v7 v8 v9 v10 w' => ∃ (i : Nat) (s : St), v7 = .int .i64 i ∧ Aside0 (i ≤ l.length ∧ kq = l.length + 1 - i) ∧ Aside0 (Kept8 50 s) ∧ Aside0 (StA w1 w' g gm s []))
    case atStart => exact ⟨0, new 50, rfl, ⟨by omega, by omega⟩, ⟨Kept8.new (by decide)⟩, HA⟩
    case round =>
      clear HA
      obtain ⟨i, s, rfl, HK, HG, HA⟩ := hrel
      have hib : i ≤ 100 := by have := HK.out.1; have := HLL.out.1; omega
      have HN := Aside0.mk (HG.out.few (by decide))
      by_cases hlt : i < l.length
      · have q1 : decide ((i : Int) < (l.length : Int)) = true := decide_eq_true (by omega)
        have q2 : ((i : Int) < (l.length : Int)) = True := eq_true (by omega)
        have HLT := Aside0.mk hlt
        obtain ⟨ad, had, c0, c1, c2, c3, c4⟩ := atkA8 (Kd.C_below HC.out (StA.rest HA.out).below) (i : Int) (by omega) (by omega)
        subst had
        rw [rdA_at hlt] at c0 c1 c2 c3 c4
        rw [Int.toNat_natCast] at c0 c1 c2 c3 c4
        have HY := Aside0.mk (HLL.out.2 _ (List.getElem_mem hlt))
        generalize l[i] = y at c0 c1 c2 c3 c4 HY
        have HYK := Aside0.mk (show y.f3.size ≤ maxLen from Nat.le_trans HY.out.1 (by decide))
        have HA1 := Aside0.mk (StA.with_ HA.out ((Mem.nil wr).allocAt #[.int .i64 y.f0, .int .i64 y.f1, .int .i64 y.f2, .string y.f3, .string y.f4] 57 wr.heap.size rfl))
        clear hlt
        by_cases h2 : 2 < y.f0
        · have q3 : decide (2 < y.f0) = true := decide_eq_true h2
          have q4 : decide (y.f0 ≤ 2) = false := decide_eq_false (by omega)
          clear h2
          go_wp2_with fail
          go_roundg (l.length - i)
          case measure => have := HK.out; have := HLT.out; omega
          case rel => exact ⟨i + 1, _, by go_num, ⟨by have := HLT.out; omega, by have := HK.out; have := HLT.out; omega⟩, ⟨HG.out⟩, ⟨StA.less HA1.out⟩⟩
        · have q3 : decide (2 < y.f0) = false := decide_eq_false h2
          have q4 : decide (y.f0 ≤ 2) = true := decide_eq_true (by omega)
          clear h2
          by_cases h3 : y.f1 ≤ time
          · have q5 : decide (y.f1 ≤ time) = true := decide_eq_true h3
            clear h3
            by_cases h4 : 0 < y.f1
            · have q6 : decide (0 < y.f1) = true := decide_eq_true h4
              clear h4
              go_wp2_with fail
              refine (Put_calls HA1.out HG.out.inv HN.out y.f1 (k := y.f3) HYK.out y.f4).mono ?_
              rintro e w6 ⟨rfl, hA⟩
              have HA2 := Aside0.mk hA
              clear hA
              go_wp2_with fail
              go_roundg (l.length - i)
              case measure => have := HK.out; have := HLT.out; omega
              case rel => exact ⟨i + 1, _, by go_num, ⟨by have := HLT.out; omega, by have := HK.out; have := HLT.out; omega⟩, ⟨HG.out.put ⟨y.f3, y.f1, y.f4, false⟩ (fun h => by cases h)⟩, ⟨StA.less HA2.out⟩⟩
            · have q6 : decide (0 < y.f1) = false := decide_eq_false h4
              clear h4
              go_wp2_with fail
              go_roundg (l.length - i)
              case measure => have := HK.out; have := HLT.out; omega
              case rel => exact ⟨i + 1, _, by go_num, ⟨by have := HLT.out; omega, by have := HK.out; have := HLT.out; omega⟩, ⟨HG.out⟩, ⟨StA.less HA1.out⟩⟩
          · have q5 : decide (y.f1 ≤ time) = false := decide_eq_false h3
            have HTL := Aside0.mk (show time < y.f1 by omega)
            clear h3
            go_wp2_with fail
            refine (Scan_A HA1.out HG.out.inv HN.out time ⟨#[]⟩ ⟨#[]⟩ 100).mono ?_
            rintro e w4 ⟨A1, c1', rfl, hA⟩
            have HA2 := Aside0.mk hA
            clear hA
            go_wp2_with fail
            refine (Since_A HA2.out HG.out.inv HN.out ⟨#[]⟩ ⟨#[]⟩ time).mono ?_
            rintro e w5 ⟨rfl, hA⟩
            have HA3 := Aside0.mk hA
            clear hA c0 c1 c2 c3 c4
            obtain ⟨b, hb⟩ : ∃ b, since s ⟨#[]⟩ ⟨#[]⟩ time = b := ⟨_, rfl⟩
            rw [hb]
            have HBS := Aside0.mk hb
            clear hb
            have cB := StA.blk_of HA3.out 1 rfl
            by_cases h5 : y.f0 = 2
            · skip
              have q6 : (y.f0 == 2) = true := beq_iff_eq.2 h5
              clear h5
              go_wp2_with fail
              refine (Del_calls HA3.out HG.out.inv HN.out y.f1 (k := y.f3) HYK.out).mono ?_
              rintro e w6 ⟨rfl, hA⟩
              have HA4 := Aside0.mk hA
              clear hA
              have HG2 := Aside0.mk (HG.out.put (⟨y.f3, y.f1, e0, true⟩ : RV) (fun h => rfl))
              have HN2 := Aside0.mk (HG2.out.few (by decide))
              have HSC := Aside0.mk (scan_put (s := s) (⟨y.f3, y.f1, e0, true⟩ : RV) HTL.out ⟨#[]⟩ ⟨#[]⟩ 100)
              have HSI := Aside0.mk (fun h => since_put (s := s) (⟨y.f3, y.f1, e0, true⟩ : RV) (lo := ⟨#[]⟩) (hi := ⟨#[]⟩) (t := time) h)
              obtain ⟨s2, hs2⟩ : ∃ s2, (put s ⟨y.f3, y.f1, e0, true⟩).1 = s2 := ⟨_, rfl⟩
              rw [hs2] at HA4 HG2 HN2 HSC HSI
              clear hs2
              go_wp2_with fail
              refine (Scan_A HA4.out HG2.out.inv HN2.out time ⟨#[]⟩ ⟨#[]⟩ 100).mono ?_
              rintro e w7 ⟨A3, c3, he, hA⟩
              rw [HSC.out] at he hA
              subst he
              have HA5 := Aside0.mk hA
              clear hA
              go_wp2_with fail
              refine (pairs_same _ (scan_few (s := s) time ⟨#[]⟩ ⟨#[]⟩) (StA.row_of HA5.out 1 rfl) (StA.row_of HA5.out 0 rfl)).mono ?_
              rintro e w8 ⟨rfl, hb⟩
              have HA6 := Aside0.mk (StA.less (StA.less (StA.less (StA.grow HA5.out hb))))
              clear hb
              cases b with
              | false =>
                go_wp2_with fail
                go_roundg (l.length - i)
                case measure => have := HK.out; have := HLT.out; omega
                case rel => exact ⟨i + 1, _, by go_num, ⟨by have := HLT.out; omega, by have := HK.out; have := HLT.out; omega⟩, ⟨HG2.out⟩, ⟨HA6.out⟩⟩
              | true =>
                go_wp2_with fail
                refine (Since_A HA6.out HG2.out.inv HN2.out ⟨#[]⟩ ⟨#[]⟩ time).mono ?_
                rintro e w9 ⟨he, hA⟩
                rw [HSI.out HBS.out] at he
                subst he
                have HA7 := Aside0.mk hA
                clear hA
                go_wp2_with fail
                go_roundg (l.length - i)
                case measure => have := HK.out; have := HLT.out; omega
                case rel => exact ⟨i + 1, _, by go_num, ⟨by have := HLT.out; omega, by have := HK.out; have := HLT.out; omega⟩, ⟨HG2.out⟩, ⟨HA7.out⟩⟩
            · skip
              have q6 : (y.f0 == 2) = false := beq_eq_false_iff_ne.2 h5
              clear h5
              go_wp2_with fail
              refine (Put_calls HA3.out HG.out.inv HN.out y.f1 (k := y.f3) HYK.out y.f4).mono ?_
              rintro e w6 ⟨rfl, hA⟩
              have HA4 := Aside0.mk hA
              clear hA
              have HG2 := Aside0.mk (HG.out.put (⟨y.f3, y.f1, y.f4, false⟩ : RV) (fun h => by cases h))
              have HN2 := Aside0.mk (HG2.out.few (by decide))
              have HSC := Aside0.mk (scan_put (s := s) (⟨y.f3, y.f1, y.f4, false⟩ : RV) HTL.out ⟨#[]⟩ ⟨#[]⟩ 100)
              have HSI := Aside0.mk (fun h => since_put (s := s) (⟨y.f3, y.f1, y.f4, false⟩ : RV) (lo := ⟨#[]⟩) (hi := ⟨#[]⟩) (t := time) h)
              obtain ⟨s2, hs2⟩ : ∃ s2, (put s ⟨y.f3, y.f1, y.f4, false⟩).1 = s2 := ⟨_, rfl⟩
              rw [hs2] at HA4 HG2 HN2 HSC HSI
              clear hs2
              go_wp2_with fail
              refine (Scan_A HA4.out HG2.out.inv HN2.out time ⟨#[]⟩ ⟨#[]⟩ 100).mono ?_
              rintro e w7 ⟨A3, c3, he, hA⟩
              rw [HSC.out] at he hA
              subst he
              have HA5 := Aside0.mk hA
              clear hA
              go_wp2_with fail
              refine (pairs_same _ (scan_few (s := s) time ⟨#[]⟩ ⟨#[]⟩) (StA.row_of HA5.out 1 rfl) (StA.row_of HA5.out 0 rfl)).mono ?_
              rintro e w8 ⟨rfl, hb⟩
              have HA6 := Aside0.mk (StA.less (StA.less (StA.less (StA.grow HA5.out hb))))
              clear hb
              cases b with
              | false =>
                go_wp2_with fail
                go_roundg (l.length - i)
                case measure => have := HK.out; have := HLT.out; omega
                case rel => exact ⟨i + 1, _, by go_num, ⟨by have := HLT.out; omega, by have := HK.out; have := HLT.out; omega⟩, ⟨HG2.out⟩, ⟨HA6.out⟩⟩
              | true =>
                go_wp2_with fail
                refine (Since_A HA6.out HG2.out.inv HN2.out ⟨#[]⟩ ⟨#[]⟩ time).mono ?_
                rintro e w9 ⟨he, hA⟩
                rw [HSI.out HBS.out] at he
                subst he
                have HA7 := Aside0.mk hA
                clear hA
                go_wp2_with fail
                go_roundg (l.length - i)
                case measure => have := HK.out; have := HLT.out; omega
                case rel => exact ⟨i + 1, _, by go_num, ⟨by have := HLT.out; omega, by have := HK.out; have := HLT.out; omega⟩, ⟨HG2.out⟩, ⟨HA7.out⟩⟩
      · have q1 : decide ((i : Int) < (l.length : Int)) = false := decide_eq_false (by omega)
        have q2 : ((i : Int) < (l.length : Int)) = False := eq_false (by omega)
        have q3 : (i < l.length) = False := eq_false hlt
        clear hlt
        go_wp2_with fail
        refine (AW.out _).mono ?_
        rintro e w13 ⟨rfl, hM⟩
        have M9 := Aside0.mk ((StA.rest HA.out).trans hM)
        clear hM
        go_wp2_with fail
        go_ret
        exact ⟨rfl, M9.out⟩
end Go.Proofs.Ytookpmdgoednfaa.Lp8
namespace Go.Proofs.Ytookpmdgoednfaa.LawSPast
open Go.ChangeShapes Go.WideShapes Go.ChangeAt Go.RowKit YtookpmdgoednfaaW.PrintWords On Lp8 Mx
theorem own : ownKnob Try.prog.godebug = none := by kernel_rfl
theorem laidOut : laidOutB Try.prog = true := by kernel_rfl
theorem lifted (os : Os) (started : os.Started) (H : Type) (enc : TypeId × Value → H) :
    ReturnsInHanded {} Try.checked os 10 .any (Rows.storePastSpec.pre6 enc Try.prog Try.f10 Rows.storePastRow.domain false) (Rows.storePastSpec.post enc Try.prog Try.f10 false true false false) := by
  refine returnsInHanded_of_change (C := Try.checked) own started (by kernel_rfl) Try.func10
    (ChangeSpec.witness6 (enc := enc) (C := Try.checked) false ⟨#[], #[.slice none 0 0, .int .i64 0], []⟩ 8 (by kernel_rfl) (by kernel_rfl) (by kernel_rfl) (by kernel_rfl)) ?_
  intro W base args ds gs before hval0 hW hcnd _
  have hval : ∀ (j : Nat) t v, Try.f10.params[j]? = some t → args[j]? = some v → Value.okWide Try.prog W .any base t v := hval0
  have hW' := hW
  obtain ⟨p, q, hA0, hV, rfl, hfz, hnd⟩ := hW
  have hA : DataW.TrodAll enc Try.prog W 0 (fun _ => true) true Try.f10.params.toList args.toList ds p := hA0
  rw [Try.params10] at hA hval
  obtain ⟨v0, v1, d0, d1, p0, p1, rfl, rfl, rfl, h0, h1⟩ := trodAll_two hA
  obtain ⟨rfl, rfl⟩ := trodVars_none hV
  have k0 := h0
  have lt0 : ∀ x ∈ p0, x.block < W.heap.size := by obtain ⟨m, hm⟩ := k0; exact DataW.trod_lt m _ _ _ hm
  obtain ⟨A0, c0, l0, rfl, hc0, hl0⟩ := On.open_acts (hval 0 54 v0 rfl rfl) h0
  obtain ⟨x1, rfl, rfl, rfl, w1⟩ := open_int Try.underlying3 (hval 1 3 v1 rfl rfl) h1
  clear hA0 hval0
  refine (Lp8.past_calls A0 c0 l0 x1 W hl0).mono fun e W' ⟨he, hM⟩ => ?_
  subst he
  have bel := hM.below
  exact ⟨_, rfl, _, _, _, [], _, [], hW', trodAll_mk1 (shut_bool Try.underlying4 _), (trodAll_cons_mk (Below.trod laidOut (by kernel_rfl) (of_decide_eq_true (by kernel_rfl)) k0 bel lt0) (trodAll_cons_mk (shut_int Try.underlying3 w1) trodAll_mk0)), rfl, bel.frame _, fun h => by cases h⟩
theorem over : Rows.storePastRow.holds Try.pinned (OpenSpec.ofChange Rows.storePastSpec) :=
  OpenClaim.holds_of_wide 10 Try.f10 rfl rfl rfl rfl rfl rfl rfl ⟨rfl, rfl, rfl, rfl, rfl⟩ rfl rfl rfl rfl rfl (by kernel_rfl) Try.func10 (by kernel_rfl)
    (of_decide_eq_true (by kernel_rfl)) (by unfold Func.isWrapper; first | (rw [if_pos (by decide +kernel)]; kernel_rfl) | (rw [if_neg (by decide +kernel)]; exact ⟨rfl, rfl⟩))
    (fun os started H enc _ => lifted os started H enc)
theorem proved : Rows.StorePastSaid := over
#print axioms proved
end Go.Proofs.Ytookpmdgoednfaa.LawSPast
namespace Go.Proofs.Ytookpmdgoednfaa
theorem storePast_holds : Rows.StorePastSaid := LawSPast.proved
end Go.Proofs.Ytookpmdgoednfaa
