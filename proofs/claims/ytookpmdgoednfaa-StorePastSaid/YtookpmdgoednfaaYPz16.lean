/- Texts laid together: Si, Sk, Pt8. No condition. -/
import Derived.Deep.LoopGhost
import Derived.Test.YtookpmdgoednfaaYPz15
set_option linter.unusedVariables false
set_option linter.unusedSimpArgs false
set_option maxRecDepth 100000
set_option maxHeartbeats 8000000
namespace Go.Proofs.Ytookpmdgoednfaa.Si
open Go.RowKit YtookpmdgoednfaaW.PrintWords YtookpmdgoednfaaW.PrintLast YtookpmdgoednfaaW.PrintMore Mx PPagePuts St Ks Sw Su Sv Sx Go.Proofs.Ytookpmdgoednfaa.So Sq
open Pa hiding SP
/-- What is still to come, behind what has come. -/
theorem take_full {n : Int} {out l res : List SP} (h : (out ++ l).take n.toNat = res) (hl : out.length ≤ n.toNat) (hf : n ≤ (out.length : Int)) : out = res := by
  rw [← h, List.take_append_of_le_length (by omega), List.take_of_length_le (by omega)]
theorem take_end {n : Int} {out res : List SP} (h : (out ++ []).take n.toNat = res) (hl : out.length ≤ n.toNat) : out = res := by
  rw [← h, List.append_nil, List.take_of_length_le hl]
theorem pair_in {s : St} {t : Int} {k : ByteArray} (h : (St.get s t k).2 = true) (l : List ByteArray) : (k :: l).filterMap (pairAt s t) = (⟨k, (St.get s t k).1⟩ : SP) :: l.filterMap (pairAt s t) := by
  rw [List.filterMap_cons]
  unfold pairAt
  rw [if_pos h]
theorem pair_out {s : St} {t : Int} {k : ByteArray} (h : (St.get s t k).2 = false) (l : List ByteArray) : (k :: l).filterMap (pairAt s t) = l.filterMap (pairAt s t) := by
  rw [List.filterMap_cons]
  unfold pairAt
  rw [if_neg (by rw [h]; simp)]
theorem Scan_calls {w0 w : World} {g gm : Nat} {s : St} {kv : Value} {hdr : ByteArray → Value} {F : List Res} (h : StM w0 w g gm s kv hdr F) (hI : Inv s) (hn : s.l.length ≤ 300) (t : Int) (lo hi : ByteArray) (n : Int) :
    Calls Try.prog 43 #[.pointer (some ⟨g, 0, none⟩), .int .i64 t, .string lo, .string hi, .int .i64 n] w fun e w' => ∃ v : Value, e = .returned v ∧ Mem w w' [row kP 41 v (St.scan s t lo hi n)] := by
  have H := Aside0.mk h
  have HI := Aside0.mk hI
  have HN := Aside0.mk hn
  have HFEW := Aside0.mk (show (allKeys s.l).length ≤ 400 by have := keys_le s.l; omega)
  clear h hI hn
  have HSC := Aside0.mk (fun (w1 : World) (hX : Mem w0 w1 F) => (keys_scan H.out.keys HFEW.out lo hi hX : Calls Try.prog 30 #[kv, .string lo, .string hi, .int .i64 ((allKeys s.l).length : Int)] w1 fun e w' => ∃ v : Value, e = .returned v ∧ Mem w1 w' [row kP 41 v (((allKeys s.l).filter (inside lo hi)).map pr)]))
  obtain ⟨ks, hks⟩ : ∃ ks, (allKeys s.l).filter (inside lo hi) = ks := ⟨_, rfl⟩
  rw [hks] at HSC
  have HKL := Aside0.mk (show ks.length ≤ 400 by rw [← hks]; exact Nat.le_trans (List.length_filter_le _ _) HFEW.out)
  have HKS := Aside0.mk (show ∀ k ∈ ks, k.size ≤ maxLen from fun k hk => keys_size H.out (show SK s k by rw [← hks] at hk; exact (List.mem_filter.1 hk).1))
  obtain ⟨res, hres⟩ : ∃ res, St.scan s t lo hi n = res := ⟨_, rfl⟩
  have HR0 := Aside0.mk (show (ks.filterMap (pairAt s t)).take n.toNat = res by rw [← hres, ← hks]; rfl)
  have HRES := Aside0.mk hres
  clear hks hres
  obtain ⟨P, hP⟩ : ∃ P, ks.map pr = P := ⟨_, rfl⟩
  rw [hP] at HSC
  have HP := Aside0.mk hP
  have HPL := Aside0.mk (show P.length = ks.length by rw [← hP, List.length_map])
  clear hP
  have cG := blk_cell (H.out.mem.blk_at 0 rfl)
  unfold sc at cG
  go_enter Try.func43, Try.ntmps43
  go_upto_region 4 with (fail)
  refine start_ (n := 14) (S := fun w' => (∀ j : Nat, w'.cell? ⟨g, j, none⟩ = w.cell? ⟨g, j, none⟩) ∧ (∀ ty : TypeId, (Builtin.len_ #[114] ty #[.map (some gm)]).run Try.prog w' = .ok (.int .i64 ((allKeys s.l).length : Nat)) w')) (ds := [11]) #[false, false, false, false, false, false, false, false, false, false, false, false, false, false] (by kernel_rfl) rfl rfl ⟨(fun j => rfl), (fun ty => (H.out.mem.drew.map_at 1 rfl).len Try.underlying114 ty)⟩ (fun hHeld => ?_)
  refine pure_ (i := 0) (N := some 18) (v := ?_) (a' := ?_) #[true, false, false, false, false, false, false, false, false, false, false, false, false, false] rfl rfl (by kernel_rfl) (fun _ _ _ h => h) (Or.inl ⟨by rfl, ?_⟩) ?_ ?_
  rotate_left
  · intro w'
    go_simp
    with_reducible rfl
  rotate_left
  · simp only [Act.put, List.setIfInBounds_toArray, List.set_cons_zero, List.set_cons_succ, i64_w, i32_w]
    rfl
  refine pure_ (i := 1) (N := some 19) (v := ?_) (a' := ?_) #[true, true, false, false, false, false, false, false, false, false, false, false, false, false] rfl rfl (by kernel_rfl) (fun _ _ _ h => h) (Or.inl ⟨by rfl, ?_⟩) ?_ ?_
  rotate_left
  · intro w'
    go_simp
    with_reducible rfl
  rotate_left
  · simp only [Act.put, List.setIfInBounds_toArray, List.set_cons_zero, List.set_cons_succ, i64_w, i32_w]
    rfl
  refine pure_ (i := 2) (N := some 20) (v := ?_) (a' := ?_) #[true, true, true, false, false, false, false, false, false, false, false, false, false, false] rfl rfl (by kernel_rfl) (fun _ _ _ h => h) (Or.inl ⟨by rfl, ?_⟩) ?_ ?_
  rotate_left
  · intro w'
    go_simp
    with_reducible rfl
  rotate_left
  · simp only [Act.put, List.setIfInBounds_toArray, List.set_cons_zero, List.set_cons_succ, i64_w, i32_w]
    rfl
  refine pure_ (i := 4) (N := some 22) (v := ?_) (a' := ?_) #[true, true, true, false, true, false, false, false, false, false, false, false, false, false] rfl rfl (by kernel_rfl) (fun _ _ _ h => h) (Or.inl ⟨by rfl, ?_⟩) ?_ ?_
  rotate_left
  · intro w'
    go_simp
    with_reducible rfl
  rotate_left
  · simp only [Act.put, List.setIfInBounds_toArray, List.set_cons_zero, List.set_cons_succ, i64_w, i32_w]
    rfl
  refine pure_ (i := 5) (N := some 23) (v := ?_) (a' := ?_) #[true, true, true, false, true, true, false, false, false, false, false, false, false, false] rfl rfl (by kernel_rfl) (fun _ _ _ h => h) (Or.inl ⟨by rfl, ?_⟩) ?_ ?_
  rotate_left
  · intro w'
    go_simp
    with_reducible rfl
  rotate_left
  · simp only [Act.put, List.setIfInBounds_toArray, List.set_cons_zero, List.set_cons_succ, i64_w, i32_w]
    rfl
  refine pure_ (i := 6) (N := some 24) (v := ?_) (a' := ?_) #[true, true, true, false, true, true, true, false, false, false, false, false, false, false] rfl rfl (by kernel_rfl) (fun _ _ _ h => h) (Or.inl ⟨by rfl, ?_⟩) ?_ ?_
  rotate_left
  · intro w'
    go_simp
    with_reducible rfl
  rotate_left
  · simp only [Act.put, List.setIfInBounds_toArray, List.set_cons_zero, List.set_cons_succ, i64_w, i32_w]
    rfl
  refine pure_ (i := 7) (N := some 25) (v := ?_) (a' := ?_) #[true, true, true, false, true, true, true, true, false, false, false, false, false, false] rfl rfl (by kernel_rfl) (fun _ _ _ h => h) (Or.inl ⟨by rfl, ?_⟩) ?_ ?_
  rotate_left
  · intro w'
    go_simp
    with_reducible rfl
  rotate_left
  · simp only [Act.put, List.setIfInBounds_toArray, List.set_cons_zero, List.set_cons_succ, i64_w, i32_w]
    rfl
  refine pure_ (i := 8) (N := some 26) (v := ?_) (a' := ?_) #[true, true, true, false, true, true, true, true, true, false, false, false, false, false] rfl rfl (by kernel_rfl) (fun _ _ _ h => h) (Or.inl ⟨by rfl, ?_⟩) ?_ ?_
  rotate_left
  · intro w'
    go_simp
    with_reducible rfl
  rotate_left
  · simp only [Act.put, List.setIfInBounds_toArray, List.set_cons_zero, List.set_cons_succ, i64_w, i32_w]
    rfl
  refine pure_ (i := 13) (N := some 31) (v := ?_) (a' := ?_) #[true, true, true, false, true, true, true, true, true, false, false, false, false, true] rfl rfl (by kernel_rfl) (fun _ _ _ h => h) (Or.inl ⟨by rfl, ?_⟩) ?_ ?_
  rotate_left
  · intro w'
    go_simp
    with_reducible rfl
  rotate_left
  · simp only [Act.put, List.setIfInBounds_toArray, List.set_cons_zero, List.set_cons_succ, i64_w, i32_w]
    rfl
  refine take_ (i := 3) (N := some 21) (v := ?_) (a' := ?_) #[true, true, true, true, true, true, true, true, true, false, false, false, false, true] rfl rfl (by kernel_rfl) (fun _ _ _ h => h) (Or.inl ⟨by rfl, ?_⟩) hHeld ?_ ?_
  rotate_left
  · rintro w' ⟨s0, s1⟩
    go_simp
    with_reducible rfl
  rotate_left
  · simp only [Act.put, List.setIfInBounds_toArray, List.set_cons_zero, List.set_cons_succ, i64_w, i32_w]
    rfl
  refine take_ (i := 9) (N := some 27) (v := ?_) (a' := ?_) #[true, true, true, true, true, true, true, true, true, true, false, false, false, true] rfl rfl (by kernel_rfl) (fun _ _ _ h => h) (Or.inl ⟨by rfl, ?_⟩) hHeld ?_ ?_
  rotate_left
  · rintro w' ⟨s0, s1⟩
    go_simp
    with_reducible rfl
  rotate_left
  · simp only [Act.put, List.setIfInBounds_toArray, List.set_cons_zero, List.set_cons_succ, i64_w, i32_w]
    rfl
  refine take_ (i := 10) (N := some 28) (v := ?_) (a' := ?_) #[true, true, true, true, true, true, true, true, true, true, true, false, false, true] rfl rfl (by kernel_rfl) (fun _ _ _ h => h) (Or.inl ⟨by rfl, ?_⟩) hHeld ?_ ?_
  rotate_left
  · rintro w' ⟨s0, s1⟩
    go_simp
    with_reducible rfl
  rotate_left
  · simp only [Act.put, List.setIfInBounds_toArray, List.set_cons_zero, List.set_cons_succ, i64_w, i32_w]
    rfl
  refine last_ (i := 11) (N := some 29) #[true, true, true, true, true, true, true, true, true, true, true, true, false, true] rfl rfl (by kernel_rfl) (by decide) (fun K hK => ?_)
  refine goes_ Try.func30 (by kernel_rfl) rfl #[kv, .string lo, .string hi, .int .i64 ((allKeys s.l).length : Int)] (by rfl) rfl rfl (by simp only [List.map_toArray, List.map_cons, List.map_nil]; rfl) ?_
  with_reducible refine (HSC.out _ (Mem.sel (ps := [_, _, _]) (F := F) [] 3 H.out.mem.drew rfl rfl)).mono ?_
  rintro e w3 ⟨v, rfl, hM⟩
  refine ⟨_, rfl, ?_⟩
  have M1 := Aside0.mk ((Mem.nil w).drew.trans hM)
  clear hM
  obtain ⟨A2, c2, he, hc2, _⟩ := M1.out.row_at 0 rfl
  subst he
  refine hK.out _ _ ?_
  clear hK K
  refine norm_ (a' := ?_) ?_ ?_
  rotate_left
  · show Act.put _ (some 29) _ = _
    simp only [Act.put, List.setIfInBounds_toArray, List.set_cons_zero, List.set_cons_succ, i64_w, i32_w]
    rfl
  refine pure_ (i := 12) (N := some 30) (v := ?_) (a' := ?_) #[true, true, true, true, true, true, true, true, true, true, true, true, true, true] rfl rfl (by kernel_rfl) (fun _ _ _ h => h) (Or.inl ⟨by rfl, ?_⟩) ?_ ?_
  rotate_left
  · intro w'
    go_simp
    with_reducible rfl
  rotate_left
  · simp only [Act.put, List.setIfInBounds_toArray, List.set_cons_zero, List.set_cons_succ, i64_w, i32_w]
    rfl
  refine done_ (by kernel_rfl) ?_
  clear cG
  go_wp2_with fail
  go_loopg [11, 13, 14, 15, 31] (P.length + 1) (fun kq v11 v13 v14 v15 v31 w' => ∃ (i : Nat) (out : List SP), v31 = .int .i64 i ∧ Aside0 (i ≤ P.length ∧ kq = P.length + 1 - i) ∧ Aside0 ((out ++ (ks.drop i).filterMap (pairAt s t)).take n.toNat = res ∧ out.length ≤ n.toNat ∧ out.length ≤ i) ∧ Aside0 (Mem w w' [row kP 41 v11 out, row kP 41 (.slice A2 P.length c2) P]))
  case atStart => exact ⟨0, [], rfl, ⟨by omega, by omega⟩, ⟨by rw [List.drop_zero, List.nil_append]; exact HR0.out, by simp, by simp⟩, ⟨Mem.row_nil M1.out _ _⟩⟩
  case round =>
    obtain ⟨wo, rfl⟩ : ∃ wo : World, wo = wr := ⟨_, rfl⟩
    obtain ⟨i, out, rfl, HK, HO, M2⟩ := hrel
    have hib : i ≤ 1000 := by have := HK.out.1; have := HPL.out; have := HKL.out; omega
    obtain ⟨A9, c9, e9, hc9, _⟩ := M2.out.row_at 0 rfl
    subst e9
    by_cases hlt : i < P.length
    · have hd1 : decide ((i : Int) < (P.length : Int)) = true := decide_eq_true (by omega)
      have hi1 : ((i : Int) < (P.length : Int)) = True := eq_true (by omega)
      have hlt2 : i < ks.length := by have := HPL.out; omega
      obtain ⟨ap, e, hz0, hz1⟩ := at_T41 (M2.out.row_C 1 rfl) (i : Int) (by omega) (by omega)
      cases e
      rw [Py.rdT hlt] at hz0 hz1
      rw [Int.toNat_natCast] at hz0 hz1
      obtain ⟨k, hk⟩ : ∃ k, ks[i] = k := ⟨_, rfl⟩
      have hPk : P[i] = pr k := by rw [← hk]; simp [← HP.out]
      rw [hPk] at hz0 hz1
      change _ = some (Value.string k) at hz0
      change _ = some (Value.string ⟨#[]⟩) at hz1
      have HE := Aside0.mk (show ks.drop i = k :: ks.drop (i + 1) by rw [List.drop_eq_getElem_cons hlt2, hk])
      have HKK := Aside0.mk (HKS.out k (by rw [← hk]; exact List.getElem_mem hlt2))
      clear hPk hk
      have M3 := Aside0.mk (M2.out.allocAt #[.string k, .string ⟨#[]⟩] 41 wo.heap.size rfl)
      by_cases hfull : n ≤ (out.length : Int)
      · have hd3 : decide (n ≤ (out.length : Int)) = true := decide_eq_true hfull
        have HF := Aside0.mk hfull
        clear hfull
        go_wp2_with fail
        go_ret
        have e5 := take_full HO.out.1 HO.out.2.1 HF.out
        rw [HRES.out]
        subst e5
        exact ⟨_, rfl, Mem.sel (ps := [_, _, _]) (F := []) [1] 3 M3.out rfl rfl⟩
      · have hd3 : decide (n ≤ (out.length : Int)) = false := decide_eq_false hfull
        have HF := Aside0.mk hfull
        clear hfull
        go_wp2_with fail
        refine (Sg.Get_calls (H.out.mem.grow M3.out.below) HI.out HKK.out (Nat.le_trans (list_len HN.out k) (by decide)) t).mono ?_
        rintro e w3 ⟨rfl, hb⟩
        have M4 := Aside0.mk (M3.out.grow hb)
        clear hb M3 M2 hz0 hz1 hc9
        have cB := blk_cell (M4.out.blk_at 0 rfl)
        obtain ⟨y, hy⟩ : ∃ y, (St.get s t k).1 = y := ⟨_, rfl⟩
        obtain ⟨b, hb⟩ : ∃ b, (St.get s t k).2 = b := ⟨_, rfl⟩
        rw [hy, hb]
        have HY := Aside0.mk hy
        have HB := Aside0.mk hb
        clear hy hb
        cases b with
        | false =>
          go_wp2_with fail
          go_roundg (P.length - i)
          case measure => have := HK.out; omega
          case rel =>
            refine ⟨i + 1, out, by go_num, ⟨by omega, by have := HK.out; omega⟩, ⟨?_, HO.out.2.1, by have := HO.out.2.2; omega⟩, ⟨Mem.sel (ps := [_, _, _]) (F := []) [1, 2] 3 M4.out rfl rfl⟩⟩
            have h5 := HO.out.1
            rw [HE.out, pair_out HB.out] at h5
            exact h5
        | true =>
          have MB := Aside0.mk (M4.out.allocAt #[.string k, .string y] 41 w3.heap.size rfl)
          have HLN := Aside0.mk (show (out.length + 1) * 32 ≤ 140737488355328 by have := HO.out.2.2; omega)
          go_wp2_with (((with_reducible refine gate_builtin (b := .append) (xs := #[.tmp 48, .tmp 53]) rfl ?_); at_builtin; refine Mem.app kP (Rr := fun z c => z = (⟨k, y⟩ : SP) ∧ c = [.string k, .string y]) MB.out 2 _ out [⟨k, y⟩] rfl (.tmp 48) (.tmp 53) 32 41 _ _ rfl Try.underlying32 info41 rfl (by decide) (by omega) (some ⟨w3.heap.size, 0, none⟩) 1 1 rfl rfl rfl (reads_one (⟨k, y⟩ : SP) (MB.out.blk_at 0 rfl) rfl) (fun z c h => by obtain ⟨rfl, rfl⟩ := h; exact flatP.mk_ _ _ _ (⟨k, y⟩ : SP)) HLN.out ?_; intro v1 w5 hM1; have M6 := Aside0.mk hM1; clear hM1))
          go_roundg (P.length - i)
          case measure => have := HK.out; omega
          case rel =>
            refine ⟨i + 1, out ++ [(⟨k, y⟩ : SP)], by go_num, ⟨by omega, by have := HK.out; omega⟩, ⟨?_, by rw [List.length_append, List.length_singleton]; have := HF.out; omega, by rw [List.length_append, List.length_singleton]; have := HO.out.2.2; omega⟩, ⟨Mem.sel (ps := [_, _, _, _]) (F := []) [2, 3] 4 M6.out rfl rfl⟩⟩
            have h5 := HO.out.1
            rw [HE.out, pair_in HB.out, HY.out] at h5
            rw [List.append_assoc]
            exact h5
    · have hd1 : decide ((i : Int) < (P.length : Int)) = false := decide_eq_false (by omega)
      have hi1 : ((i : Int) < (P.length : Int)) = False := eq_false (by omega)
      have hi2 : (i < P.length) = False := eq_false hlt
      have HE := Aside0.mk (show ks.drop i = [] from List.drop_eq_nil_of_le (by have := HK.out.1; have := HPL.out; omega))
      clear hlt
      go_wp2_with fail
      go_ret
      have h5 := HO.out.1
      rw [HE.out] at h5
      have e5 := take_end h5 HO.out.2.1
      rw [HRES.out]
      subst e5
      exact ⟨_, rfl, Mem.sel (ps := [_, _]) (F := []) [0] 2 M2.out rfl rfl⟩
end Go.Proofs.Ytookpmdgoednfaa.Si
namespace Go.Proofs.Ytookpmdgoednfaa.Sk
open Go.RowKit YtookpmdgoednfaaW.PrintWords YtookpmdgoednfaaW.PrintLast YtookpmdgoednfaaW.PrintMore Mx St Ks Su
def Light (a : SA8) : Prop := a.f3.size ≤ 500 ∧ a.f4.size ≤ 500
theorem rdA_at {l : List SA8} {j : Nat} (h : j < l.length) : rdkA8 l (j : Int) = l[j] := by
  unfold rdkA8
  rw [Int.toNat_natCast, List.getD_eq_getElem?_getD, List.getElem?_eq_getElem h]
  rfl
theorem heavy_calls (A : Option Addr) (c : Nat) (l : List SA8) (w : World) (hC : Kd.C kA8 w A l.length l) :
    Calls Try.prog 42 #[.slice A l.length c] w fun e w' => ∃ b, e = .returned (.bool b) ∧ w' = w ∧ (b = false → l.length ≤ 80 ∧ ∀ a ∈ l, Light a) := by
  have HC := Aside0.mk hC
  clear hC
  go_enter Try.func42, Try.ntmps42
  go_wp2_with fail
  go_loopg [3] (l.length + 1) (fun kq v3 w' => ∃ (i : Nat), v3 = .int .i64 i ∧ Aside0 (i ≤ l.length ∧ i ≤ 80 ∧ kq = l.length + 1 - i) ∧ Aside0 (∀ a ∈ l.take i, Light a) ∧ w' = w)
  case atStart => exact ⟨0, rfl, ⟨by omega, by omega, by omega⟩, ⟨fun a ha => by cases ha⟩, rfl⟩
  case round =>
    obtain ⟨i, rfl, HK, HL, rfl⟩ := hrel
    have hib : i ≤ 100 := by have := HK.out.2.1; omega
    by_cases hlt : i < l.length
    · have d1 : decide ((i : Int) < (l.length : Int)) = true := decide_eq_true (by omega)
      have d2 : ((i : Int) < (l.length : Int)) = True := eq_true (by omega)
      by_cases h80 : i < 80
      · have d3 : decide ((i : Int) < 80) = true := decide_eq_true (by omega)
        obtain ⟨ad, had, _, _, _, c3, c4⟩ := atkA8 HC.out (i : Int) (by omega) (by omega)
        subst had
        rw [rdA_at hlt] at c3 c4
        rw [Int.toNat_natCast] at c3 c4
        have HT := Aside0.mk (show l.take (i + 1) = l.take i ++ [l[i]] from List.take_succ_eq_append_getElem hlt)
        generalize l[i] = y at c3 c4 HT
        have hd : ∀ n : Nat, 500 < n → decide ((500 : Int) < (n : Int)) = true := fun n h => decide_eq_true (by omega)
        by_cases h3 : 500 < y.f3.size
        · have d4 : decide ((500 : Int) < (y.f3.size : Int)) = true := decide_eq_true (by omega)
          clear h3 hlt h80 hd
          go_wp2_with fail
          go_ret
          exact ⟨true, rfl, rfl, fun h => by cases h⟩
        · have d4 : decide ((500 : Int) < (y.f3.size : Int)) = false := decide_eq_false (by omega)
          by_cases h4 : 500 < y.f4.size
          · have d5 : decide ((500 : Int) < (y.f4.size : Int)) = true := decide_eq_true (by omega)
            clear h3 h4 hlt h80 hd
            go_wp2_with fail
            go_ret
            exact ⟨true, rfl, rfl, fun h => by cases h⟩
          · have d5 : decide ((500 : Int) < (y.f4.size : Int)) = false := decide_eq_false (by omega)
            have HY := Aside0.mk (show Light y from ⟨by omega, by omega⟩)
            have HI := Aside0.mk (show i < l.length ∧ i < 80 from ⟨hlt, h80⟩)
            clear h3 h4 hlt h80 hd
            go_wp2_with fail
            go_roundg (l.length - i)
            case measure => have := HK.out; have := HI.out; omega
            case rel => exact ⟨i + 1, by go_num, ⟨HI.out.1, HI.out.2, by have := HK.out; have := HI.out; omega⟩, ⟨fun a ha => by
              rw [HT.out] at ha
              rcases List.mem_append.1 ha with ha | ha
              · exact HL.out a ha
              · rw [List.mem_singleton.1 ha]; exact HY.out⟩, rfl⟩
      · have d3 : decide ((i : Int) < 80) = false := decide_eq_false (by omega)
        obtain rfl : i = 80 := by have := HK.out.2.1; omega
        have d4 : decide ((80 : Int) < (l.length : Int)) = true := decide_eq_true (by omega)
        clear hlt h80
        go_wp2_with fail
        go_ret
        exact ⟨true, rfl, rfl, fun h => by cases h⟩
    · have d1 : decide ((i : Int) < (l.length : Int)) = false := decide_eq_false (by omega)
      have d2 : ((i : Int) < (l.length : Int)) = False := eq_false (by omega)
      have d3 : (i < l.length) = False := eq_false hlt
      have d4 : decide ((80 : Int) < (l.length : Int)) = false := decide_eq_false (by have := HK.out.2.1; omega)
      have he : i = l.length := by have := HK.out.1; omega
      have HE := Aside0.mk he
      clear hlt he
      go_wp2_with fail
      go_ret
      exact ⟨false, rfl, rfl, fun _ => ⟨by have := HK.out.2.1; have := HE.out; omega, fun a ha => HL.out a (by rw [HE.out, List.take_length]; exact ha)⟩⟩
end Go.Proofs.Ytookpmdgoednfaa.Sk
namespace Go.Proofs.Ytookpmdgoednfaa.Pt8
open Go.RowKit YtookpmdgoednfaaW.PrintWords YtookpmdgoednfaaW.PrintLast YtookpmdgoednfaaW.PrintMore Mx PPagePuts St Ks Sw Su Sv Sx Sq Sh Sk
open Pa hiding SP
theorem put_room (s : St) (v : RV) : (put s v).1.room = s.room := by
  unfold put
  split
  · rfl
  · split
    · split
      · rfl
      · split <;> rfl
    · split
      · rfl
      · split
        · rfl
        · split <;> rfl
/-- A store with room for so many, as it may be. -/
structure Kept8 (n : Int) (s : St) : Prop where
  inv : Inv s
  room : s.room = n
theorem Kept8.few {n : Int} {s : St} (h : Kept8 n s) (hn : n ≤ 300) : s.l.length ≤ 300 := by
  have := h.inv.room
  rw [h.room] at this
  omega
theorem Kept8.put {n : Int} {s : St} (h : Kept8 n s) (v : RV) (hg : v.f3 = true → v.f2 = e0) : Kept8 n (St.put s v).1 := ⟨inv_put h.inv v hg, (put_room s v).trans h.room⟩
theorem Kept8.new {n : Int} (h : 0 ≤ n) : Kept8 n (new n) := ⟨inv_new h, rfl⟩
theorem StA.drew {w0 w : World} {g gm : Nat} {s : St} {F : List Res} (h : StA w0 w g gm s F) : StA w0 w.drew g gm s F := by
  obtain ⟨kv, hdr, Y, hm, hk⟩ := h
  exact ⟨kv, hdr, Y, hm.drew, hk⟩
theorem StA.with_ {w0 w w' : World} {g gm : Nat} {s : St} {F : List Res} {R : Res} (h : StA w0 w g gm s F) (hM : Mem w w' [R]) : StA w0 w' g gm s (R :: F) := by
  obtain ⟨kv, hdr, Y, hm, hk⟩ := h
  exact ⟨kv, hdr, Y, Mem.sel (ps := [_, _, _, _, _]) (F := F) [1, 2, 3, 4, 0] 5 (hm.trans hM) rfl rfl, KR.via hk (fun w'' hM => Mem.sel (ps := [_, _]) (F := F) [0] 2 hM rfl rfl)⟩
theorem Scan_A {w0 w : World} {g gm : Nat} {s : St} {F : List Res} (hA : StA w0 w g gm s F) (hI : Inv s) (hn : s.l.length ≤ 300) (t : Int) (lo hi : ByteArray) (n : Int) :
    Calls Try.prog 43 #[.pointer (some ⟨g, 0, none⟩), .int .i64 t, .string lo, .string hi, .int .i64 n] w fun e w' => ∃ A c, e = .returned (.slice A (St.scan s t lo hi n).length c) ∧ StA w0 w' g gm s (row kP 41 (.slice A (St.scan s t lo hi n).length c) (St.scan s t lo hi n) :: F) := by
  have hA' := hA
  obtain ⟨kv, hdr, Y, h⟩ := hA'
  refine (Si.Scan_calls h hI hn t lo hi n).mono ?_
  rintro e w' ⟨v, rfl, hM⟩
  obtain ⟨A, c, he, _, _⟩ := hM.row_at 0 rfl
  subst he
  exact ⟨A, c, rfl, StA.with_ hA hM⟩
theorem StA.row_of {w0 w : World} {g gm : Nat} {s : St} {F : List Res} (hA : StA w0 w g gm s F) (i : Nat) {A : Option Addr} {c : Nat} {l : List SP} (hi : F[i]? = some (row kP 41 (.slice A l.length c) l)) : Kd.C kP w A l.length l ∧ l.length ≤ c := by
  obtain ⟨kv, hdr, Y, h⟩ := hA
  have hi' : (blk g 116 (sc s.room (s.l.length : Int) s.top kv gm) :: mapS gm s hdr :: rowsS s hdr :: Y :: F)[i + 4]? = some (row kP 41 (.slice A l.length c) l) := by simpa using hi
  obtain ⟨A', c', e, h1, h2⟩ := h.mem.row_at (i + 4) hi'
  injection e with e1 e2 e3
  subst e1; subst e3
  exact ⟨h2, h1⟩
theorem scan_few {s : St} (t : Int) (lo hi : ByteArray) : (St.scan s t lo hi 100).length ≤ 100 := by
  unfold St.scan
  rw [List.length_take]
  exact Nat.min_le_left _ _
/-- Pairs, of one list and itself. -/
theorem pairs_same {w : World} {A B : Option Addr} {c d : Nat} (l : List SP) (hl : l.length ≤ 100) (h1 : Kd.C kP w A l.length l ∧ l.length ≤ c) (h2 : Kd.C kP w B l.length l ∧ l.length ≤ d) :
    Calls Try.prog 29 #[.slice A l.length c, .slice B l.length d] w fun e w' => e = .returned (.bool true) ∧ Below w.heap.size w w' := by
  obtain ⟨k, hk⟩ := (Pz.pairs_ev l l (Pz.Al_refl l) (by omega)).rounds
  refine (falseworkref7_Pairs.calls k A c l B d l true w h1.1 h1.2 h2.1 h2.2 hk).mono ?_
  rintro e w' ⟨rfl, hd⟩
  exact ⟨rfl, ((Mem.nil w).drawn hd).below⟩
end Go.Proofs.Ytookpmdgoednfaa.Pt8
