/- Texts laid together: Sq. No condition. -/
import Derived.Test.YtookpmdgoednfaaYPz13
set_option linter.unusedVariables false
set_option linter.unusedSimpArgs false
set_option maxRecDepth 100000
set_option maxHeartbeats 8000000
namespace Go.Proofs.Ytookpmdgoednfaa.Sq
open Go.RowKit YtookpmdgoednfaaW.PrintWords YtookpmdgoednfaaW.PrintLast YtookpmdgoednfaaW.PrintMore Mx PPagePuts St Ks Sw Su Sv Sx Go.Proofs.Ytookpmdgoednfaa.So
open Pa hiding SP
theorem KR.via {w0 : World} {X X' : List Res} {kv : Value} {ks : List ByteArray} (h : KR w0 X kv ks) (hX : ∀ w'', Mem w0 w'' X' → Mem w0 w'' X) : KR w0 X' kv ks := by
  obtain ⟨A, c, ps, h1, h2, h3, h4, h5⟩ := h
  exact ⟨A, c, ps, h1, h2, h3, h4, fun w'' hM => h5 w'' (hX w'' hM)⟩
theorem keys_size {w0 w : World} {g gm : Nat} {s : St} {kv : Value} {hdr : ByteArray → Value} {F : List Res} (h : StM w0 w g gm s kv hdr F) {k : ByteArray} (hk : SK s k) : k.size ≤ maxLen := by
  obtain ⟨D, _, _, h3, _⟩ := h.mem.map_at 1 rfl
  exact (h3 k hk).1
/-- A key whose versions are fewer now. -/
theorem rel_stay {w0 w : World} {F : List Res} {g gm n : Nat} {s1 s2 : St} {kv v : Value} {hdr : ByteArray → Value} {k : ByteArray} {Y B : Res} (hT : Turn s1 s2 k n) (hn : n < (xsV s1 k).length) (hM : Mem w0 w (row kV 120 v ((xsV s1 k).drop n) :: B :: blk g 116 (sc s1.room (s2.l.length : Int) s1.top kv gm) :: mapB Try.prog 9 gm (SK s1) (hdrW hdr k v) (allKeys s1.l).length :: rowsS s1 hdr :: Y :: F)) (hK : KR w0 (Y :: F) kv (allKeys s1.l)) : StA w0 w g gm s2 F := by
  have e := hT.stay hn
  have M1 := Mem.rows_congr (S' := fun j => ¬ j = k ∧ SK s1 j) (Mem.sel (ps := [_, _, _, _, _]) (F := Y :: F) [4, 0, 2, 3] 5 hM rfl rfl) 0 rfl (fun _ h => h.2) (fun _ _ => rfl) (fun _ _ => rfl)
  have M2 := Mem.rows_put (k := k) (S' := SK s2) (hdr' := hdrW hdr k v) (xs' := xsV s2) (Mem.sel (ps := [_, _, _, _]) (F := Y :: F) [1, 0, 2, 3] 4 M1 rfl rfl) (fun h => h.1 rfl) (fun j hj => by
    by_cases e1 : j = k
    · exact .inl e1
    · exact .inr ⟨e1, (hT.sk e1).1 hj⟩) (hdrW_same _ _ _) hT.here (fun j hj _ => ⟨hdrW_other _ _ hj, hT.other j hj⟩)
  refine ⟨kv, hdrW hdr k v, Y, ?_, ?_⟩
  · rw [hT.room, hT.top]
    have e2 : mapS gm s2 (hdrW hdr k v) = mapB Try.prog 9 gm (SK s1) (hdrW hdr k v) (allKeys s1.l).length := by
      unfold mapS SK
      rw [e]
    rw [e2]
    exact Mem.sel (ps := [_, _, _]) (F := Y :: F) [1, 2, 0] 3 M2 rfl rfl
  · rw [e]
    exact hK
/-- A key that is there no longer. -/
theorem rel_away {w0 w : World} {F : List Res} {g gm n : Nat} {s1 s2 : St} {kv v : Value} {hdr hdr' : ByteArray → Value} {k : ByteArray} {Y Z B C : Res} (hT : Turn s1 s2 k n) (hn : n = (xsV s1 k).length) (hM : Mem w0 w (Z :: C :: B :: blk g 116 (sc s1.room (s2.l.length : Int) s1.top kv gm) :: mapB Try.prog 9 gm (SK s2) (hdrW hdr k v) (allKeys s2.l).length :: rowsS s1 hdr :: Y :: F)) (hK : KR w0 (Z :: Y :: F) kv ((allKeys s1.l).filter (fun x => !kb x k))) : StA w0 w g gm s2 F := by
  have M1 := Mem.rows_congr (S' := SK s2) (hdr' := hdrW hdr k v) (xs' := xsV s2) (Mem.sel (ps := [_, _, _, _, _, _]) (F := Y :: F) [5, 3, 4, 0] 6 hM rfl rfl) 0 rfl (fun j h => ((hT.away_sk hn j).1 h).2) (fun j h => hdrW_other _ _ ((hT.away_sk hn j).1 h).1) (fun j h => hT.other j ((hT.away_sk hn j).1 h).1)
  refine StA.less (Y := Y) ⟨kv, hdrW hdr k v, Z, ?_, ?_⟩
  · rw [hT.room, hT.top]
    exact Mem.sel (ps := [_, _, _, _]) (F := Y :: F) [1, 2, 0, 3] 4 M1 rfl rfl
  · rw [hT.away hn]
    exact hK
section
variable {w0 w : World} {F : List Res} {g gm : Nat} {s : St}
theorem Trim_calls (hA : StA w0 w g gm s F) (hI : Inv s) (hn : s.l.length ≤ 300) (t : Int) :
    Calls Try.prog 44 #[.pointer (some ⟨g, 0, none⟩), .int .i64 t] w fun e w' => e = .returned (.int .i64 (trim s t).2) ∧ StA w0 w' g gm (trim s t).1 F := by
  obtain ⟨kv, hdr, Y, h⟩ := hA
  have H := Aside0.mk h
  have HI := Aside0.mk hI
  have HN := Aside0.mk hn
  have HFEW := Aside0.mk (show (allKeys s.l).length ≤ 400 by have := keys_le s.l; omega)
  clear h hI hn
  have HSC := Aside0.mk (fun (w1 : World) (hX : Mem w0 w1 (Y :: F)) => (by have := keys_scan H.out.keys HFEW.out e0 e0 hX; rw [keys_all] at this; exact this : Calls Try.prog 30 #[kv, .string ⟨#[]⟩, .string ⟨#[]⟩, .int .i64 ((allKeys s.l).length : Int)] w1 fun e w' => ∃ v : Value, e = .returned v ∧ Mem w1 w' [row kP 41 v ((allKeys s.l).map pr)]))
  obtain ⟨P, hP⟩ : ∃ P, (allKeys s.l).map pr = P := ⟨_, rfl⟩
  rw [hP] at HSC
  have HP := Aside0.mk hP
  have HPL := Aside0.mk (show P.length = (allKeys s.l).length by rw [← hP, List.length_map])
  clear hP
  have cG := blk_cell (H.out.mem.blk_at 0 rfl)
  unfold sc at cG
  go_enter Try.func44, Try.ntmps44
  go_upto_region 4 with (fail)
  refine start_ (n := 12) (S := fun w' => (∀ j : Nat, w'.cell? ⟨g, j, none⟩ = w.cell? ⟨g, j, none⟩) ∧ (∀ ty : TypeId, (Builtin.len_ #[114] ty #[.map (some gm)]).run Try.prog w' = .ok (.int .i64 ((allKeys s.l).length : Nat)) w')) (ds := [9]) #[false, false, false, false, false, false, false, false, false, false, false, false] (by kernel_rfl) rfl rfl ⟨(fun j => rfl), (fun ty => (H.out.mem.drew.map_at 1 rfl).len Try.underlying114 ty)⟩ (fun hHeld => ?_)
  refine pure_ (i := 0) (N := some 16) (v := ?_) (a' := ?_) #[true, false, false, false, false, false, false, false, false, false, false, false] rfl rfl (by kernel_rfl) (fun _ _ _ h => h) (Or.inl ⟨by rfl, ?_⟩) ?_ ?_
  rotate_left
  · intro w'
    go_simp
    with_reducible rfl
  rotate_left
  · simp only [Act.put, List.setIfInBounds_toArray, List.set_cons_zero, List.set_cons_succ, i64_w, i32_w]
    rfl
  refine pure_ (i := 1) (N := some 17) (v := ?_) (a' := ?_) #[true, true, false, false, false, false, false, false, false, false, false, false] rfl rfl (by kernel_rfl) (fun _ _ _ h => h) (Or.inl ⟨by rfl, ?_⟩) ?_ ?_
  rotate_left
  · intro w'
    go_simp
    with_reducible rfl
  rotate_left
  · simp only [Act.put, List.setIfInBounds_toArray, List.set_cons_zero, List.set_cons_succ, i64_w, i32_w]
    rfl
  refine pure_ (i := 2) (N := some 18) (v := ?_) (a' := ?_) #[true, true, true, false, false, false, false, false, false, false, false, false] rfl rfl (by kernel_rfl) (fun _ _ _ h => h) (Or.inl ⟨by rfl, ?_⟩) ?_ ?_
  rotate_left
  · intro w'
    go_simp
    with_reducible rfl
  rotate_left
  · simp only [Act.put, List.setIfInBounds_toArray, List.set_cons_zero, List.set_cons_succ, i64_w, i32_w]
    rfl
  refine pure_ (i := 4) (N := some 20) (v := ?_) (a' := ?_) #[true, true, true, false, true, false, false, false, false, false, false, false] rfl rfl (by kernel_rfl) (fun _ _ _ h => h) (Or.inl ⟨by rfl, ?_⟩) ?_ ?_
  rotate_left
  · intro w'
    go_simp
    with_reducible rfl
  rotate_left
  · simp only [Act.put, List.setIfInBounds_toArray, List.set_cons_zero, List.set_cons_succ, i64_w, i32_w]
    rfl
  refine pure_ (i := 5) (N := some 21) (v := ?_) (a' := ?_) #[true, true, true, false, true, true, false, false, false, false, false, false] rfl rfl (by kernel_rfl) (fun _ _ _ h => h) (Or.inl ⟨by rfl, ?_⟩) ?_ ?_
  rotate_left
  · intro w'
    go_simp
    with_reducible rfl
  rotate_left
  · simp only [Act.put, List.setIfInBounds_toArray, List.set_cons_zero, List.set_cons_succ, i64_w, i32_w]
    rfl
  refine pure_ (i := 6) (N := some 22) (v := ?_) (a' := ?_) #[true, true, true, false, true, true, true, false, false, false, false, false] rfl rfl (by kernel_rfl) (fun _ _ _ h => h) (Or.inl ⟨by rfl, ?_⟩) ?_ ?_
  rotate_left
  · intro w'
    go_simp
    with_reducible rfl
  rotate_left
  · simp only [Act.put, List.setIfInBounds_toArray, List.set_cons_zero, List.set_cons_succ, i64_w, i32_w]
    rfl
  refine pure_ (i := 11) (N := some 27) (v := ?_) (a' := ?_) #[true, true, true, false, true, true, true, false, false, false, false, true] rfl rfl (by kernel_rfl) (fun _ _ _ h => h) (Or.inl ⟨by rfl, ?_⟩) ?_ ?_
  rotate_left
  · intro w'
    go_simp
    with_reducible rfl
  rotate_left
  · simp only [Act.put, List.setIfInBounds_toArray, List.set_cons_zero, List.set_cons_succ, i64_w, i32_w]
    rfl
  refine take_ (i := 3) (N := some 19) (v := ?_) (a' := ?_) #[true, true, true, true, true, true, true, false, false, false, false, true] rfl rfl (by kernel_rfl) (fun _ _ _ h => h) (Or.inl ⟨by rfl, ?_⟩) hHeld ?_ ?_
  rotate_left
  · rintro w' ⟨s0, s1⟩
    go_simp
    with_reducible rfl
  rotate_left
  · simp only [Act.put, List.setIfInBounds_toArray, List.set_cons_zero, List.set_cons_succ, i64_w, i32_w]
    rfl
  refine take_ (i := 7) (N := some 23) (v := ?_) (a' := ?_) #[true, true, true, true, true, true, true, true, false, false, false, true] rfl rfl (by kernel_rfl) (fun _ _ _ h => h) (Or.inl ⟨by rfl, ?_⟩) hHeld ?_ ?_
  rotate_left
  · rintro w' ⟨s0, s1⟩
    go_simp
    with_reducible rfl
  rotate_left
  · simp only [Act.put, List.setIfInBounds_toArray, List.set_cons_zero, List.set_cons_succ, i64_w, i32_w]
    rfl
  refine take_ (i := 8) (N := some 24) (v := ?_) (a' := ?_) #[true, true, true, true, true, true, true, true, true, false, false, true] rfl rfl (by kernel_rfl) (fun _ _ _ h => h) (Or.inl ⟨by rfl, ?_⟩) hHeld ?_ ?_
  rotate_left
  · rintro w' ⟨s0, s1⟩
    go_simp
    with_reducible rfl
  rotate_left
  · simp only [Act.put, List.setIfInBounds_toArray, List.set_cons_zero, List.set_cons_succ, i64_w, i32_w]
    rfl
  refine last_ (i := 9) (N := some 25) #[true, true, true, true, true, true, true, true, true, true, false, true] rfl rfl (by kernel_rfl) (by decide) (fun K hK => ?_)
  refine goes_ Try.func30 (by kernel_rfl) rfl #[kv, .string ⟨#[]⟩, .string ⟨#[]⟩, .int .i64 ((allKeys s.l).length : Int)] (by rfl) rfl rfl (by simp only [List.map_toArray, List.map_cons, List.map_nil]; rfl) ?_
  with_reducible refine (HSC.out _ (Mem.sel (ps := [_, _, _]) (F := Y :: F) [] 3 H.out.mem.drew rfl rfl)).mono ?_
  rintro e w3 ⟨v, rfl, hM⟩
  refine ⟨_, rfl, ?_⟩
  have M1 := Aside0.mk (H.out.mem.drew.trans hM)
  clear hM
  obtain ⟨A2, c2, he, hc2, _⟩ := M1.out.row_at 0 rfl
  subst he
  refine hK.out _ _ ?_
  clear hK K
  refine norm_ (a' := ?_) ?_ ?_
  rotate_left
  · show Act.put _ (some 25) _ = _
    simp only [Act.put, List.setIfInBounds_toArray, List.set_cons_zero, List.set_cons_succ, i64_w, i32_w]
    rfl
  refine pure_ (i := 10) (N := some 26) (v := ?_) (a' := ?_) #[true, true, true, true, true, true, true, true, true, true, true, true] rfl rfl (by kernel_rfl) (fun _ _ _ h => h) (Or.inl ⟨by rfl, ?_⟩) ?_ ?_
  rotate_left
  · intro w'
    go_simp
    with_reducible rfl
  rotate_left
  · simp only [Act.put, List.setIfInBounds_toArray, List.set_cons_zero, List.set_cons_succ, i64_w, i32_w]
    rfl
  refine done_ (by kernel_rfl) ?_
  clear cG
  go_wp2_with fail
  go_loopg [7, 8, 9, 27] (P.length + 1) (fun kq v7 v8 v9 v27 w' => ∃ (i : Nat), v27 = .int .i64 i ∧ Aside0 (i ≤ P.length ∧ kq = P.length + 1 - i) ∧ Aside0 (StA w0 w' g gm (part_ s t i) (row kP 41 (.slice A2 P.length c2) P :: F)))
  case atStart => exact ⟨0, rfl, ⟨by omega, by omega⟩, ⟨by
    rw [part_zero]
    exact ⟨kv, hdr, Y, Mem.sel (ps := [_, _, _, _, _]) (F := F) [1, 2, 3, 4, 0] 5 M1.out rfl rfl, KR.via H.out.keys (fun w'' hM => Mem.sel (ps := [_, _]) (F := F) [0] 2 hM rfl rfl)⟩⟩⟩
  case round =>
    obtain ⟨wo, rfl⟩ : ∃ wo : World, wo = wr := ⟨_, rfl⟩
    obtain ⟨i, rfl, HK, HA⟩ := hrel
    have hib : i ≤ 1000 := by have := HK.out.1; have := HPL.out; have := HFEW.out; omega
    by_cases hlt : i < P.length
    · have hd1 : decide ((i : Int) < (P.length : Int)) = true := decide_eq_true (by omega)
      have hi1 : ((i : Int) < (P.length : Int)) = True := eq_true (by omega)
      have hlt2 : i < (allKeys s.l).length := by have := HPL.out; omega
      obtain ⟨kv1, hdr1, Y1, hst⟩ := HA.out
      have HT := Aside0.mk (turn_of HI.out t hlt2)
      have HL1 := Aside0.mk (show (part_ s t i).l.length ≤ 300 from Nat.le_trans (trimP_sub _ _ _).length_le HN.out)
      obtain ⟨ap, e, hz0, hz1⟩ := at_T41 (hst.mem.row_C 4 rfl) (i : Int) (by omega) (by omega)
      cases e
      rw [Py.rdT hlt] at hz0 hz1
      rw [Int.toNat_natCast] at hz0 hz1
      obtain ⟨k, hk⟩ : ∃ k, (allKeys s.l)[i] = k := ⟨_, rfl⟩
      have hPk : P[i] = pr k := by rw [← hk]; simp [← HP.out]
      rw [hPk] at hz0 hz1
      change _ = some (Value.string k) at hz0
      change _ = some (Value.string ⟨#[]⟩) at hz1
      rw [hk] at HT
      obtain ⟨s1, hs1⟩ : ∃ s1, part_ s t i = s1 := ⟨_, rfl⟩
      obtain ⟨s2, hs2⟩ : ∃ s2, part_ s t (i + 1) = s2 := ⟨_, rfl⟩
      rw [hs1] at hst HL1 HT
      rw [hs2] at HT
      have HS2 := Aside0.mk hs2
      have HKS := Aside0.mk (keys_size hst HT.out.there)
      have HKL := Aside0.mk (show (allKeys s1.l).length ≤ 400 by have := keys_le s1.l; have := HL1.out; omega)
      have HK1 := Aside0.mk hst.keys
      have M2 := Aside0.mk (hst.mem.allocAt #[.string k, .string ⟨#[]⟩] 41 wo.heap.size rfl)
      clear hst HA hs1 hs2 hPk hk
      obtain ⟨A, c, hrun, hl, hC, hS, _⟩ := lookS M2.out 2 3 rfl rfl HKS.out
      have hS := hS HT.out.there
      have hrunN : ∀ m : Nat, (Instr.lookup 114 (.map (some gm)) (.string k) false).run Try.prog ((wo.alloc (.cells #[.string k, .string ⟨#[]⟩] 41)).drewN m) = .ok (.slice A (xsV s1 k).length c) ((wo.alloc (.cells #[.string k, .string ⟨#[]⟩] 41)).drewN m) := fun m => by
        obtain ⟨A', c', hr, _, _, hS', _⟩ := lookS (M2.out.drewN m) 2 3 rfl rfl HKS.out
        have e := (hS' HT.out.there).symm.trans hS
        injection e with e1 e2 e3
        rw [e1, e3] at hr
        exact hr
      clear hrun
      obtain ⟨xs, hxs0⟩ : ∃ xs, xsV s1 k = xs := ⟨_, rfl⟩
      rw [hxs0] at hrunN hl hC hS
      have HXS := Aside0.mk (list_len HL1.out k)
      rw [hxs0] at HXS
      have HS := Aside0.mk hS
      have hxs := Aside0.mk hxs0
      clear hxs0
      have HCX := Aside0.mk (fun (w'' : World) (z : Int) (hM : Mem w0 w'' (blk wo.heap.size 41 #[.string k, .string ⟨#[]⟩] :: blk g 116 (sc s1.room z s1.top kv1 gm) :: mapS gm s1 hdr1 :: rowsS s1 hdr1 :: Y1 :: row kP 41 (.slice (some ap) P.length c2) P :: F)) => (by
        obtain ⟨A', c', e, _, hC⟩ := hM.rows_at 3 rfl HT.out.there
        rw [HS.out, hxs.out] at e
        injection e with e1
        rw [e1, ← hxs.out]
        exact hC : kV.C w'' A xs.length xs))
      have HLC := Aside0.mk hl
      have cG := blk_cell (M2.out.blk_at 1 rfl)
      have cB := blk_cell (M2.out.blk_at 0 rfl)
      unfold sc at cG
      clear hC hS hl
      go_upto_region 7 with (fail)
      go_quiet (fail)
      have M3 := Aside0.mk (M2.out.drewN nq)
      clear M2 cG cB hrunN
      go_wp2_with fail
      go_loopg [9] (xs.length + 1) (fun kr v9 w'' => ∃ j : Nat, v9 = .int .i64 j ∧ Aside0 (j ≤ cntV t xs ∧ kr = xs.length + 1 - j) ∧ Aside0 (Mem w0 w'' (blk wo.heap.size 41 #[.string k, .string ⟨#[]⟩] :: blk g 116 (sc s1.room (s1.l.length : Int) s1.top kv1 gm) :: mapS gm s1 hdr1 :: rowsS s1 hdr1 :: Y1 :: row kP 41 (.slice (some ap) P.length c2) P :: F)))
      case atStart => exact ⟨0, rfl, ⟨by omega, by omega⟩, M3⟩
      case round =>
        obtain ⟨j, rfl, HJ, M4⟩ := hrel
        clear M3
        have hjb : j ≤ 1000 := by have := HJ.out.1; have := cntV_le t xs; have := HXS.out; omega
        obtain ⟨b, hb⟩ : ∃ b, decide (j < cntV t xs) = b := ⟨_, rfl⟩
        have HB := Aside0.mk hb
        clear hb
        go_upto_region 9 with (fail)
        go_cut [50] (fun v50 wx => v50 = .bool b ∧ Aside0 (Mem w0 wx (blk wo.heap.size 41 #[.string k, .string ⟨#[]⟩] :: blk g 116 (sc s1.room (s1.l.length : Int) s1.top kv1 gm) :: mapS gm s1 hdr1 :: rowsS s1 hdr1 :: Y1 :: row kP 41 (.slice (some ap) P.length c2) P :: F)))
        case first =>
          by_cases h1 : j < cntV t xs
          · have h2 : j < xs.length := Nat.lt_of_lt_of_le h1 (cntV_le t xs)
            obtain ⟨ad, had, c0, c1, _⟩ := atkV (HCX.out _ _ M4.out) (j : Int) (by omega) (by omega)
            subst had
            rw [rd_at h2] at c0 c1
            have h3 := cntV_in h2 h1
            rw [Int.toNat_natCast] at c0 c1
            generalize xs[j] = y at c0 c1 h3
            have q1 : decide ((j : Int) < (xs.length : Int)) = true := decide_eq_true (by omega)
            have q2 : ((j : Int) < (xs.length : Int)) = True := eq_true (by omega)
            have q3 : decide (y.f0 ≤ t) = true := decide_eq_true h3
            obtain rfl : b = true := by rw [← HB.out, decide_eq_true h1]
            clear h1 h2 h3
            go_wp2_with fail
            go_meet
            case rel => exact ⟨rfl, M4⟩
          · have hj : j = cntV t xs := by have := HJ.out.1; omega
            obtain rfl : b = false := by rw [← HB.out, decide_eq_false h1]
            by_cases h2 : j < xs.length
            · obtain ⟨ad, had, c0, c1, _⟩ := atkV (HCX.out _ _ M4.out) (j : Int) (by omega) (by omega)
              subst had
              rw [rd_at h2] at c0 c1
              have h3 : ¬ xs[j].f0 ≤ t := by
                have := cntV_at (t := t) (xs := xs) (by omega)
                simpa only [← hj] using this
              rw [Int.toNat_natCast] at c0 c1
              generalize xs[j] = y at c0 c1 h3
              have q1 : decide ((j : Int) < (xs.length : Int)) = true := decide_eq_true (by omega)
              have q2 : ((j : Int) < (xs.length : Int)) = True := eq_true (by omega)
              have q3 : decide (y.f0 ≤ t) = false := decide_eq_false h3
              clear h1 h2 h3 hj
              go_wp2_with fail
              go_meet
              case rel => exact ⟨rfl, M4⟩
            · have q1 : decide ((j : Int) < (xs.length : Int)) = false := decide_eq_false (by omega)
              have q2 : ((j : Int) < (xs.length : Int)) = False := eq_false (by omega)
              have q3 : (j < xs.length) = False := eq_false h2
              clear h1 h2 hj
              go_wp2_with fail
              go_meet
              case rel => exact ⟨rfl, M4⟩
        case rest =>
        obtain ⟨rfl, M5⟩ := hcut
        clear M4
        cases b with
        | true =>
          have hj : j < cntV t xs := of_decide_eq_true HB.out
          have HJ2 := Aside0.mk hj
          clear hj
          go_wp2_with fail
          go_roundg (xs.length - j)
          case measure => have := HJ.out; have := HJ2.out; have := cntV_le t xs; omega
          case rel => exact ⟨j + 1, by go_num, ⟨HJ2.out, by have := HJ.out; have := HJ2.out; have := cntV_le t xs; omega⟩, M5⟩
        | false =>
          have hj : j = cntV t xs := by have := of_decide_eq_false HB.out; have := HJ.out.1; omega
          have HJ2 := Aside0.mk hj
          have HJB := Aside0.mk (show j ≤ xs.length by rw [hj]; exact cntV_le t xs)
          clear hj
          obtain ⟨b2, hb2⟩ : ∃ b2, (decide (0 < j) && !(rdkV xs ((j : Int) - 1)).f2) = b2 := ⟨_, rfl⟩
          have HB2 := Aside0.mk hb2
          clear hb2
          go_upto_region 11 with (fail)
          go_cut [63] (fun v63 wx => v63 = .bool b2 ∧ Aside0 (Mem w0 wx (blk wo.heap.size 41 #[.string k, .string ⟨#[]⟩] :: blk g 116 (sc s1.room (s1.l.length : Int) s1.top kv1 gm) :: mapS gm s1 hdr1 :: rowsS s1 hdr1 :: Y1 :: row kP 41 (.slice (some ap) P.length c2) P :: F)))
          case first =>
            by_cases h0 : 0 < j
            · obtain ⟨m', rfl⟩ : ∃ m', j = m' + 1 := ⟨j - 1, by omega⟩
              obtain ⟨ad, had, c0, _, c2⟩ := atkV (HCX.out _ _ M5.out) (((m' + 1 : Nat) : Int) - 1) (by omega) (by have := HJB.out; omega)
              subst had
              have e1 : b2 = !(rdkV xs (((m' + 1 : Nat) : Int) - 1)).f2 := by rw [← HB2.out, decide_eq_true h0, Bool.true_and]
              have em : ((m' + 1 : Nat) : Int) - 1 = (m' : Int) := by omega
              rw [em] at c0 c2 e1
              rw [Int.toNat_natCast] at c0 c2
              generalize rdkV xs (m' : Int) = y at c0 c2 e1
              have p1 : ((m' : Int) < (xs.length : Int)) = True := eq_true (by have := HJB.out; omega)
              have p3 : decide ((0 : Int) < (m' : Int) + 1) = true := decide_eq_true (by omega)
              have p2 : ((0 : Int) < (m' : Int) + 1) = True := eq_true (by omega)
              have p4 : IntKind.i64.wrap ((m' : Int) + 1 - 1) = (m' : Int) := by rw [show (m' : Int) + 1 - 1 = (m' : Int) by omega]; exact Tzw _ (by omega)
              subst e1
              clear em HB2 h0
              go_wp2_with fail
              go_meet
              case rel => exact ⟨rfl, M5⟩
            · have p3 : decide ((0 : Int) < (j : Int)) = false := decide_eq_false (by omega)
              have p4 : ((0 : Int) < (j : Int)) = False := eq_false (by omega)
              have p5 : (0 < j) = False := eq_false h0
              have e1 : b2 = false := by rw [← HB2.out, decide_eq_false h0, Bool.false_and]
              subst e1
              clear h0
              go_wp2_with fail
              go_meet
              case rel => exact ⟨rfl, M5⟩
          case rest =>
          obtain ⟨rfl, M6⟩ := hcut
          clear M5
          obtain ⟨n, hn⟩ : ∃ n, cutV t xs = n := ⟨_, rfl⟩
          have HNC := Aside0.mk (show (b2 = true → j = n + 1) ∧ (b2 = false → j = n) by
            have e := HB2.out
            have e2 : cutV t xs = if b2 = true then j - 1 else j := by
              unfold cutV
              rw [← HJ2.out]
              by_cases h : 0 < j ∧ (rdkV xs ((j : Int) - 1)).f2 = false
              · rw [if_pos h, if_pos (by rw [← e, decide_eq_true h.1, h.2]; rfl)]
              · rw [if_neg h, if_neg (fun hb => h (by rw [← e, Bool.and_eq_true, decide_eq_true_eq, Bool.not_eq_true'] at hb; exact hb))]
            have e3 : b2 = true → 0 < j := fun hb => by
              rw [← e, Bool.and_eq_true, decide_eq_true_eq] at hb
              exact hb.1
            rw [← hn, e2]
            exact ⟨fun hb => by rw [if_pos hb]; have := e3 hb; omega, fun hb => by rw [if_neg (by rw [hb]; simp)]⟩)
          rw [hxs.out, hn] at HT
          clear hn
          go_upto_if 63 with (fail)
          go_cut [9] (fun v9 wx => v9 = .int .i64 (n : Nat) ∧ Aside0 (Mem w0 wx (blk wo.heap.size 41 #[.string k, .string ⟨#[]⟩] :: blk g 116 (sc s1.room (s1.l.length : Int) s1.top kv1 gm) :: mapS gm s1 hdr1 :: rowsS s1 hdr1 :: Y1 :: row kP 41 (.slice (some ap) P.length c2) P :: F)))
          case first =>
            cases b2 with
            | true =>
              obtain rfl := HNC.out.1 rfl
              have p4 : IntKind.i64.wrap ((n : Int) + 1 - 1) = (n : Int) := by rw [show (n : Int) + 1 - 1 = (n : Int) by omega]; exact Tzw _ (by omega)
              go_wp2_with fail
              go_meet
              case rel => exact ⟨rfl, M6⟩
            | false =>
              obtain rfl := HNC.out.2 rfl
              go_wp2_with fail
              go_meet
              case rel => exact ⟨rfl, M6⟩
          case rest =>
          obtain ⟨rfl, M7⟩ := hcut
          clear M6
          have hnx : n ≤ xs.length := by
            have := HJB.out
            cases b2 with
            | true => have := HNC.out.1 rfl; omega
            | false => have := HNC.out.2 rfl; omega
          have HNX := Aside0.mk hnx
          have HBD := Aside0.mk (show n ≤ 300 by have := HXS.out; omega)
          clear hnx
          have hw : IntKind.i64.wrap ((s1.l.length : Int) - (n : Int)) = (s2.l.length : Int) := by rw [← HT.out.len]; exact Tzw _ (by have := HT.out.len; have := HL1.out; omega)
          have cG := blk_cell (M7.out.blk_at 1 rfl)
          have fG := blk_frozen (M7.out.blk_at 1 rfl)
          unfold sc at cG
          go_upto_region 13 with (fail)
          go_cut [] (fun wx => Aside0 (Mem w0 wx (blk wo.heap.size 41 #[.string k, .string ⟨#[]⟩] :: blk g 116 (sc s1.room (s2.l.length : Int) s1.top kv1 gm) :: mapS gm s1 hdr1 :: rowsS s1 hdr1 :: Y1 :: row kP 41 (.slice (some ap) P.length c2) P :: F)))
          case first =>
            go_wp2_with fail
            go_meet
            case rel => exact ⟨M7.out.set 1 rfl 1 (.int .i64 (s2.l.length : Int))⟩
          case rest =>
          have M6 := hcut
          clear M7 cG fG hw hcut
          go_upto_region 14 with (fail)
          go_cut [] (fun wx => ∃ v1 : Value, Aside0 (Mem w0 wx (row kV 120 v1 (xs.drop n) :: blk wo.heap.size 41 #[.string k, .string ⟨#[]⟩] :: blk g 116 (sc s1.room (s2.l.length : Int) s1.top kv1 gm) :: mapB Try.prog 9 gm (SK s1) (hdrW hdr1 k v1) (allKeys s1.l).length :: rowsS s1 hdr1 :: Y1 :: row kP 41 (.slice (some ap) P.length c2) P :: F)))
          case first =>
            have cG := blk_cell (M6.out.blk_at 1 rfl)
            have cB := blk_cell (M6.out.blk_at 0 rfl)
            have HG0 := Aside0.mk (blk_cell (M6.out.blk_at 1 rfl))
            have HB0 := Aside0.mk (blk_cell (M6.out.blk_at 0 rfl))
            unfold sc at cG
            obtain ⟨nl, hnl⟩ : ∃ nl, (xs.drop n).length = nl := ⟨_, rfl⟩
            have HNL := Aside0.mk hnl
            clear hnl
            have hm4 : (n : Int) ≤ (xs.length : Int) := by have := HNX.out; omega
            have hm5 : (n : Int) ≤ (c : Int) := by have := HNX.out; have := HLC.out; omega
            have hm6 : n ≤ xs.length := HNX.out
            have hm7 : n ≤ c := by have := HNX.out; have := HLC.out; omega
            by_cases hcn : c = n
            · skip
              have HCL := Aside0.mk (fun (w1 : World) (hM : Mem w0 w1 (blk wo.heap.size 41 #[.string k, .string ⟨#[]⟩] :: blk g 116 (sc s1.room (s2.l.length : Int) s1.top kv1 gm) :: mapS gm s1 hdr1 :: rowsS s1 hdr1 :: Y1 :: row kP 41 (.slice (some ap) P.length c2) P :: F)) => (by
                have hd := Kd.C_drop (c := c) (HCX.out _ _ hM) HNX.out HLC.out
                rw [if_pos hcn] at hd
                have hc := clone_calls A (c - n) (xs.drop n) w1 hd (by have := HXS.out; rw [List.length_drop]; omega)
                rw [List.length_drop] at hc
                exact hc : Calls Try.prog 84 #[.slice A (xs.length - n) (c - n)] w1 fun e w' => ∃ v : Value, e = .returned v ∧ Mem w1 w' [row kV 120 v (xs.drop n)]))
              have hcn2 : (c = n) = True := eq_true hcn
              clear hcn
              refine start_ (n := 11) (S := fun w' => (∀ j : Nat, w'.cell? ⟨g, j, none⟩ = wc.cell? ⟨g, j, none⟩) ∧ (∀ j : Nat, w'.cell? ⟨wo.heap.size, j, none⟩ = wc.cell? ⟨wo.heap.size, j, none⟩)) (ds := [10]) #[false, false, false, false, false, false, false, false, false, false, false] (by kernel_rfl) rfl rfl ⟨(fun j => rfl), (fun j => rfl)⟩ (fun hHeld => ?_)
              refine pure_ (i := 0) (N := some 74) (v := ?_) (a' := ?_) #[true, false, false, false, false, false, false, false, false, false, false] rfl rfl (by kernel_rfl) (fun _ _ _ h => h) (Or.inl ⟨by rfl, ?_⟩) ?_ ?_
              rotate_left
              · intro w'
                go_simp
                with_reducible rfl
              rotate_left
              · simp only [Act.put, List.setIfInBounds_toArray, List.set_cons_zero, List.set_cons_succ, i64_w, i32_w]
                rfl
              refine pure_ (i := 1) (N := some 75) (v := ?_) (a' := ?_) #[true, true, false, false, false, false, false, false, false, false, false] rfl rfl (by kernel_rfl) (fun _ _ _ h => h) (Or.inl ⟨by rfl, ?_⟩) ?_ ?_
              rotate_left
              · intro w'
                go_simp
                with_reducible rfl
              rotate_left
              · simp only [Act.put, List.setIfInBounds_toArray, List.set_cons_zero, List.set_cons_succ, i64_w, i32_w]
                rfl
              refine pure_ (i := 2) (N := some 76) (v := ?_) (a' := ?_) #[true, true, true, false, false, false, false, false, false, false, false] rfl rfl (by kernel_rfl) (fun _ _ _ h => h) (Or.inl ⟨by rfl, ?_⟩) ?_ ?_
              rotate_left
              · intro w'
                go_simp
                with_reducible rfl
              rotate_left
              · simp only [Act.put, List.setIfInBounds_toArray, List.set_cons_zero, List.set_cons_succ, i64_w, i32_w]
                rfl
              refine pure_ (i := 4) (N := some 78) (v := ?_) (a' := ?_) #[true, true, true, false, true, false, false, false, false, false, false] rfl rfl (by kernel_rfl) (fun _ _ _ h => h) (Or.inl ⟨by rfl, ?_⟩) ?_ ?_
              rotate_left
              · intro w'
                go_simp
                with_reducible rfl
              rotate_left
              · simp only [Act.put, List.setIfInBounds_toArray, List.set_cons_zero, List.set_cons_succ, i64_w, i32_w]
                rfl
              refine pure_ (i := 6) (N := some 80) (v := ?_) (a' := ?_) #[true, true, true, false, true, false, true, false, false, false, false] rfl rfl (by kernel_rfl) (fun _ _ _ h => h) (Or.inl ⟨by rfl, ?_⟩) ?_ ?_
              rotate_left
              · intro w'
                go_simp
                with_reducible rfl
              rotate_left
              · simp only [Act.put, List.setIfInBounds_toArray, List.set_cons_zero, List.set_cons_succ, i64_w, i32_w]
                rfl
              refine pure_ (i := 7) (N := some 81) (v := ?_) (a' := ?_) #[true, true, true, false, true, false, true, true, false, false, false] rfl rfl (by kernel_rfl) (fun _ _ _ h => h) (Or.inl ⟨by rfl, ?_⟩) ?_ ?_
              rotate_left
              · intro w'
                go_simp
                with_reducible rfl
              rotate_left
              · simp only [Act.put, List.setIfInBounds_toArray, List.set_cons_zero, List.set_cons_succ, i64_w, i32_w]
                rfl
              refine pure_ (i := 8) (N := some 82) (v := ?_) (a' := ?_) #[true, true, true, false, true, false, true, true, true, false, false] rfl rfl (by kernel_rfl) (fun _ _ _ h => h) (Or.inl ⟨by rfl, ?_⟩) ?_ ?_
              rotate_left
              · intro w'
                go_simp
                with_reducible rfl
              rotate_left
              · simp only [Act.put, List.setIfInBounds_toArray, List.set_cons_zero, List.set_cons_succ, i64_w, i32_w]
                rfl
              refine take_ (i := 3) (N := some 77) (v := ?_) (a' := ?_) #[true, true, true, true, true, false, true, true, true, false, false] rfl rfl (by kernel_rfl) (fun _ _ _ h => h) (Or.inl ⟨by rfl, ?_⟩) hHeld ?_ ?_
              rotate_left
              · rintro w' ⟨s0, s1⟩
                go_simp
                with_reducible rfl
              rotate_left
              · simp only [Act.put, List.setIfInBounds_toArray, List.set_cons_zero, List.set_cons_succ, i64_w, i32_w]
                rfl
              refine take_ (i := 5) (N := some 79) (v := ?_) (a' := ?_) #[true, true, true, true, true, true, true, true, true, false, false] rfl rfl (by kernel_rfl) (fun _ _ _ h => h) (Or.inl ⟨by rfl, ?_⟩) hHeld ?_ ?_
              rotate_left
              · rintro w' ⟨s0, s1⟩
                go_simp
                with_reducible rfl
              rotate_left
              · simp only [Act.put, List.setIfInBounds_toArray, List.set_cons_zero, List.set_cons_succ, i64_w, i32_w]
                rfl
              refine one_ (i := 9) (N := some 83) #[true, true, true, true, true, true, true, true, true, true, false] rfl rfl (by kernel_rfl) (by decide) (fun K hK => ?_)
              refine goes_ Try.func84 (by kernel_rfl) rfl #[.slice A (xs.length - n) (c - n)] (by rfl) rfl rfl (by simp only [List.map_toArray, List.map_cons, List.map_nil]; rfl) ?_
              with_reducible refine (HCL.out _ M6.out.drew).mono ?_
              rintro e w3 ⟨v1, rfl, hM⟩
              refine ⟨_, rfl, ?_⟩
              have M7 := Aside0.mk (M6.out.drew.trans hM)
              clear hM
              obtain ⟨B, d, he, _, _⟩ := M7.out.row_at 0 rfl
              rw [HNL.out] at he
              subst he
              refine hK.out _ _ ⟨(fun j => (blk_cell (M7.out.blk_at 2 rfl) j).trans (HG0.out j).symm), (fun j => (blk_cell (M7.out.blk_at 1 rfl) j).trans (HB0.out j).symm)⟩ (fun hHeld => ?_)
              clear hK K
              refine norm_ (a' := ?_) ?_ ?_
              rotate_left
              · show Act.put _ (some 83) _ = _
                simp only [Act.put, List.setIfInBounds_toArray, List.set_cons_zero, List.set_cons_succ, i64_w, i32_w]
                rfl
              refine last_ (i := 10) (N := none) #[true, true, true, true, true, true, true, true, true, true, true] rfl rfl (by kernel_rfl) (by decide) (fun K hK => ?_)
              obtain ⟨w7, hmu, hM⟩ := M7.out.map_put 3 rfl Try.underlying9 (t := 114) Try.underlying114 (by have := HKL.out; unfold maxLen; omega) HKS.out (.slice B nl d) (n' := (allKeys s1.l).length) ⟨fun _ => rfl, fun h => absurd HT.out.there h⟩ (S' := SK s1) (hdr' := hdrW hdr1 k (.slice B nl d)) (fun j => ⟨fun h => .inr h, fun h => h.elim (fun e => e ▸ HT.out.there) id⟩) (hdrW_same _ _ _) (fun j hj _ => hdrW_other _ _ hj)
              have M8 := Aside0.mk hM
              clear hM
              refine skip_ (w1 := ?_) (by rfl) rfl ?_ ?_
              rotate_left
              · go_simp
                rfl
              refine hK.out _ _ ?_
              clear hK K
              refine done_ (by kernel_rfl) ?_
              go_wp2_with fail
              go_meet
              case rel => exact ⟨_, M8⟩
            · skip
              have HCL := Aside0.mk (fun (w1 : World) (hM : Mem w0 w1 (blk wo.heap.size 41 #[.string k, .string ⟨#[]⟩] :: blk g 116 (sc s1.room (s2.l.length : Int) s1.top kv1 gm) :: mapS gm s1 hdr1 :: rowsS s1 hdr1 :: Y1 :: row kP 41 (.slice (some ap) P.length c2) P :: F)) => (by
                have hd := Kd.C_drop (c := c) (HCX.out _ _ hM) HNX.out HLC.out
                rw [if_neg hcn] at hd
                have hc := clone_calls (A.map (fun x => x.add (n * 3))) (c - n) (xs.drop n) w1 hd (by have := HXS.out; rw [List.length_drop]; omega)
                rw [List.length_drop] at hc
                exact hc : Calls Try.prog 84 #[.slice (A.map (fun x => x.add (n * 3))) (xs.length - n) (c - n)] w1 fun e w' => ∃ v : Value, e = .returned v ∧ Mem w1 w' [row kV 120 v (xs.drop n)]))
              refine start_ (n := 11) (S := fun w' => (∀ j : Nat, w'.cell? ⟨g, j, none⟩ = wc.cell? ⟨g, j, none⟩) ∧ (∀ j : Nat, w'.cell? ⟨wo.heap.size, j, none⟩ = wc.cell? ⟨wo.heap.size, j, none⟩)) (ds := [10]) #[false, false, false, false, false, false, false, false, false, false, false] (by kernel_rfl) rfl rfl ⟨(fun j => rfl), (fun j => rfl)⟩ (fun hHeld => ?_)
              refine pure_ (i := 0) (N := some 74) (v := ?_) (a' := ?_) #[true, false, false, false, false, false, false, false, false, false, false] rfl rfl (by kernel_rfl) (fun _ _ _ h => h) (Or.inl ⟨by rfl, ?_⟩) ?_ ?_
              rotate_left
              · intro w'
                go_simp
                with_reducible rfl
              rotate_left
              · simp only [Act.put, List.setIfInBounds_toArray, List.set_cons_zero, List.set_cons_succ, i64_w, i32_w]
                rfl
              refine pure_ (i := 1) (N := some 75) (v := ?_) (a' := ?_) #[true, true, false, false, false, false, false, false, false, false, false] rfl rfl (by kernel_rfl) (fun _ _ _ h => h) (Or.inl ⟨by rfl, ?_⟩) ?_ ?_
              rotate_left
              · intro w'
                go_simp
                with_reducible rfl
              rotate_left
              · simp only [Act.put, List.setIfInBounds_toArray, List.set_cons_zero, List.set_cons_succ, i64_w, i32_w]
                rfl
              refine pure_ (i := 2) (N := some 76) (v := ?_) (a' := ?_) #[true, true, true, false, false, false, false, false, false, false, false] rfl rfl (by kernel_rfl) (fun _ _ _ h => h) (Or.inl ⟨by rfl, ?_⟩) ?_ ?_
              rotate_left
              · intro w'
                go_simp
                with_reducible rfl
              rotate_left
              · simp only [Act.put, List.setIfInBounds_toArray, List.set_cons_zero, List.set_cons_succ, i64_w, i32_w]
                rfl
              refine pure_ (i := 4) (N := some 78) (v := ?_) (a' := ?_) #[true, true, true, false, true, false, false, false, false, false, false] rfl rfl (by kernel_rfl) (fun _ _ _ h => h) (Or.inl ⟨by rfl, ?_⟩) ?_ ?_
              rotate_left
              · intro w'
                go_simp
                with_reducible rfl
              rotate_left
              · simp only [Act.put, List.setIfInBounds_toArray, List.set_cons_zero, List.set_cons_succ, i64_w, i32_w]
                rfl
              refine pure_ (i := 6) (N := some 80) (v := ?_) (a' := ?_) #[true, true, true, false, true, false, true, false, false, false, false] rfl rfl (by kernel_rfl) (fun _ _ _ h => h) (Or.inl ⟨by rfl, ?_⟩) ?_ ?_
              rotate_left
              · intro w'
                go_simp
                with_reducible rfl
              rotate_left
              · simp only [Act.put, List.setIfInBounds_toArray, List.set_cons_zero, List.set_cons_succ, i64_w, i32_w]
                rfl
              refine pure_ (i := 7) (N := some 81) (v := ?_) (a' := ?_) #[true, true, true, false, true, false, true, true, false, false, false] rfl rfl (by kernel_rfl) (fun _ _ _ h => h) (Or.inl ⟨by rfl, ?_⟩) ?_ ?_
              rotate_left
              · intro w'
                go_simp
                with_reducible rfl
              rotate_left
              · simp only [Act.put, List.setIfInBounds_toArray, List.set_cons_zero, List.set_cons_succ, i64_w, i32_w]
                rfl
              refine pure_ (i := 8) (N := some 82) (v := ?_) (a' := ?_) #[true, true, true, false, true, false, true, true, true, false, false] rfl rfl (by kernel_rfl) (fun _ _ _ h => h) (Or.inl ⟨by rfl, ?_⟩) ?_ ?_
              rotate_left
              · intro w'
                go_simp
                with_reducible rfl
              rotate_left
              · simp only [Act.put, List.setIfInBounds_toArray, List.set_cons_zero, List.set_cons_succ, i64_w, i32_w]
                rfl
              refine take_ (i := 3) (N := some 77) (v := ?_) (a' := ?_) #[true, true, true, true, true, false, true, true, true, false, false] rfl rfl (by kernel_rfl) (fun _ _ _ h => h) (Or.inl ⟨by rfl, ?_⟩) hHeld ?_ ?_
              rotate_left
              · rintro w' ⟨s0, s1⟩
                go_simp
                with_reducible rfl
              rotate_left
              · simp only [Act.put, List.setIfInBounds_toArray, List.set_cons_zero, List.set_cons_succ, i64_w, i32_w]
                rfl
              refine take_ (i := 5) (N := some 79) (v := ?_) (a' := ?_) #[true, true, true, true, true, true, true, true, true, false, false] rfl rfl (by kernel_rfl) (fun _ _ _ h => h) (Or.inl ⟨by rfl, ?_⟩) hHeld ?_ ?_
              rotate_left
              · rintro w' ⟨s0, s1⟩
                go_simp
                with_reducible rfl
              rotate_left
              · simp only [Act.put, List.setIfInBounds_toArray, List.set_cons_zero, List.set_cons_succ, i64_w, i32_w]
                rfl
              refine one_ (i := 9) (N := some 83) #[true, true, true, true, true, true, true, true, true, true, false] rfl rfl (by kernel_rfl) (by decide) (fun K hK => ?_)
              refine goes_ Try.func84 (by kernel_rfl) rfl #[.slice (A.map (fun x => x.add (n * 3))) (xs.length - n) (c - n)] (by rfl) rfl rfl (by simp only [List.map_toArray, List.map_cons, List.map_nil]; rfl) ?_
              with_reducible refine (HCL.out _ M6.out.drew).mono ?_
              rintro e w3 ⟨v1, rfl, hM⟩
              refine ⟨_, rfl, ?_⟩
              have M7 := Aside0.mk (M6.out.drew.trans hM)
              clear hM
              obtain ⟨B, d, he, _, _⟩ := M7.out.row_at 0 rfl
              rw [HNL.out] at he
              subst he
              refine hK.out _ _ ⟨(fun j => (blk_cell (M7.out.blk_at 2 rfl) j).trans (HG0.out j).symm), (fun j => (blk_cell (M7.out.blk_at 1 rfl) j).trans (HB0.out j).symm)⟩ (fun hHeld => ?_)
              clear hK K
              refine norm_ (a' := ?_) ?_ ?_
              rotate_left
              · show Act.put _ (some 83) _ = _
                simp only [Act.put, List.setIfInBounds_toArray, List.set_cons_zero, List.set_cons_succ, i64_w, i32_w]
                rfl
              refine last_ (i := 10) (N := none) #[true, true, true, true, true, true, true, true, true, true, true] rfl rfl (by kernel_rfl) (by decide) (fun K hK => ?_)
              obtain ⟨w7, hmu, hM⟩ := M7.out.map_put 3 rfl Try.underlying9 (t := 114) Try.underlying114 (by have := HKL.out; unfold maxLen; omega) HKS.out (.slice B nl d) (n' := (allKeys s1.l).length) ⟨fun _ => rfl, fun h => absurd HT.out.there h⟩ (S' := SK s1) (hdr' := hdrW hdr1 k (.slice B nl d)) (fun j => ⟨fun h => .inr h, fun h => h.elim (fun e => e ▸ HT.out.there) id⟩) (hdrW_same _ _ _) (fun j hj _ => hdrW_other _ _ hj)
              have M8 := Aside0.mk hM
              clear hM
              refine skip_ (w1 := ?_) (by rfl) rfl ?_ ?_
              rotate_left
              · go_simp
                rfl
              refine hK.out _ _ ?_
              clear hK K
              refine done_ (by kernel_rfl) ?_
              go_wp2_with fail
              go_meet
              case rel => exact ⟨_, M8⟩
          case rest =>
          obtain ⟨v1, M8⟩ := hcut
          clear M6
          by_cases he : n = xs.length
          · have q1 : ((n : Int) == (xs.length : Int)) = true := beq_iff_eq.2 (by omega)
            have q2 : (n == xs.length) = true := beq_iff_eq.2 he
            have q3 : (n = xs.length) = True := eq_true he
            have q4 : ((n : Int) = (xs.length : Int)) = True := eq_true (by omega)
            have HE := Aside0.mk (show n = (xsV s1 k).length by rw [hxs.out]; exact he)
            clear he
            have cG := blk_cell (M8.out.blk_at 2 rfl)
            have cB := blk_cell (M8.out.blk_at 1 rfl)
            unfold sc at cG
            go_upto_region 16 with (fail)
            refine start_ (n := 7) (S := fun w' => (∀ j : Nat, w'.cell? ⟨g, j, none⟩ = wc.cell? ⟨g, j, none⟩) ∧ (∀ j : Nat, w'.cell? ⟨wo.heap.size, j, none⟩ = wc.cell? ⟨wo.heap.size, j, none⟩)) (ds := [6]) #[false, false, false, false, false, false, false] (by kernel_rfl) rfl rfl ⟨(fun j => rfl), (fun j => rfl)⟩ (fun hHeld => ?_)
            refine pure_ (i := 0) (N := some 88) (v := ?_) (a' := ?_) #[true, false, false, false, false, false, false] rfl rfl (by kernel_rfl) (fun _ _ _ h => h) (Or.inl ⟨by rfl, ?_⟩) ?_ ?_
            rotate_left
            · intro w'
              go_simp
              with_reducible rfl
            rotate_left
            · simp only [Act.put, List.setIfInBounds_toArray, List.set_cons_zero, List.set_cons_succ, i64_w, i32_w]
              rfl
            refine pure_ (i := 1) (N := some 89) (v := ?_) (a' := ?_) #[true, true, false, false, false, false, false] rfl rfl (by kernel_rfl) (fun _ _ _ h => h) (Or.inl ⟨by rfl, ?_⟩) ?_ ?_
            rotate_left
            · intro w'
              go_simp
              with_reducible rfl
            rotate_left
            · simp only [Act.put, List.setIfInBounds_toArray, List.set_cons_zero, List.set_cons_succ, i64_w, i32_w]
              rfl
            refine pure_ (i := 2) (N := some 90) (v := ?_) (a' := ?_) #[true, true, true, false, false, false, false] rfl rfl (by kernel_rfl) (fun _ _ _ h => h) (Or.inl ⟨by rfl, ?_⟩) ?_ ?_
            rotate_left
            · intro w'
              go_simp
              with_reducible rfl
            rotate_left
            · simp only [Act.put, List.setIfInBounds_toArray, List.set_cons_zero, List.set_cons_succ, i64_w, i32_w]
              rfl
            refine pure_ (i := 4) (N := some 92) (v := ?_) (a' := ?_) #[true, true, true, false, true, false, false] rfl rfl (by kernel_rfl) (fun _ _ _ h => h) (Or.inl ⟨by rfl, ?_⟩) ?_ ?_
            rotate_left
            · intro w'
              go_simp
              with_reducible rfl
            rotate_left
            · simp only [Act.put, List.setIfInBounds_toArray, List.set_cons_zero, List.set_cons_succ, i64_w, i32_w]
              rfl
            refine take_ (i := 3) (N := some 91) (v := ?_) (a' := ?_) #[true, true, true, true, true, false, false] rfl rfl (by kernel_rfl) (fun _ _ _ h => h) (Or.inl ⟨by rfl, ?_⟩) hHeld ?_ ?_
            rotate_left
            · rintro w' ⟨s0, s1⟩
              go_simp
              with_reducible rfl
            rotate_left
            · simp only [Act.put, List.setIfInBounds_toArray, List.set_cons_zero, List.set_cons_succ, i64_w, i32_w]
              rfl
            refine take_ (i := 5) (N := some 93) (v := ?_) (a' := ?_) #[true, true, true, true, true, true, false] rfl rfl (by kernel_rfl) (fun _ _ _ h => h) (Or.inl ⟨by rfl, ?_⟩) hHeld ?_ ?_
            rotate_left
            · rintro w' ⟨s0, s1⟩
              go_simp
              with_reducible rfl
            rotate_left
            · simp only [Act.put, List.setIfInBounds_toArray, List.set_cons_zero, List.set_cons_succ, i64_w, i32_w]
              rfl
            refine last_ (i := 6) (N := none) #[true, true, true, true, true, true, true] rfl rfl (by kernel_rfl) (by decide) (fun K hK => ?_)
            obtain ⟨w7, hmu, hM⟩ := M8.out.drew.map_del 3 rfl Try.underlying9 (t := 114) Try.underlying114 HKS.out HT.out.there 0 (S' := SK s2) (n' := (allKeys s2.l).length) (HT.out.away_len HE.out) (fun j => HT.out.away_sk HE.out j)
            have M9 := Aside0.mk hM
            clear hM
            refine value_ (w1 := ?_) (v := ?_) (by rfl) rfl ?_ ?_
            rotate_left 2
            · go_simp
              constructor
              · rfl
              · rfl
            refine hK.out _ _ ?_
            clear hK K
            refine done_ (by kernel_rfl) ?_
            clear cG cB q1 q2 q3 q4
            have cG := blk_cell (M9.out.blk_at 2 rfl)
            have cB := blk_cell (M9.out.blk_at 1 rfl)
            unfold sc at cG
            go_upto_region 17 with (fail)
            refine start_ (n := 11) (S := fun w' => (∀ j : Nat, w'.cell? ⟨g, j, none⟩ = w7.cell? ⟨g, j, none⟩) ∧ (∀ j : Nat, w'.cell? ⟨wo.heap.size, j, none⟩ = w7.cell? ⟨wo.heap.size, j, none⟩)) (ds := [7, 10]) #[false, false, false, false, false, false, false, false, false, false, false] (by kernel_rfl) rfl rfl ⟨(fun j => rfl), (fun j => rfl)⟩ (fun hHeld => ?_)
            refine pure_ (i := 0) (N := some 94) (v := ?_) (a' := ?_) #[true, false, false, false, false, false, false, false, false, false, false] rfl rfl (by kernel_rfl) (fun _ _ _ h => h) (Or.inl ⟨by rfl, ?_⟩) ?_ ?_
            rotate_left
            · intro w'
              go_simp
              with_reducible rfl
            rotate_left
            · simp only [Act.put, List.setIfInBounds_toArray, List.set_cons_zero, List.set_cons_succ, i64_w, i32_w]
              rfl
            refine pure_ (i := 1) (N := some 95) (v := ?_) (a' := ?_) #[true, true, false, false, false, false, false, false, false, false, false] rfl rfl (by kernel_rfl) (fun _ _ _ h => h) (Or.inl ⟨by rfl, ?_⟩) ?_ ?_
            rotate_left
            · intro w'
              go_simp
              with_reducible rfl
            rotate_left
            · simp only [Act.put, List.setIfInBounds_toArray, List.set_cons_zero, List.set_cons_succ, i64_w, i32_w]
              rfl
            refine pure_ (i := 2) (N := some 96) (v := ?_) (a' := ?_) #[true, true, true, false, false, false, false, false, false, false, false] rfl rfl (by kernel_rfl) (fun _ _ _ h => h) (Or.inl ⟨by rfl, ?_⟩) ?_ ?_
            rotate_left
            · intro w'
              go_simp
              with_reducible rfl
            rotate_left
            · simp only [Act.put, List.setIfInBounds_toArray, List.set_cons_zero, List.set_cons_succ, i64_w, i32_w]
              rfl
            refine pure_ (i := 3) (N := some 97) (v := ?_) (a' := ?_) #[true, true, true, true, false, false, false, false, false, false, false] rfl rfl (by kernel_rfl) (fun _ _ _ h => h) (Or.inl ⟨by rfl, ?_⟩) ?_ ?_
            rotate_left
            · intro w'
              go_simp
              with_reducible rfl
            rotate_left
            · simp only [Act.put, List.setIfInBounds_toArray, List.set_cons_zero, List.set_cons_succ, i64_w, i32_w]
              rfl
            refine pure_ (i := 5) (N := some 99) (v := ?_) (a' := ?_) #[true, true, true, true, false, true, false, false, false, false, false] rfl rfl (by kernel_rfl) (fun _ _ _ h => h) (Or.inl ⟨by rfl, ?_⟩) ?_ ?_
            rotate_left
            · intro w'
              go_simp
              with_reducible rfl
            rotate_left
            · simp only [Act.put, List.setIfInBounds_toArray, List.set_cons_zero, List.set_cons_succ, i64_w, i32_w]
              rfl
            refine take_ (i := 4) (N := some 98) (v := ?_) (a' := ?_) #[true, true, true, true, true, true, false, false, false, false, false] rfl rfl (by kernel_rfl) (fun _ _ _ h => h) (Or.inl ⟨by rfl, ?_⟩) hHeld ?_ ?_
            rotate_left
            · rintro w' ⟨s0, s1⟩
              go_simp
              with_reducible rfl
            rotate_left
            · simp only [Act.put, List.setIfInBounds_toArray, List.set_cons_zero, List.set_cons_succ, i64_w, i32_w]
              rfl
            refine take_ (i := 6) (N := some 100) (v := ?_) (a' := ?_) #[true, true, true, true, true, true, true, false, false, false, false] rfl rfl (by kernel_rfl) (fun _ _ _ h => h) (Or.inl ⟨by rfl, ?_⟩) hHeld ?_ ?_
            rotate_left
            · rintro w' ⟨s0, s1⟩
              go_simp
              with_reducible rfl
            rotate_left
            · simp only [Act.put, List.setIfInBounds_toArray, List.set_cons_zero, List.set_cons_succ, i64_w, i32_w]
              rfl
            refine last_ (i := 7) (N := some 101) #[true, true, true, true, true, true, true, true, false, false, false] rfl rfl (by kernel_rfl) (by decide) (fun K hK => ?_)
            refine goes_ Try.func32 (by kernel_rfl) rfl #[kv1, .string k] (by rfl) rfl rfl (by simp only [List.map_toArray, List.map_cons, List.map_nil]; rfl) ?_
            with_reducible refine (keys_del HK1.out (sorted_allKeys _) HKL.out k (Mem.sel (ps := [_, _, _, _, _]) (F := Y1 :: _) [] 5 M9.out.drew rfl rfl)).mono ?_
            rintro e w8 ⟨vk, Z, rfl, hM, hKR⟩
            refine ⟨_, rfl, ?_⟩
            have M10 := Aside0.mk (M9.out.drew.trans hM)
            clear hM
            have HK2 := Aside0.mk hKR
            obtain ⟨A3, c3, ps3, rfl, _⟩ := hKR
            have cG3 := blk_cell (M10.out.blk_at 3 rfl)
            have fG3 := blk_frozen (M10.out.blk_at 3 rfl)
            unfold sc at cG3
            refine hK.out _ _ ?_
            clear hK K
            refine norm_ (a' := ?_) ?_ ?_
            rotate_left
            · show Act.put _ (some 101) _ = _
              simp only [Act.put, List.setIfInBounds_toArray, List.set_cons_zero, List.set_cons_succ, i64_w, i32_w]
              rfl
            refine pure_ (i := 8) (N := some 102) (v := ?_) (a' := ?_) #[true, true, true, true, true, true, true, true, true, false, false] rfl rfl (by kernel_rfl) (fun _ _ _ h => h) (Or.inl ⟨by rfl, ?_⟩) ?_ ?_
            rotate_left
            · intro w'
              go_simp
              with_reducible rfl
            rotate_left
            · simp only [Act.put, List.setIfInBounds_toArray, List.set_cons_zero, List.set_cons_succ, i64_w, i32_w]
              rfl
            refine pure_ (i := 9) (N := some 103) (v := ?_) (a' := ?_) #[true, true, true, true, true, true, true, true, true, true, false] rfl rfl (by kernel_rfl) (fun _ _ _ h => h) (Or.inl ⟨by rfl, ?_⟩) ?_ ?_
            rotate_left
            · intro w'
              go_simp
              with_reducible rfl
            rotate_left
            · simp only [Act.put, List.setIfInBounds_toArray, List.set_cons_zero, List.set_cons_succ, i64_w, i32_w]
              rfl
            refine last_ (i := 10) (N := none) #[true, true, true, true, true, true, true, true, true, true, true] rfl rfl (by kernel_rfl) (by decide) (fun K hK => ?_)
            refine skip_ (w1 := ?_) (by rfl) rfl ?_ ?_
            rotate_left
            · go_simp
              rfl
            refine hK.out _ _ ?_
            clear hK K
            refine done_ (by kernel_rfl) ?_
            go_wp2_with fail
            go_roundg (P.length - i)
            case measure => have := HK.out; omega
            case rel =>
              refine ⟨i + 1, by go_num, ⟨by omega, by have := HK.out; omega⟩, ⟨?_⟩⟩
              rw [HS2.out]
              exact rel_away (v := v1) (hdr' := hdr1) HT.out HE.out (M10.out.set 3 rfl 3 (.slice A3 ps3.length c3)) HK2.out
          · have q1 : ((n : Int) == (xs.length : Int)) = false := beq_eq_false_iff_ne.2 (by omega)
            have q2 : (n == xs.length) = false := beq_eq_false_iff_ne.2 he
            have q3 : ¬ n = xs.length := he
            have q4 : ¬ (n : Int) = (xs.length : Int) := by omega
            have HE := Aside0.mk (show n < (xsV s1 k).length by rw [hxs.out]; have := HNX.out; omega)
            clear he
            go_wp2_with fail
            go_roundg (P.length - i)
            case measure => have := HK.out; omega
            case rel =>
              refine ⟨i + 1, by go_num, ⟨by omega, by have := HK.out; omega⟩, ⟨?_⟩⟩
              rw [HS2.out]
              have M9 := M8.out
              rw [← hxs.out] at M9
              exact rel_stay HT.out HE.out M9 HK1.out
    · have hd1 : decide ((i : Int) < (P.length : Int)) = false := decide_eq_false (by omega)
      have hi1 : ((i : Int) < (P.length : Int)) = False := eq_false (by omega)
      have hi2 : (i < P.length) = False := eq_false hlt
      have he : i = (allKeys s.l).length := by have := HK.out.1; have := HPL.out; omega
      have HA2 := HA.out
      rw [he, part_end] at HA2
      clear he HA
      obtain ⟨kv', hdr', Y', hst⟩ := HA2
      have H2 := Aside0.mk hst
      have cG := blk_cell (hst.mem.blk_at 0 rfl)
      unfold sc at cG
      have hle : (trim s t).1.l.length ≤ s.l.length := (trimL_sub t s.l).length_le
      have hw : IntKind.i64.wrap ((s.l.length : Int) - ((trim s t).1.l.length : Int)) = (trim s t).2 := by
        show _ = (s.l.length : Int) - ((trim s t).1.l.length : Int)
        rw [show (s.l.length : Int) - ((trim s t).1.l.length : Int) = ((s.l.length - (trim s t).1.l.length : Nat) : Int) by omega]
        exact Tzw _ (by have := HN.out; omega)
      clear hst hlt hle
      obtain ⟨s3, hs3⟩ : ∃ s3, (trim s t).1 = s3 := ⟨_, rfl⟩
      obtain ⟨z3, hz3⟩ : ∃ z3, (trim s t).2 = z3 := ⟨_, rfl⟩
      rw [hs3] at H2 cG hw
      rw [hz3] at hw
      have HS3 := Aside0.mk hs3
      have HZ3 := Aside0.mk hz3
      clear hs3 hz3
      go_wp2_with fail
      go_ret
      rw [HS3.out, HZ3.out]
      exact ⟨rfl, StA.less ⟨kv', hdr', Y', H2.out⟩⟩
end
end Go.Proofs.Ytookpmdgoednfaa.Sq
