/- Walks: PostKeeps. -/
import Derived.Test.YtlmbdcgciieikaaPk
import Derived.StillTailTactics
import Derived.Deep.RegionWith
import Derived.Deep.DeepCutAuto
namespace Go.Proofs.Ytlmbdcgciieikaa.Pm
open Go.Proofs.Ytlmbdcgciieikaa.Pu Go.Proofs.Ytlmbdcgciieikaa.Pd Go.Proofs.Ytlmbdcgciieikaa.Pt Go.Proofs.Ytlmbdcgciieikaa.Pw Go.Proofs.Ytlmbdcgciieikaa.Mp Go.Proofs.Ytlmbdcgciieikaa.Pl Go.Proofs.Ytlmbdcgciieikaa.Pb Go.Proofs.Ytlmbdcgciieikaa.Pk Go.RowKit Go.Proofs.YtlmbdcgciieikaaW.PrintWords Go.Proofs.YtlmbdcgciieikaaW.PrintLast Go.Proofs.YtlmbdcgciieikaaW.PrintMore Go.Proofs.Ytlmbdcgciieikaa.Mx Go.Proofs.Ytlmbdcgciieikaa.PPostAdds
set_option linter.unusedVariables false
set_option linter.unusedSimpArgs false
theorem pick (i : Int) (n : Nat) (hn : n ≤ 1000) : ∃ k : Nat, k < n + 1 ∧ wrap64 ((IntKind.u64.wrap i).tmod ((n : Int) + 1)) = k := by
  have h0 : 0 ≤ IntKind.u64.wrap i := by
    unfold IntKind.wrap
    simp [IntKind.bits, IntKind.signed]
    omega
  rw [Int.tmod_eq_emod_of_nonneg h0]
  have h1 := Int.emod_nonneg (IntKind.u64.wrap i) (b := (n : Int) + 1) (by omega)
  have h2 := Int.emod_lt_of_pos (IntKind.u64.wrap i) (b := (n : Int) + 1) (by omega)
  refine ⟨((IntKind.u64.wrap i) % ((n : Int) + 1)).toNat, by omega, ?_⟩
  rw [wrap64_id (by omega) (by omega)]
  omega
theorem wrapEq (x : Int) : IntKind.i64.wrap x = wrap64 x := by
  rw [IntKind.wrap_i64]
  unfold wrap64
  first | rfl | omega
theorem wrap_small {j : Nat} (h : j ≤ 100000) : wrap64 ((j : Int) + 1) = (j : Int) + 1 := wrap64_id (by omega) (by omega)
theorem erase_lt {l : List S29} {k j : Nat} (hk : k < l.length) (h : j < k) : rd_T29 (l.eraseIdx k) (j : Int) = rd_T29 l (j : Int) := by
  rw [rd_get (by rw [List.length_eraseIdx_of_lt hk]; omega), rd_get (by omega)]
  rw [List.getElem_eraseIdx_of_lt _ h]
theorem erase_ge {l : List S29} {k j : Nat} (hk : k < l.length) (h : k ≤ j) (hj : j + 1 < l.length) : rd_T29 (l.eraseIdx k) (j : Int) = rd_T29 l ((j : Int) + 1) := by
  rw [rd_get (by rw [List.length_eraseIdx_of_lt hk]; omega), show ((j : Int) + 1) = ((j + 1 : Nat) : Int) by push_cast; rfl, rd_get hj]
  rw [List.getElem_eraseIdx_of_ge _ h]
theorem take_C {w : World} {A : Option Addr} {l : List S29} {m : S29} (h : Kd.C k29 w A (l ++ [m]).length (l ++ [m])) : Kd.C k29 w A l.length l := by
  obtain ⟨h1, h2, h3⟩ := h
  refine ⟨rfl, by rw [List.length_append] at h2; omega, fun hp => ?_⟩
  obtain ⟨ad, e, hc⟩ := h3 (by rw [List.length_append]; omega)
  refine ⟨ad, e, fun j p hj => hc j p ?_⟩
  rw [List.getElem?_append_left (List.getElem?_eq_some_iff.1 hj).1]
  exact hj
/-- Two slices of one message each, of the same message: found equal. -/
theorem one_same {w : World} {A B : Option Addr} {x : S29} (c d : Nat) (hx : x.f7.length ≤ 1000000000) (hA : Kd.C k29 w A 1 [x]) (hB : Kd.C k29 w B 1 [x]) :
    Calls Try.prog 10 #[.slice A 1 c, .slice B 1 d] w fun e w' => e = .returned (.bool true) ∧ Mem w w' [] :=
  messages_calls A B c d [x] w hA hB (by simp) (fun i => by
    unfold rd_T29
    rw [List.getD_eq_getElem?_getD]
    cases i.toNat with
    | zero => simpa using hx
    | succ n => simp; decide)
theorem last_same (wa : World) (a3 : Addr) (c : Nat) (l : List S29) (m : S29) (B : Option Addr) (d : Nat) (hC : Kd.C k29 wa (some a3) (l ++ [m]).length (l ++ [m])) (hm : Kd.C k48 wa B m.f7.length m.f7) (hd : m.f7.length ≤ d) (hl : m.f7.length ≤ 1000000000) :
    Calls Try.prog 10 #[.slice (some (a3.add (l.length * 8))) 1 c, .slice (some ⟨wa.heap.size, 0, none⟩) 1 1] (wa.alloc (Obj.cells (@cells_ B d m).toArray 29)) fun e w' => e = .returned (.bool true) ∧ Mem wa w' [blk wa.heap.size 29 (@cells_ B d m).toArray] := by
  have hM := (Mem.nil wa).alloc (@cells_ B d m).toArray 29
  have h1 := sub_C (Kd.C_below hC hM.below) l.length (by simp)
  rw [rd_get (by simp)] at h1
  simp only [List.getElem_concat_length] at h1
  exact (one_same c 1 hl h1 (one_CC (hM.blk_at 0 rfl) hd (Kd.C_below hm hM.below))).mono fun e w' h => ⟨h.1, hM.trans h.2⟩
set_option maxRecDepth 100000 in
set_option maxHeartbeats 4000000 in
theorem keeps_calls (A B : Option Addr) (c d : Nat) (l : List S29) (m : S29) (i : Int) (w : World) (hl : Kd.C k29 w A l.length l) (hc : l.length ≤ c) (hm : Kd.C k48 w B m.f7.length m.f7) (hd : m.f7.length ≤ d) :
    Calls Try.prog 5 #[.slice A l.length c, .agg (@cells_ B d m).toArray, .int .i64 i] w fun e w' => e = .returned (.bool true) ∧ Mem w w' [] := by
  have HL := Aside0.mk hl
  have HC := Aside0.mk hc
  have HM := Aside0.mk hm
  have HD := Aside0.mk hd
  clear hl hc hm hd
  obtain ⟨r, hr, hf⟩ := heavy_f l
  have M0 := Aside0.mk ((Mem.nil w).alloc (@cells_ B d m).toArray 29)
  have HR := Aside0.mk hr
  have HF := Aside0.mk hf
  clear hr hf
  unfold cells_
  go_enter Try.func5, Try.ntmps5
  go_wp2_with fail
  refine (falseworklaw9_heavy.calls _ _ _ l r _ (Kd.C_below HL.out M0.out.below) HC.out HR.out).mono ?_
  rintro e w1 ⟨rfl, hb⟩
  have M1 := Aside0.mk (M0.out.grow hb)
  clear hb
  have cB := blk_cell (M1.out.blk_at 0 rfl)
  simp only [cells_] at cB
  cases r with
  | true =>
    go_wp2_with fail
    refine (awake_calls _).mono ?_
    rintro e w2 ⟨rfl, hA⟩
    have M2 := Aside0.mk (M1.out.trans hA)
    clear hA
    go_wp2
    go_ret
    exact ⟨rfl, Mem.sel (ps := [_]) (F := []) [] 1 M2.out rfl rfl⟩
  | false =>
  have l1 := HF.out (by first | trivial | rfl)
  have LL := Aside0.mk l1
  have hn := l1.1
  clear l1
  by_cases hg : 400 ≤ l.length
  · have hg1 : decide (400 ≤ (l.length : Int)) = true := decide_eq_true (by omega)
    go_wp2_with fail
    refine (awake_calls _).mono ?_
    rintro e w2 ⟨rfl, hA⟩
    have M2 := Aside0.mk (M1.out.trans hA)
    clear hA
    go_wp2
    go_ret
    exact ⟨rfl, Mem.sel (ps := [_]) (F := []) [] 1 M2.out rfl rfl⟩
  by_cases hg' : 1000 < m.f7.length
  · have hg1 : decide (400 ≤ (l.length : Int)) = false := decide_eq_false (by omega)
    have hg2 : decide (1000 < (m.f7.length : Int)) = true := decide_eq_true (by omega)
    go_wp2_with fail
    refine (awake_calls _).mono ?_
    rintro e w2 ⟨rfl, hA⟩
    have M2 := Aside0.mk (M1.out.trans hA)
    clear hA
    go_wp2
    go_ret
    exact ⟨rfl, Mem.sel (ps := [_]) (F := []) [] 1 M2.out rfl rfl⟩
  have hg1 : decide (400 ≤ (l.length : Int)) = false := decide_eq_false (by omega)
  have hg2 : decide (1000 < (m.f7.length : Int)) = false := decide_eq_false (by omega)
  have LM : Aside0 (Light [m]) := ⟨⟨by simp, fun x hx => by obtain rfl : x = m := (by simpa using hx); omega⟩⟩
  have had : added l [m] = l ++ [m] := by
    unfold added room
    rw [show min [m].length (400 - l.length) = 1 by simp; omega]
    rfl
  go_wp2_with fail
  have M2 := Aside0.mk (M1.out.alloc (@cells_ B d m).toArray 29)
  have hadd := Add_f l [m] LL.out LM.out
  rw [had] at hadd
  refine (post_Add.calls 2000 _ _ l _ _ [m] (l ++ [m]) _ (Kd.C_below HL.out M2.out.below) HC.out (one_CC (M2.out.blk_at 0 rfl) HD.out (Kd.C_below HM.out M2.out.below)) (by show 1 ≤ 1; omega) hadd).mono ?_
  rintro e w3 ⟨v, rfl, hN, hb⟩
  have N3 := Aside0.mk hN
  have B3 := Aside0.mk hb
  have M3 := Aside0.mk (M2.out.grow hb)
  clear hN hb hadd
  obtain ⟨A3, c3, he⟩ := Kd.N_slice N3.out
  subst he
  obtain ⟨a3, e3, _⟩ := (Kd.N_reads' N3.out).2.2.2.2 (by rw [List.length_append, List.length_singleton]; omega)
  subst e3
  rw [List.length_append, List.length_singleton]
  obtain ⟨k, hk, hkk⟩ := pick i l.length (by omega)
  go_wp2_with fail
  rw [hkk]
  have hlen : (l ++ [m]).length = l.length + 1 := by simp
  obtain ⟨x, hx⟩ : ∃ x, rd_T29 (l ++ [m]) (k : Int) = x := ⟨_, rfl⟩
  have LA : Aside0 (Light (l ++ [m])) := ⟨⟨by omega, fun y hy => by
    rcases List.mem_append.1 hy with h | h
    · exact LL.out.2 y h
    · exact LM.out.2 y h⟩⟩
  have hT := take_ok (some a3) c3 (l ++ [m]) k x w3 (Kd.N_reads' N3.out).2.2 (Kd.N_reads' N3.out).2.1 (by omega) hx (by omega) (fun y hy => by have := LA.out.2 y hy; omega)
  rw [hlen] at hT
  refine hT.mono ?_
  clear hT
  rintro e w4 ⟨v7, v, rfl, hM⟩
  have B4 := Aside0.mk hM.below
  have M4 := Aside0.mk (M3.out.trans hM)
  clear hM
  obtain ⟨A7, c7, he7, h7, g7⟩ := M4.out.row_at 1 rfl
  obtain ⟨A8, c8, he8, h8, g8⟩ := M4.out.row_at 0 rfl
  subst he7; subst he8
  have hlen2 : ((l ++ [m]).eraseIdx k).length = l.length := by rw [List.length_eraseIdx_of_lt (by omega), hlen]; rfl
  rw [hlen2] at h8 g8
  rw [hlen2]
  have ll0 : ((l.length : Int) != (l.length : Int)) = false := by simp
  go_wp2_with fail
  refine (falseworklaw9_num.calls 0 0 _ rfl).mono ?_
  rintro e w5 ⟨rfl, hD⟩
  have M5 := Aside0.mk ((M4.out.allocAt (@cells_ A7 c7 x).toArray 29 _ rfl).drawn hD)
  have B5 : Aside0 (Below w3.heap.size w3 w5) := ⟨by
    obtain ⟨q, rfl⟩ := hD.out
    exact pw_below_drewN (below_alloc B4.out _) q⟩
  clear hD
  go_wp2_with fail
  go_loopg [12, 13] (l.length + 1) (fun kq v12 v13 w' => ∃ (j : Nat), v12 = .int .i64 j ∧ Aside0 (j ≤ l.length ∧ kq = l.length + 1 - j) ∧ Aside0 (Below w3.heap.size w3 w') ∧ Aside0 (Mem w w' [blk w4.heap.size 29 (@cells_ A7 c7 x).toArray, row k29 29 (.slice A8 ((l ++ [m]).eraseIdx k).length c8) ((l ++ [m]).eraseIdx k), row k48 48 (.slice A7 x.f7.length c7) x.f7, blk w1.heap.size 29 (@cells_ B d m).toArray, blk w.heap.size 29 (@cells_ B d m).toArray]))
  case atStart => exact ⟨0, rfl, ⟨Nat.zero_le _, rfl⟩, B5, M5⟩
  case round =>
    obtain ⟨j, rfl, HK, B6, M6⟩ := hrel
    by_cases hj : j < l.length
    · have hj1 : decide ((j : Int) < (l.length : Int)) = true := decide_eq_true (by omega)
      have g6 := M6.out.row_C 1 rfl
      obtain ⟨a8, e8, _⟩ := g6.2.2 (by rw [hlen2]; omega)
      subst e8
      have G6 := Aside0.mk g6
      clear g6
      have hn0 : l.length ≤ 1000 := hn
      have hc3 : (l ++ [m]).length ≤ c3 := (Kd.N_reads' N3.out).2.1
      have H3 := Aside0.mk hc3
      clear hc3
      obtain ⟨q, hqk, hql, hqx⟩ : ∃ q : Nat, (q = if k ≤ j then j + 1 else j) ∧ q < l.length + 1 ∧ rd_T29 ((l ++ [m]).eraseIdx k) (j : Int) = rd_T29 (l ++ [m]) (q : Int) := by
        by_cases hkj : k ≤ j
        · refine ⟨j + 1, by rw [if_pos hkj], by omega, ?_⟩
          rw [erase_ge (by omega) hkj (by omega)]
          rfl
        · refine ⟨j, by rw [if_neg hkj], by omega, ?_⟩
          exact erase_lt (by omega) (by omega)
      have hw1 : wrap64 ((j : Int) + 1) = (j : Int) + 1 := wrap_small (Nat.le_trans (Nat.le_of_lt hj) (Nat.le_trans hn0 (by decide)))
      have hw2 : wrap64 ((q : Int) + 1) = (q : Int) + 1 := wrap_small (Nat.le_trans (Nat.le_of_lt_succ hql) (Nat.le_trans hn0 (by decide)))
      have HX := Aside0.mk hqx
      have HQ := Aside0.mk hql
      have HJ := Aside0.mk hj
      have W1 := Aside0.mk hw1
      have W2 := Aside0.mk hw2
      clear hqx hn0 hql hg hg' hw1 hw2
      by_cases hkj : k ≤ j
      · rw [if_pos hkj] at hqk
        have hk1 : decide ((k : Int) ≤ (j : Int)) = true := decide_eq_true (by omega)
        have HQ2 := Aside0.mk hqk
        clear hqk
        go_upto_region 16 with (fail)
        rw [show (j : Int) + 1 = (q : Int) by rw [HQ2.out]; rfl]
        have hn9 : l.length ≤ 1000 := hn
        have hq9 : q < l.length + 1 := HQ.out
        have hc9 : l.length + 1 ≤ c3 := by have := H3.out; rw [hlen] at this; exact this
        have hlA := Aside0.mk hlen
        have hlE := Aside0.mk hlen2
        clear hk1 hkj hg1 hg2 hlen hlen2 ll0 hk hn
        have s1 : (j : Int) ≤ (j : Int) + 1 := by omega
        have s2 : (0 : Int) ≤ (j : Int) + 1 := by omega
        have s3 : (j : Int) + 1 ≤ (c8 : Int) := by omega
        have s4 : (j : Int) + 1 ≤ (l.length : Int) := by omega
        have s5 : j + 1 ≤ c8 := by omega
        have s6 : j ≤ c8 := by omega
        have s7 : ¬ c8 = j := by omega
        have s8 : j + 1 ≤ l.length := by omega
        have q1 : (q : Int) ≤ (q : Int) + 1 := by omega
        have q2 : (0 : Int) ≤ (q : Int) + 1 := by omega
        have q3 : (q : Int) + 1 ≤ (c3 : Int) := by omega
        have q4 : (q : Int) + 1 ≤ (l.length : Int) + 1 := by omega
        have q5 : q + 1 ≤ c3 := by omega
        have q6 : q ≤ c3 := by omega
        have q7 : ¬ c3 = q := by omega
        have q8 : q + 1 ≤ l.length + 1 := by omega
        have hw1 := (wrapEq _).trans W1.out
        have hw2 := (wrapEq _).trans W2.out
        have HC9 := Aside0.mk hc9
        have HN9 := Aside0.mk hn9
        have H8 := Aside0.mk h8
        clear hq9 hc9 hn9 hj h8 h7
        go_still_tail 10, (by kernel_rfl)
        change wpList _ _ _ _ _ wr.drew
        have M7 := Aside0.mk M6.out.drew
        have B7 : Aside0 (Below w3.heap.size w3 wr.drew) := ⟨⟨B6.out.os, B6.out.tape, B6.out.output, B6.out.size, B6.out.block⟩⟩
        generalize wr.drew = w7 at *
        go_wp2_with fail
        refine (one_same _ _ (light_logs LA.out (q : Int)) (HX.out ▸ sub_C (M7.out.row_C 1 rfl) j (by rw [hlE.out]; exact HJ.out)) (sub_C (Kd.C_below (Kd.N_reads' N3.out).2.2 B7.out) q (by rw [hlA.out]; exact HQ.out))).mono ?_
        rintro e w8 ⟨rfl, hM8⟩
        have M8 := Aside0.mk (M7.out.trans hM8)
        have B8 := Aside0.mk (below_step B7.out hM8.below)
        clear hM8
        go_wp2
        go_roundg (l.length - j)
        case measure => have := HK.out; have := HJ.out; omega
        case rel => exact ⟨j + 1, by go_num, ⟨by have := HJ.out; omega, by have := HK.out; omega⟩, B8, M8⟩
      · rw [if_neg hkj] at hqk
        have hk1 : decide ((k : Int) ≤ (j : Int)) = false := decide_eq_false (by omega)
        have hqk9 := hqk.symm
        clear hqk
        subst hqk9
        go_upto_region 16 with (fail)
        have hn9 : l.length ≤ 1000 := hn
        have hq9 : j < l.length + 1 := HQ.out
        have hc9 : l.length + 1 ≤ c3 := by have := H3.out; rw [hlen] at this; exact this
        have hlA := Aside0.mk hlen
        have hlE := Aside0.mk hlen2
        clear hk1 hkj hg1 hg2 hlen hlen2 ll0 hk hn
        have s3 : (j : Int) + 1 ≤ (c8 : Int) := by omega
        have s4 : (j : Int) + 1 ≤ (l.length : Int) := by omega
        have s5 : j + 1 ≤ c8 := by omega
        have s6 : j ≤ c8 := by omega
        have s7 : ¬ c8 = j := by omega
        have s8 : j + 1 ≤ l.length := by omega
        have q1 : (j : Int) ≤ (j : Int) + 1 := by omega
        have q2 : (0 : Int) ≤ (j : Int) + 1 := by omega
        have q3 : (j : Int) + 1 ≤ (c3 : Int) := by omega
        have q4 : (j : Int) + 1 ≤ (l.length : Int) + 1 := by omega
        have q5 : j + 1 ≤ c3 := by omega
        have q6 : j ≤ c3 := by omega
        have q7 : ¬ c3 = j := by omega
        have q8 : j + 1 ≤ l.length + 1 := by omega
        have hw1 := (wrapEq _).trans W1.out
        have hw2 := (wrapEq _).trans W2.out
        have HC9 := Aside0.mk hc9
        have HN9 := Aside0.mk hn9
        have H8 := Aside0.mk h8
        clear hq9 hc9 hn9 hj h8 h7
        go_still_tail 10, (by kernel_rfl)
        change wpList _ _ _ _ _ wr.drew
        have M7 := Aside0.mk M6.out.drew
        have B7 : Aside0 (Below w3.heap.size w3 wr.drew) := ⟨⟨B6.out.os, B6.out.tape, B6.out.output, B6.out.size, B6.out.block⟩⟩
        generalize wr.drew = w7 at *
        go_wp2_with fail
        refine (one_same _ _ (light_logs LA.out (j : Int)) (HX.out ▸ sub_C (M7.out.row_C 1 rfl) j (by rw [hlE.out]; exact HJ.out)) (sub_C (Kd.C_below (Kd.N_reads' N3.out).2.2 B7.out) j (by rw [hlA.out]; exact HQ.out))).mono ?_
        rintro e w8 ⟨rfl, hM8⟩
        have M8 := Aside0.mk (M7.out.trans hM8)
        have B8 := Aside0.mk (below_step B7.out hM8.below)
        clear hM8
        go_wp2
        go_roundg (l.length - j)
        case measure => have := HK.out; have := HJ.out; omega
        case rel => exact ⟨j + 1, by go_num, ⟨by have := HJ.out; omega, by have := HK.out; omega⟩, B8, M8⟩
    · have hje : j = l.length := by have := HK.out.1; omega
      subst hje
      have hc3 : (l ++ [m]).length ≤ c3 := (Kd.N_reads' N3.out).2.1
      rw [hlen] at hc3
      have LAST := Aside0.mk (show rd_T29 (l ++ [m]) (l.length : Int) = m by
        rw [rd_get (by omega)]
        simp)
      have hw1 : IntKind.i64.wrap ((k : Int) + 1) = (k : Int) + 1 := (wrapEq _).trans (wrap_small (by omega))
      have c9 := blk_cell (M6.out.blk_at 0 rfl)
      have c4 := blk_cell (M6.out.blk_at 4 rfl)
      unfold cells_ at c9 c4
      have H77 := Aside0.mk h7
      clear cB hkk hg hg' hg1 hg2 hlen2 h8 h7 hj had
      go_upto_region 18 with (fail)
      have s1 : (k : Int) ≤ (k : Int) + 1 := by omega
      have s2 : (0 : Int) ≤ (k : Int) + 1 := by omega
      have s3 : (k : Int) + 1 ≤ (c3 : Int) := by omega
      have s4 : (k : Int) + 1 ≤ (l.length : Int) + 1 := by omega
      have s5 : k + 1 ≤ c3 := by omega
      have s6 : k ≤ c3 := by omega
      have s7 : ¬ c3 = k := by omega
      have s8 : k + 1 ≤ l.length + 1 := by omega
      have t1 : (l.length : Int) ≤ (l.length : Int) + 1 := by omega
      have t3 : (l.length : Int) + 1 ≤ (c3 : Int) := by omega
      have t5 : l.length + 1 ≤ c3 := by omega
      have t6 : l.length ≤ c3 := by omega
      have t7 : ¬ c3 = l.length := by omega
      have t8 : (l.length : Int) ≤ (c3 : Int) := by omega
      have t9 : ¬ c3 = 0 := by omega
      have M8 := Aside0.mk ((M6.out.allocAt (@cells_ A7 c7 x).toArray 29 _ rfl).drew)
      have B8 : Aside0 (Below w3.heap.size w3 (wr.alloc (Obj.cells (@cells_ A7 c7 x).toArray 29)).drew) := ⟨pw_below_drewN (below_alloc B6.out _) 1⟩
      have xl : x.f7.length ≤ 1000000000 := hx ▸ light_logs LA.out (k : Int)
      have XL := Aside0.mk xl
      have KL := Aside0.mk hk
      have HX := Aside0.mk hx
      have h7a := H77.out
      have hlA := Aside0.mk hlen
      have NL := Aside0.mk hn
      have HA1 : Aside0 (Kd.C k29 (wr.alloc (Obj.cells (@cells_ A7 c7 x).toArray 29)).drew (some ⟨wr.heap.size, 0, none⟩) 1 [x]) := ⟨one_CC (M8.out.blk_at 0 rfl) h7a (M8.out.row_C 3 rfl)⟩
      have HB1 : Aside0 (Kd.C k29 (wr.alloc (Obj.cells (@cells_ A7 c7 x).toArray 29)).drew (some (a3.add (k * 8))) 1 [x]) := ⟨hx ▸ sub_C (Kd.C_below (Kd.N_reads' N3.out).2.2 B8.out) k (by rw [hlen]; exact hk)⟩
      clear xl hk hx hlen hn
      unfold cells_ at HA1 HB1
      have CL3 := Aside0.mk (take_C (Kd.N_reads' N3.out).2.2)
      have ML := Aside0.mk (show m.f7.length ≤ 1000000000 by have := LM.out.2 m (by simp); omega)
      go_region_with (first
        | (go_at_call_of 10 k; refine (one_same _ _ XL.out HA1.out HB1.out).mono ?_; rintro e wa ⟨rfl, hMa⟩; have Ma := Aside0.mk (M8.out.trans hMa); have Ba := Aside0.mk (below_step B8.out hMa.below); clear hMa; have ca := blk_cell (Ma.out.blk_at 5 rfl); unfold cells_ at ca)
        | (go_at_call_of 10 A; refine (messages_calls _ _ _ _ l _ (Kd.C_below CL3.out Bb.out) (Kd.C_below HL.out Mb.out.below) (by have := NL.out; omega) (light_logs LL.out)).mono ?_; rintro e wc ⟨rfl, hMc⟩; have Mc := Aside0.mk (Mb.out.trans hMc); clear hMc)
        | (go_at_call 10; refine (last_same wa a3 _ l m B d (Kd.C_below (Kd.N_reads' N3.out).2.2 Ba.out) (Kd.C_below HM.out Ma.out.below) HD.out ML.out).mono ?_; rintro e wb ⟨rfl, hMb⟩; have Mb := Aside0.mk (Ma.out.trans hMb); have Bb := Aside0.mk (below_step Ba.out hMb.below); clear hMb)
        | (go_at_call 8; refine (awake_calls _).mono ?_; rintro e wd ⟨rfl, hMd⟩; have Md := Aside0.mk (Mc.out.trans hMd); clear hMd)
        | (go_at_call 10; trace_state; fail))
      all_goals
        go_wp2
        go_ret
        exact ⟨rfl, Mem.sel (ps := [_, _, _, _, _, _, _]) (F := []) [] 7 Md.out rfl rfl⟩
end Go.Proofs.Ytlmbdcgciieikaa.Pm