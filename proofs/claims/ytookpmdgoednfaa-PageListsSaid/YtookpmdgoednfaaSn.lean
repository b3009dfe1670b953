/- Walks: page.Scan. -/
import Derived.Test.YtookpmdgoednfaaPo
import Derived.Test.YtookpmdgoednfaaPs
import Derived.Test.YtookpmdgoednfaaGq
namespace Go.Proofs.Ytookpmdgoednfaa.Sn
open Go.RowKit Go.Proofs.YtookpmdgoednfaaW.PrintWords Go.Proofs.YtookpmdgoednfaaW.PrintLast Go.Proofs.YtookpmdgoednfaaW.PrintMore Go.Proofs.Ytookpmdgoednfaa.Mx Go.Proofs.Ytookpmdgoednfaa.PPagePuts Go.Proofs.Ytookpmdgoednfaa.Pa Go.Proofs.Ytookpmdgoednfaa.Ps
attribute [local go_sem high] Go.Proofs.Ytookpmdgoednfaa.Le.str_leq Go.Proofs.Ytookpmdgoednfaa.Le.str_gtr Go.Proofs.Ytookpmdgoednfaa.Le.str_geq
set_option linter.unusedVariables false
set_option linter.unusedSimpArgs false
set_option maxRecDepth 100000 in
set_option maxHeartbeats 8000000 in
theorem Scan_not (A : Option Addr) (c : Nat) (ps : List (List SP)) (lo hi : ByteArray) (n : Int) (w : World) (hl : Kd.C (Kd.slice 41 kP) w A ps.length ps) (hc : ps.length ≤ c) (k0 : Nat) (hR : page_Right.f k0 ps = some false) :
    Calls Try.prog 30 #[.slice A ps.length c, .string lo, .string hi, .int .i64 n] w fun e w' => ∃ v : Value, e = .returned v ∧ Mem w w' [row kP 41 v []] := by
  have HL := Aside0.mk hl
  have HC := Aside0.mk hc
  have HR := Aside0.mk hR
  have M0 := Aside0.mk (Mem.nil w)
  clear hl hc hR
  go_enter Try.func30, Try.ntmps30
  go_wp2
  go_step3
  go_wp2_with fail
  refine (page_Right.calls k0 A c ps false _ HL.out HC.out HR.out).mono ?_
  rintro e w1 ⟨rfl, hb⟩
  have M1 := Aside0.mk (M0.out.grow hb)
  clear hb
  go_wp2
  try rw [Exit.noGoto_ret]
  go_ret
  exact ⟨_, rfl, Mem.row_nil M1.out _ _⟩
set_option maxRecDepth 100000 in
set_option maxHeartbeats 8000000 in
theorem Scan_none (A : Option Addr) (c : Nat) (lo hi : ByteArray) (n : Int) (w : World) (hl : Kd.C (Kd.slice 41 kP) w A 0 []) (k0 : Nat) (hR : page_Right.f k0 [] = some true) :
    Calls Try.prog 30 #[.slice A 0 c, .string lo, .string hi, .int .i64 n] w fun e w' => ∃ v : Value, e = .returned v ∧ Mem w w' [row kP 41 v []] := by
  have HL := Aside0.mk hl
  have HR := Aside0.mk hR
  have M0 := Aside0.mk (Mem.nil w)
  clear hl hR
  go_enter Try.func30, Try.ntmps30
  go_wp2
  go_step3
  go_wp2_with fail
  refine (page_Right.calls k0 A c [] true _ HL.out (Nat.zero_le _) HR.out).mono ?_
  rintro e w1 ⟨rfl, hb⟩
  have M1 := Aside0.mk (M0.out.grow hb)
  clear hb
  go_wp2
  try rw [Exit.noGoto_ret]
  go_ret
  exact ⟨_, rfl, Mem.row_nil M1.out _ _⟩
set_option maxRecDepth 100000 in
set_option maxHeartbeats 8000000 in
theorem Scan_in (A : Option Addr) (c : Nat) (ps : List (List SP)) (lo hi : ByteArray) (n : Int) (w : World) (hl : Kd.C (Kd.slice 41 kP) w A ps.length ps) (hc : ps.length ≤ c) (k0 : Nat) (hR : page_Right.f k0 ps = some true) (hne : 0 < ps.length) (hn : ps.length ≤ 100000) (hpp : ∀ p ∈ ps, 0 < p.length ∧ p.length ≤ 8)
    (k : Nat) (hk : k ≤ ps.length) (h1 : ∀ t : Nat, t < k → Op.bytesLess lo.toList (fk (rd_L2 ps t)) = false) (h2 : ∀ t : Nat, k ≤ t → t < ps.length → Op.bytesLess lo.toList (fk (rd_L2 ps t)) = true)
    (res : List SP) (hres : Gq.pmore n lo hi [] (ps.drop (k - 1)).flatten = res) :
    Calls Try.prog 30 #[.slice A ps.length c, .string lo, .string hi, .int .i64 n] w fun e w' => ∃ v : Value, e = .returned v ∧ Mem w w' [row kP 41 v res] := by
  have HL := Aside0.mk hl
  have HC := Aside0.mk hc
  have HR := Aside0.mk hR
  have M0 := Aside0.mk (Mem.nil w)
  have HOF := Aside0.mk (fun (B : Option Addr) (d : Nat) (W : World) (hC : Kd.C (Kd.slice 41 kP) W B ps.length ps) => of_calls B d ps lo W hC (by omega) (fun j hj => by
      have e : rd_L2 ps (j : Int) = ps[j] := by unfold rd_L2; simp [List.getD, hj]
      rw [e]
      exact (hpp _ (List.getElem_mem hj)).1) k hk h1 h2)
  have HPP := Aside0.mk hpp
  have HRES := Aside0.mk hres
  have hnz : ((ps.length : Int) == 0) = false := beq_eq_false_iff_ne.mpr (by omega)
  have hnz2 : ¬ (ps.length : Int) = 0 := by omega
  obtain ⟨ad, _, _, e, _⟩ := at_L2 hl 0 (by omega) (by omega)
  cases e
  obtain ⟨m, hmm⟩ : ∃ m, m = k - 1 := ⟨_, rfl⟩
  have HMM := Aside0.mk hmm
  have hm1 : m < ps.length := by omega
  have hm2 : m < c := by omega
  have hm3 : ¬ c = m := by omega
  have hm4 : (m : Int) ≤ (ps.length : Int) := by omega
  have hm5 : (m : Int) ≤ (c : Int) := by omega
  have hm6 : m ≤ ps.length := by omega
  have hm7 : m ≤ c := by omega
  clear hl hc hR hpp h1 h2 hk hne hres hmm
  go_enter Try.func30, Try.ntmps30
  go_wp2
  go_step3
  go_wp2_with fail
  refine (page_Right.calls k0 (some ad) c ps true _ HL.out HC.out HR.out).mono ?_
  rintro e w1 ⟨rfl, hb1⟩
  have M1 := Aside0.mk (M0.out.grow hb1)
  clear hb1
  go_wp2
  go_step3
  go_wp2_with fail
  refine (HOF.out (some ad) c _ (Kd.C_below HL.out M1.out.below)).mono ?_
  rintro e w2 ⟨rfl, hM⟩
  have M2 := Aside0.mk (M1.out.trans hM)
  clear hM
  rw [← HMM.out]
  go_wp2_with fail
  obtain ⟨q, hq⟩ : ∃ q, ps.length - m = q := ⟨_, rfl⟩
  rw [hq]
  have hq1 : m + q = ps.length := by omega
  have HQ1 := Aside0.mk hq1
  have hqb : q ≤ 100000 := by omega
  clear hq hq1 hm1 hm2 hm3 hm4 hm5 hm6 hm7 hn hnz hnz2 M1 M0
  go_loopg [9, 11, 13, 28] (q + 1) (fun kq v9 v11 v13 v28 w' => ∃ (i : Nat) (out : List SP), v28 = .int .i64 i ∧ Aside0 (i ≤ q ∧ kq = q + 1 - i) ∧ Aside0 (Gq.pmore n lo hi out (ps.drop (m + i)).flatten = res ∧ out.length ≤ 8 * i) ∧ Aside0 (Mem w w' [row kP 41 v9 out]))
  case atStart => exact ⟨0, [], rfl, ⟨by omega, by omega⟩, ⟨by rw [Nat.add_zero, HMM.out]; exact HRES.out, by simp⟩, ⟨Mem.row_nil M2.out _ _⟩⟩
  case round =>
    obtain ⟨i, out, rfl, HK, HP, M3⟩ := hrel
    clear M2
    by_cases hlt : i < q
    · have hd1 : decide ((i : Int) < (q : Int)) = true := decide_eq_true (by omega)
      have hib : i < 100000 := by omega
      have hmi : m + i < ps.length := by have := HQ1.out; omega
      obtain ⟨ad', A0, c0, e, hx, hc0, hC0⟩ := at_L2 HL.out ((m + i : Nat) : Int) (by omega) (by omega)
      cases e
      have hrd : rd_L2 ps ((m + i : Nat) : Int) = ps[m + i] := Py.rdL hmi
      rw [hrd] at hx hc0 hC0
      rw [Int.toNat_natCast] at hx
      have HD := Aside0.mk (show (ps.drop (m + i)).flatten = ps[m + i] ++ (ps.drop (m + (i + 1))).flatten by rw [List.drop_eq_getElem_cons hmi, List.flatten_cons, Nat.add_assoc])
      have hp8 := (HPP.out _ (List.getElem_mem hmi)).2
      generalize ps[m + i] = p at hx hc0 hC0 HD hp8
      have hxl := World.block_lt_of_cell? w _ hx
      have hx2 := (M3.out.below.cell hxl).trans hx
      rw [show ad.add (m + i) = (ad.add m).add i by unfold Addr.add; by_cases h1 : m = 0 <;> by_cases h2 : i = 0 <;> simp [h1, h2, Nat.add_assoc]] at hx2
      have hi1 : ((i : Int) < (q : Int)) = True := eq_true (by omega)
      have HC0 := Aside0.mk hC0
      clear hx hC0 hrd hxl
      go_wp2_with fail
      go_loopg [9, 13, 34, 38] (p.length + 1) (fun kr v9 v13 v34 v38 w'' => ∃ (j : Nat) (out' : List SP), v34 = .int .i64 j ∧ Aside0 (j ≤ p.length ∧ kr = p.length + 1 - j) ∧ Aside0 (Gq.pmore n lo hi out' (p.drop j ++ (ps.drop (m + (i + 1))).flatten) = res ∧ out'.length ≤ 8 * i + j) ∧ Aside0 (Mem w w'' [row kP 41 v9 out']))
      case atStart => exact ⟨0, out, rfl, ⟨by omega, by omega⟩, ⟨by rw [List.drop_zero, ← HD.out]; exact HP.out.1, by have := HP.out.2; omega⟩, M3⟩
      case round =>
        obtain ⟨j, out', rfl, HJ, HP2, M4⟩ := hrel
        clear M3 hx2
        by_cases hjt : j < p.length
        · have hd2 : decide ((j : Int) < (p.length : Int)) = true := decide_eq_true (by omega)
          have hjb : j < 100 := by omega
          obtain ⟨ap, e, hz0, hz1⟩ := at_T41 HC0.out (j : Int) (by omega) (by omega)
          cases e
          rw [Int.toNat_natCast] at hz0 hz1
          have HE := Aside0.mk (show p.drop j = rd_T41 p (j : Int) :: p.drop (j + 1) by rw [List.drop_eq_getElem_cons hjt, Py.rdT hjt])
          generalize rd_T41 p (j : Int) = x at hz0 hz1 HE
          have hzl0 := World.block_lt_of_cell? w _ hz0
          have hzl1 := World.block_lt_of_cell? w _ hz1
          have hy0 := (M4.out.below.cell hzl0).trans hz0
          have hy1 := (M4.out.below.cell hzl1).trans hz1
          have hj1 : ((j : Int) < (p.length : Int)) = True := eq_true (by omega)
          obtain ⟨A9, c9, e9, hc9, _⟩ := M4.out.row_at 0 rfl
          subst e9
          clear hz0 hz1 hzl0 hzl1 hc9
          have M5 := Aside0.mk (Mem.sel (ps := [_, _]) (F := []) [1] 2 (M4.out.allocAt #[.string x.f0, .string x.f1] 41 wr.heap.size rfl) rfl rfl)
          have MB := Aside0.mk ((M4.out.allocAt #[.string x.f0, .string x.f1] 41 wr.heap.size rfl).allocAt #[.string x.f0, .string x.f1] 41 (wr.heap.size + 1) (by simp))
          by_cases hfull : n ≤ (out'.length : Int)
          · have hd3 : decide (n ≤ (out'.length : Int)) = true := decide_eq_true hfull
            have H1 := Aside0.mk hfull
            clear hfull
            go_wp2_with fail
            try rw [Exit.noGoto_ret]
            go_ret
            have h5 := HP2.out.1
            rw [HE.out, List.cons_append, Gq.pm_full H1.out] at h5
            subst h5
            exact ⟨_, rfl, M5.out⟩
          · have hd3 : decide (n ≤ (out'.length : Int)) = false := decide_eq_false hfull
            have H1 := Aside0.mk hfull
            clear hfull
            cases hE : hi.toList.isEmpty with
            | true =>
              have hE2 : hi.toList = [] := by simpa using hE
              have hE3 : (!hi.toList.isEmpty) = false := by rw [hE]; rfl
              have H2 := Aside0.mk (show (hi.toList.isEmpty || Px.lt x.f0.toList hi.toList) = true by rw [hE]; rfl)
              cases hc : Op.bytesLess x.f0.toList lo.toList with
              | true =>
                have H3 := Aside0.mk hc
                have h3n : (!Op.bytesLess x.f0.toList lo.toList) = false := by rw [hc]; rfl
                go_wp2_with fail
                go_roundg (p.length - j)
                case measure => have := HJ.out; omega
                case rel =>
                  refine ⟨j + 1, out', by go_num, ⟨by omega, by omega⟩, ⟨?_, by have := HP2.out.2; omega⟩, M5⟩
                  have h5 := HP2.out.1
                  rw [HE.out, List.cons_append, Gq.pm_skip (by have := H1.out; omega) H2.out H3.out] at h5
                  exact h5
              | false =>
                have H3 := Aside0.mk hc
                have h3n : (!Op.bytesLess x.f0.toList lo.toList) = true := by rw [hc]; rfl
                have HLN := Aside0.mk (show (out'.length + 1) * 32 ≤ 140737488355328 by have := HP2.out.2; omega)
                go_wp2_with (((with_reducible refine gate_builtin (b := .append) (xs := #[.tmp 56, .tmp 58]) rfl ?_); at_builtin; refine Mem.app kP (Rr := fun y c => y = x ∧ c = [.string x.f0, .string x.f1]) MB.out 2 _ out' [x] rfl (.tmp 56) (.tmp 58) 32 41 _ _ rfl Try.underlying32 info41 rfl (by decide) (by omega) (some ⟨wr.heap.size + 1, 0, none⟩) 1 1 rfl rfl rfl (reads_one x (MB.out.blk_at 0 rfl) rfl) (fun y c h => by obtain ⟨rfl, rfl⟩ := h; exact flatP.mk_ _ _ _ y) HLN.out ?_; intro v1 w2 hM1; have M6 := Aside0.mk hM1; clear hM1))
                go_roundg (p.length - j)
                case measure => have := HJ.out; omega
                case rel =>
                  refine ⟨j + 1, out' ++ [x], by go_num, ⟨by omega, by omega⟩, ⟨?_, by rw [List.length_append, List.length_singleton]; have := HP2.out.2; omega⟩, ⟨Mem.sel (ps := [_, _, _]) (F := []) [2] 3 M6.out rfl rfl⟩⟩
                  have h5 := HP2.out.1
                  rw [HE.out, List.cons_append, Gq.pm_take (by have := H1.out; omega) H2.out H3.out] at h5
                  exact h5
            | false =>
              have hE2 : ¬ hi.toList = [] := by simpa using hE
              have hE3 : (!hi.toList.isEmpty) = true := by rw [hE]; rfl
              cases hb : Op.bytesLess x.f0.toList hi.toList with
              | false =>
                have hbn : (!Op.bytesLess x.f0.toList hi.toList) = true := by rw [hb]; rfl
                have H2 := Aside0.mk hE
                have H3 := Aside0.mk hb
                go_wp2_with fail
                try rw [Exit.noGoto_ret]
                go_ret
                have h5 := HP2.out.1
                rw [HE.out, List.cons_append, Gq.pm_end (by have := H1.out; omega) H2.out H3.out] at h5
                subst h5
                exact ⟨_, rfl, M5.out⟩
              | true =>
                have hbn : (!Op.bytesLess x.f0.toList hi.toList) = false := by rw [hb]; rfl
                have H2 := Aside0.mk (show (hi.toList.isEmpty || Px.lt x.f0.toList hi.toList) = true by rw [hE]; exact hb)
                cases hc : Op.bytesLess x.f0.toList lo.toList with
                | true =>
                  have H3 := Aside0.mk hc
                  have h3n : (!Op.bytesLess x.f0.toList lo.toList) = false := by rw [hc]; rfl
                  go_wp2_with fail
                  go_roundg (p.length - j)
                  case measure => have := HJ.out; omega
                  case rel =>
                    refine ⟨j + 1, out', by go_num, ⟨by omega, by omega⟩, ⟨?_, by have := HP2.out.2; omega⟩, M5⟩
                    have h5 := HP2.out.1
                    rw [HE.out, List.cons_append, Gq.pm_skip (by have := H1.out; omega) H2.out H3.out] at h5
                    exact h5
                | false =>
                  have H3 := Aside0.mk hc
                  have h3n : (!Op.bytesLess x.f0.toList lo.toList) = true := by rw [hc]; rfl
                  have HLN := Aside0.mk (show (out'.length + 1) * 32 ≤ 140737488355328 by have := HP2.out.2; omega)
                  go_wp2_with (((with_reducible refine gate_builtin (b := .append) (xs := #[.tmp 56, .tmp 58]) rfl ?_); at_builtin; refine Mem.app kP (Rr := fun y c => y = x ∧ c = [.string x.f0, .string x.f1]) MB.out 2 _ out' [x] rfl (.tmp 56) (.tmp 58) 32 41 _ _ rfl Try.underlying32 info41 rfl (by decide) (by omega) (some ⟨wr.heap.size + 1, 0, none⟩) 1 1 rfl rfl rfl (reads_one x (MB.out.blk_at 0 rfl) rfl) (fun y c h => by obtain ⟨rfl, rfl⟩ := h; exact flatP.mk_ _ _ _ y) HLN.out ?_; intro v1 w2 hM1; have M6 := Aside0.mk hM1; clear hM1))
                  go_roundg (p.length - j)
                  case measure => have := HJ.out; omega
                  case rel =>
                    refine ⟨j + 1, out' ++ [x], by go_num, ⟨by omega, by omega⟩, ⟨?_, by rw [List.length_append, List.length_singleton]; have := HP2.out.2; omega⟩, ⟨Mem.sel (ps := [_, _, _]) (F := []) [2] 3 M6.out rfl rfl⟩⟩
                    have h5 := HP2.out.1
                    rw [HE.out, List.cons_append, Gq.pm_take (by have := H1.out; omega) H2.out H3.out] at h5
                    exact h5
        · have hd2 : decide ((j : Int) < (p.length : Int)) = false := decide_eq_false (by omega)
          have hj2 : j = p.length := by have := HJ.out; omega
          have HP3 := Aside0.mk (show Gq.pmore n lo hi out' (ps.drop (m + (i + 1))).flatten = res by have h5 := HP2.out.1; rw [hj2, List.drop_length, List.nil_append] at h5; exact h5)
          clear hj2
          go_wp2_with fail
          go_roundg (q - i)
          case measure => have := HK.out; omega
          case rel => exact ⟨i + 1, out', by go_num, ⟨by omega, by omega⟩, ⟨HP3.out, by have := HP2.out.2; have := HJ.out; omega⟩, M4⟩
    · have hd1 : decide ((i : Int) < (q : Int)) = false := decide_eq_false (by omega)
      have hi2 : i = q := by have := HK.out; omega
      have HP3 := Aside0.mk (show out = res by have h5 := HP.out.1; rw [hi2, HQ1.out, List.drop_length] at h5; exact h5)
      clear hi2
      obtain ⟨A9, c9, e9, hc9, _⟩ := M3.out.row_at 0 rfl
      subst e9
      go_wp2_with fail
      try rw [Exit.noGoto_ret]
      go_ret
      rw [← HP3.out]
      exact ⟨_, rfl, M3.out⟩
end Go.Proofs.Ytookpmdgoednfaa.Sn
