/- Texts laid together: Sx, Sn, Gs, Sb, So. No condition. -/
import Derived.Test.YtookpmdgoednfaaYPz12
set_option linter.unusedVariables false
set_option linter.unusedSimpArgs false
set_option maxRecDepth 100000
set_option maxHeartbeats 8000000
namespace Go.Proofs.Ytookpmdgoednfaa.Sx
open Go.RowKit YtookpmdgoednfaaW.PrintWords YtookpmdgoednfaaW.PrintLast YtookpmdgoednfaaW.PrintMore Mx St Ks Sw Su Sv
theorem StA.less {w0 w : World} {g gm : Nat} {s : St} {Y : Res} {F : List Res} (h : StA w0 w g gm s (Y :: F)) : StA w0 w g gm s F := by
  obtain ⟨kv, hdr, Z, hm, hk⟩ := h
  refine ⟨kv, hdr, star [Z, Y], ?_, ?_⟩
  · have h1 : Mem w0 w (star [Z, Y] :: blk g 116 (sc s.room (s.l.length : Int) s.top kv gm) :: mapS gm s hdr :: rowsS s hdr :: F) := Mem.shut_star (L := [Z, Y]) (Mem.sel (ps := [_, _, _, _, _]) (F := F) [3, 4, 0, 1, 2] 5 hm rfl rfl)
    exact Mem.sel (ps := [_, _, _, _]) (F := F) [1, 2, 3, 0] 4 h1 rfl rfl
  · obtain ⟨A, c, ps, h1, h2, h3, h4, h5⟩ := hk
    exact ⟨A, c, ps, h1, h2, h3, h4, fun w'' hM => h5 w'' (Mem.open_star (L := [Z, Y]) hM)⟩
section
variable {w0 w : World} {F : List Res} {g gm : Nat} {s : St}
theorem mayT_b (s : St) (t : Int) : (decide (1 ≤ t) && decide (t < maxTime) && decide (s.top ≤ t)) = mayT s t := rfl
theorem Put_calls (hA : StA w0 w g gm s F) (hI : Inv s) (hn : s.l.length ≤ 300) (t : Int) {k : ByteArray} (hk : k.size ≤ maxLen) (val : ByteArray) :
    Calls Try.prog 37 #[.pointer (some ⟨g, 0, none⟩), .int .i64 t, .string k, .string val] w fun e w' => e = .returned (.int .i64 (put s ⟨k, t, val, false⟩).2) ∧ StA w0 w' g gm (put s ⟨k, t, val, false⟩).1 F := by
  obtain ⟨kv, hdr, Y, h⟩ := hA
  have H := Aside0.mk h
  clear h
  cases ht : mayT s t with
  | false =>
    have e : put s ⟨k, t, val, false⟩ = (s, 1) := by unfold put; rw [if_pos ht]
    rw [e]
    have HT := Aside0.mk ht
    clear ht e
    go_enter Try.func37, Try.ntmps37
    go_wp2_with fail
    refine (may_calls H.out.mem t).mono ?_
    rintro e w1 ⟨he, rfl⟩
    rw [mayT_b, HT.out] at he
    subst he
    go_wp2_with fail
    go_ret
    exact ⟨rfl, kv, hdr, Y, H.out⟩
  | true =>
    have HT := Aside0.mk ht
    clear ht
    go_enter Try.func37, Try.ntmps37
    go_wp2_with fail
    refine (may_calls H.out.mem t).mono ?_
    rintro e w1 ⟨he, rfl⟩
    rw [mayT_b, HT.out] at he
    subst he
    go_wp2_with fail
    refine (put_calls H.out hI ⟨k, t, val, false⟩ hn hk HT.out (fun h => by cases h.1)).mono ?_
    rintro e w2 ⟨rfl, hA⟩
    have HA := Aside0.mk (StA.less hA)
    clear hA
    go_wp2_with fail
    go_ret
    exact ⟨rfl, HA.out⟩
theorem Del_calls (hA : StA w0 w g gm s F) (hI : Inv s) (hn : s.l.length ≤ 300) (t : Int) {k : ByteArray} (hk : k.size ≤ maxLen) :
    Calls Try.prog 38 #[.pointer (some ⟨g, 0, none⟩), .int .i64 t, .string k] w fun e w' => e = .returned (.int .i64 (put s ⟨k, t, e0, true⟩).2) ∧ StA w0 w' g gm (put s ⟨k, t, e0, true⟩).1 F := by
  obtain ⟨kv, hdr, Y, h⟩ := hA
  have H := Aside0.mk h
  clear h
  cases ht : mayT s t with
  | false =>
    have e : put s ⟨k, t, e0, true⟩ = (s, 1) := by unfold put; rw [if_pos ht]
    rw [e]
    have HT := Aside0.mk ht
    clear ht e
    go_enter Try.func38, Try.ntmps38
    go_wp2_with fail
    refine (may_calls H.out.mem t).mono ?_
    rintro e w1 ⟨he, rfl⟩
    rw [mayT_b, HT.out] at he
    subst he
    go_wp2_with fail
    go_ret
    exact ⟨rfl, kv, hdr, Y, H.out⟩
  | true =>
    obtain ⟨A, c, hrun, hl, hC, _, _⟩ := lookS H.out.mem 1 2 rfl rfl hk
    have cG := blk_cell (H.out.mem.blk_at 0 rfl)
    unfold sc at cG
    have hlen := list_len hn k
    rcases last_is s k with ⟨e, _, hc⟩ | ⟨a, y, b, hc, hp, hr, _⟩
    · have e2 : put s ⟨k, t, e0, true⟩ = (s, 0) := by
        unfold put
        rw [if_neg (by rw [ht]; simp), hc]
        simp
      rw [e2]
      rw [e] at hrun
      have HT := Aside0.mk ht
      clear ht e2 e hC hl hlen hc
      go_enter Try.func38, Try.ntmps38
      go_wp2_with fail
      refine (may_calls H.out.mem t).mono ?_
      rintro e w1 ⟨he, rfl⟩
      rw [mayT_b, HT.out] at he
      subst he
      go_wp2_with fail
      go_ret
      exact ⟨rfl, kv, hdr, Y, H.out⟩
    · obtain ⟨ad, rfl, h0, h1, h2⟩ := atkV hC (((xsV s k).length : Int) - 1) (by omega) (by omega)
      rw [hr] at h0 h1 h2
      have HC := Aside0.mk hc
      clear hr hC hc
      have HT := Aside0.mk ht
      clear ht
      generalize hm : (xsV s k).length = m at *
      clear hm
      obtain ⟨m', rfl⟩ : ∃ m', m = m' + 1 := ⟨m - 1, by omega⟩
      have em : ((m' + 1 : Nat) : Int) - 1 = (m' : Int) := by omega
      rw [em, Int.toNat_natCast] at h0 h1 h2
      have p1 : ((m' : Int) < (m' : Int) + 1) = True := eq_true (by omega)
      have p5 : ((m' : Int) + 1 == 0) = false := beq_eq_false_iff_ne.2 (by omega)
      have p4 : IntKind.i64.wrap ((m' : Int) + 1 - 1) = (m' : Int) := by rw [show (m' : Int) + 1 - 1 = (m' : Int) by omega]; exact Tzw _ (by omega)
      cases hg : y.f3 with
      | true =>
        have e2 : put s ⟨k, t, e0, true⟩ = (s, 0) := by
          unfold put
          rw [if_neg (by rw [HT.out]; simp), HC.out]
          simp [hg]
        rw [e2]
        rw [show (toV y).f2 = true from hg] at h2
        clear e2 hg
        go_enter Try.func38, Try.ntmps38
        go_wp2_with fail
        refine (may_calls H.out.mem t).mono ?_
        rintro e w1 ⟨he, rfl⟩
        rw [mayT_b, HT.out] at he
        subst he
        go_wp2_with fail
        go_ret
        exact ⟨rfl, kv, hdr, Y, H.out⟩
      | false =>
        rw [show (toV y).f2 = false from hg] at h2
        have HG := Aside0.mk hg
        clear hg
        go_enter Try.func38, Try.ntmps38
        go_wp2_with fail
        refine (may_calls H.out.mem t).mono ?_
        rintro e w1 ⟨he, rfl⟩
        rw [mayT_b, HT.out] at he
        subst he
        go_wp2_with fail
        refine (put_calls H.out hI ⟨k, t, e0, true⟩ hn hk HT.out (fun h => by have := h.2 a y b HC.out; rw [HG.out] at this; cases this)).mono ?_
        rintro e w2 ⟨rfl, hA⟩
        have HA := Aside0.mk (StA.less hA)
        clear hA
        go_wp2_with fail
        go_ret
        exact ⟨rfl, HA.out⟩
end
theorem New_calls {w0 w : World} {F : List Res} (hM : Mem w0 w F) (room : Int) (h1 : 1 ≤ room) (h2 : room ≤ 4096) : Calls Try.prog 35 #[.int .i64 room] w fun e w' => ∃ g gm, e = .returned (.tuple #[.pointer (some ⟨g, 0, none⟩), .int .i64 0]) ∧ StA w0 w' g gm (new room) F := by
  have q : decide (room < 1) = false := decide_eq_false (by omega)
  have q2 : decide (4096 < room) = false := decide_eq_false (by omega)
  have hmm := @run_makeMap Try.prog
  have M := Aside0.mk hM
  clear hM
  go_enter Try.func35, Try.ntmps35
  go_wp2
  go_ret2
  have M1 := (Mem.makeMap (P := Try.prog) (K := 9) M.out (fun _ => .slice none 0 0)).allocAt (sc room 0 0 (.slice none 0 0) w.heap.size) 116 (w.heap.size + 1) (by simp)
  refine ⟨w.heap.size + 1, w.heap.size, rfl, StM.any (kv := .slice none 0 0) (hdr := fun _ => .slice none 0 0) ⟨?_, none, 0, [], rfl, Nat.le_refl _, rfl, rfl, fun w'' _ => C_nil _ _⟩⟩
  have e1 : SK (new room) = fun _ => False := by
    funext k
    unfold SK new allKeys
    simp
  have M2 := Mem.sel (ps := [_, _, _]) (F := F) [1, 2, 0] 3 (Mem.rows_none (d := kV) (e := 120) (hdr := fun _ => .slice none 0 0) (xs := xsV (new room)) M1) rfl rfl
  unfold mapS rowsS
  rw [e1]
  exact M2
end Go.Proofs.Ytookpmdgoednfaa.Sx
namespace Go.Proofs.Ytookpmdgoednfaa.Sn
open Go.RowKit YtookpmdgoednfaaW.PrintWords YtookpmdgoednfaaW.PrintLast YtookpmdgoednfaaW.PrintMore Mx PPagePuts Pa Ps
attribute [local go_sem high] Go.Proofs.Ytookpmdgoednfaa.Le.str_leq Go.Proofs.Ytookpmdgoednfaa.Le.str_gtr Go.Proofs.Ytookpmdgoednfaa.Le.str_geq
theorem Scan_none (A : Option Addr) (c : Nat) (lo hi : ByteArray) (n : Int) (w : World) (hl : Kd.C (Kd.slice 41 kP) w A 0 []) (k0 : Nat) (hR : page_Right.f k0 [] = some true) :
    Calls Try.prog 30 #[.slice A 0 c, .string lo, .string hi, .int .i64 n] w fun e w' => ∃ v : Value, e = .returned v ∧ Mem w w' [row kP 41 v []] := by
  have HL := Aside0.mk hl
  have HR := Aside0.mk hR
  have M0 := Aside0.mk (Mem.nil w)
  clear hl hR
  go_enter Try.func30, Try.ntmps30
  go_wp2
  go_step3
  go_wp2_with fail
  refine (page_Right.calls k0 A c [] true _ HL.out (Nat.zero_le _) HR.out).mono ?_
  rintro e w1 ⟨rfl, hb⟩
  have M1 := Aside0.mk (M0.out.grow hb)
  clear hb
  go_wp2
  try rw [Exit.noGoto_ret]
  go_ret
  exact ⟨_, rfl, Mem.row_nil M1.out _ _⟩
theorem Scan_in (A : Option Addr) (c : Nat) (ps : List (List SP)) (lo hi : ByteArray) (n : Int) (w : World) (hl : Kd.C (Kd.slice 41 kP) w A ps.length ps) (hc : ps.length ≤ c) (k0 : Nat) (hR : page_Right.f k0 ps = some true) (hne : 0 < ps.length) (hn : ps.length ≤ 100000) (hpp : ∀ p ∈ ps, 0 < p.length ∧ p.length ≤ 8)
    (k : Nat) (hk : k ≤ ps.length) (h1 : ∀ t : Nat, t < k → Op.bytesLess lo.toList (fk (rd_L2 ps t)) = false) (h2 : ∀ t : Nat, k ≤ t → t < ps.length → Op.bytesLess lo.toList (fk (rd_L2 ps t)) = true)
    (res : List SP) (hres : Gq.pmore n lo hi [] (ps.drop (k - 1)).flatten = res) :
    Calls Try.prog 30 #[.slice A ps.length c, .string lo, .string hi, .int .i64 n] w fun e w' => ∃ v : Value, e = .returned v ∧ Mem w w' [row kP 41 v res] := by
  have HL := Aside0.mk hl
  have HC := Aside0.mk hc
  have HR := Aside0.mk hR
  have M0 := Aside0.mk (Mem.nil w)
  have HOF := Aside0.mk (fun (B : Option Addr) (d : Nat) (W : World) (hC : Kd.C (Kd.slice 41 kP) W B ps.length ps) => of_calls B d ps lo W hC (by omega) (fun j hj => by
      have e : rd_L2 ps (j : Int) = ps[j] := by unfold rd_L2; simp [List.getD, hj]
      rw [e]
      exact (hpp _ (List.getElem_mem hj)).1) k hk h1 h2)
  have HPP := Aside0.mk hpp
  have HRES := Aside0.mk hres
  have hnz : ((ps.length : Int) == 0) = false := beq_eq_false_iff_ne.mpr (by omega)
  have hnz2 : ¬ (ps.length : Int) = 0 := by omega
  obtain ⟨ad, _, _, e, _⟩ := at_L2 hl 0 (by omega) (by omega)
  cases e
  obtain ⟨m, hmm⟩ : ∃ m, m = k - 1 := ⟨_, rfl⟩
  have HMM := Aside0.mk hmm
  have hm1 : m < ps.length := by omega
  have hm2 : m < c := by omega
  have hm3 : ¬ c = m := by omega
  have hm4 : (m : Int) ≤ (ps.length : Int) := by omega
  have hm5 : (m : Int) ≤ (c : Int) := by omega
  have hm6 : m ≤ ps.length := by omega
  have hm7 : m ≤ c := by omega
  clear hl hc hR hpp h1 h2 hk hne hres hmm
  go_enter Try.func30, Try.ntmps30
  go_wp2
  go_step3
  go_wp2_with fail
  refine (page_Right.calls k0 (some ad) c ps true _ HL.out HC.out HR.out).mono ?_
  rintro e w1 ⟨rfl, hb1⟩
  have M1 := Aside0.mk (M0.out.grow hb1)
  clear hb1
  go_wp2
  go_step3
  go_wp2_with fail
  refine (HOF.out (some ad) c _ (Kd.C_below HL.out M1.out.below)).mono ?_
  rintro e w2 ⟨rfl, hM⟩
  have M2 := Aside0.mk (M1.out.trans hM)
  clear hM
  rw [← HMM.out]
  go_wp2_with fail
  obtain ⟨q, hq⟩ : ∃ q, ps.length - m = q := ⟨_, rfl⟩
  rw [hq]
  have hq1 : m + q = ps.length := by omega
  have HQ1 := Aside0.mk hq1
  have hqb : q ≤ 100000 := by omega
  clear hq hq1 hm1 hm2 hm3 hm4 hm5 hm6 hm7 hn hnz hnz2 M1 M0
  go_loopg [9, 11, 13, 28] (q + 1) (fun kq v9 v11 v13 v28 w' => ∃ (i : Nat) (out : List SP), v28 = .int .i64 i ∧ Aside0 (i ≤ q ∧ kq = q + 1 - i) ∧ Aside0 (Gq.pmore n lo hi out (ps.drop (m + i)).flatten = res ∧ out.length ≤ 8 * i) ∧ Aside0 (Mem w w' [row kP 41 v9 out]))
  case atStart => exact ⟨0, [], rfl, ⟨by omega, by omega⟩, ⟨by rw [Nat.add_zero, HMM.out]; exact HRES.out, by simp⟩, ⟨Mem.row_nil M2.out _ _⟩⟩
  case round =>
    obtain ⟨i, out, rfl, HK, HP, M3⟩ := hrel
    clear M2
    by_cases hlt : i < q
    · have hd1 : decide ((i : Int) < (q : Int)) = true := decide_eq_true (by omega)
      have hib : i < 100000 := by omega
      have hmi : m + i < ps.length := by have := HQ1.out; omega
      obtain ⟨ad', A0, c0, e, hx, hc0, hC0⟩ := at_L2 HL.out ((m + i : Nat) : Int) (by omega) (by omega)
      cases e
      have hrd : rd_L2 ps ((m + i : Nat) : Int) = ps[m + i] := Py.rdL hmi
      rw [hrd] at hx hc0 hC0
      rw [Int.toNat_natCast] at hx
      have HD := Aside0.mk (show (ps.drop (m + i)).flatten = ps[m + i] ++ (ps.drop (m + (i + 1))).flatten by rw [List.drop_eq_getElem_cons hmi, List.flatten_cons, Nat.add_assoc])
      have hp8 := (HPP.out _ (List.getElem_mem hmi)).2
      generalize ps[m + i] = p at hx hc0 hC0 HD hp8
      have hxl := World.block_lt_of_cell? w _ hx
      have hx2 := (M3.out.below.cell hxl).trans hx
      rw [show ad.add (m + i) = (ad.add m).add i by unfold Addr.add; by_cases h1 : m = 0 <;> by_cases h2 : i = 0 <;> simp [h1, h2, Nat.add_assoc]] at hx2
      have hi1 : ((i : Int) < (q : Int)) = True := eq_true (by omega)
      have HC0 := Aside0.mk hC0
      clear hx hC0 hrd hxl
      go_wp2_with fail
      go_loopg [9, 13, 34, 38] (p.length + 1) (fun kr v9 v13 v34 v38 w'' => ∃ (j : Nat) (out' : List SP), v34 = .int .i64 j ∧ Aside0 (j ≤ p.length ∧ kr = p.length + 1 - j) ∧ Aside0 (Gq.pmore n lo hi out' (p.drop j ++ (ps.drop (m + (i + 1))).flatten) = res ∧ out'.length ≤ 8 * i + j) ∧ Aside0 (Mem w w'' [row kP 41 v9 out']))
      case atStart => exact ⟨0, out, rfl, ⟨by omega, by omega⟩, ⟨by rw [List.drop_zero, ← HD.out]; exact HP.out.1, by have := HP.out.2; omega⟩, M3⟩
      case round =>
        obtain ⟨j, out', rfl, HJ, HP2, M4⟩ := hrel
        clear M3 hx2
        by_cases hjt : j < p.length
        · have hd2 : decide ((j : Int) < (p.length : Int)) = true := decide_eq_true (by omega)
          have hjb : j < 100 := by omega
          obtain ⟨ap, e, hz0, hz1⟩ := at_T41 HC0.out (j : Int) (by omega) (by omega)
          cases e
          rw [Int.toNat_natCast] at hz0 hz1
          have HE := Aside0.mk (show p.drop j = rd_T41 p (j : Int) :: p.drop (j + 1) by rw [List.drop_eq_getElem_cons hjt, Py.rdT hjt])
          generalize rd_T41 p (j : Int) = x at hz0 hz1 HE
          have hzl0 := World.block_lt_of_cell? w _ hz0
          have hzl1 := World.block_lt_of_cell? w _ hz1
          have hy0 := (M4.out.below.cell hzl0).trans hz0
          have hy1 := (M4.out.below.cell hzl1).trans hz1
          have hj1 : ((j : Int) < (p.length : Int)) = True := eq_true (by omega)
          obtain ⟨A9, c9, e9, hc9, _⟩ := M4.out.row_at 0 rfl
          subst e9
          clear hz0 hz1 hzl0 hzl1 hc9
          have M5 := Aside0.mk (Mem.sel (ps := [_, _]) (F := []) [1] 2 (M4.out.allocAt #[.string x.f0, .string x.f1] 41 wr.heap.size rfl) rfl rfl)
          have MB := Aside0.mk ((M4.out.allocAt #[.string x.f0, .string x.f1] 41 wr.heap.size rfl).allocAt #[.string x.f0, .string x.f1] 41 (wr.heap.size + 1) (by simp))
          by_cases hfull : n ≤ (out'.length : Int)
          · have hd3 : decide (n ≤ (out'.length : Int)) = true := decide_eq_true hfull
            have H1 := Aside0.mk hfull
            clear hfull
            go_wp2_with fail
            try rw [Exit.noGoto_ret]
            go_ret
            have h5 := HP2.out.1
            rw [HE.out, List.cons_append, Gq.pm_full H1.out] at h5
            subst h5
            exact ⟨_, rfl, M5.out⟩
          · have hd3 : decide (n ≤ (out'.length : Int)) = false := decide_eq_false hfull
            have H1 := Aside0.mk hfull
            clear hfull
            cases hE : hi.toList.isEmpty with
            | true =>
              have hE2 : hi.toList = [] := by simpa using hE
              have hE3 : (!hi.toList.isEmpty) = false := by rw [hE]; rfl
              have H2 := Aside0.mk (show (hi.toList.isEmpty || Px.lt x.f0.toList hi.toList) = true by rw [hE]; rfl)
              cases hc : Op.bytesLess x.f0.toList lo.toList with
              | true =>
                have H3 := Aside0.mk hc
                have h3n : (!Op.bytesLess x.f0.toList lo.toList) = false := by rw [hc]; rfl
                go_wp2_with fail
                go_roundg (p.length - j)
                case measure => have := HJ.out; omega
                case rel =>
                  refine ⟨j + 1, out', by go_num, ⟨by omega, by omega⟩, ⟨?_, by have := HP2.out.2; omega⟩, M5⟩
                  have h5 := HP2.out.1
                  rw [HE.out, List.cons_append, Gq.pm_skip (by have := H1.out; omega) H2.out H3.out] at h5
                  exact h5
              | false =>
                have H3 := Aside0.mk hc
                have h3n : (!Op.bytesLess x.f0.toList lo.toList) = true := by rw [hc]; rfl
                have HLN := Aside0.mk (show (out'.length + 1) * 32 ≤ 140737488355328 by have := HP2.out.2; omega)
                go_wp2_with (((with_reducible refine gate_builtin (b := .append) (xs := #[.tmp 56, .tmp 58]) rfl ?_); at_builtin; refine Mem.app kP (Rr := fun y c => y = x ∧ c = [.string x.f0, .string x.f1]) MB.out 2 _ out' [x] rfl (.tmp 56) (.tmp 58) 32 41 _ _ rfl Try.underlying32 info41 rfl (by decide) (by omega) (some ⟨wr.heap.size + 1, 0, none⟩) 1 1 rfl rfl rfl (reads_one x (MB.out.blk_at 0 rfl) rfl) (fun y c h => by obtain ⟨rfl, rfl⟩ := h; exact flatP.mk_ _ _ _ y) HLN.out ?_; intro v1 w2 hM1; have M6 := Aside0.mk hM1; clear hM1))
                go_roundg (p.length - j)
                case measure => have := HJ.out; omega
                case rel =>
                  refine ⟨j + 1, out' ++ [x], by go_num, ⟨by omega, by omega⟩, ⟨?_, by rw [List.length_append, List.length_singleton]; have := HP2.out.2; omega⟩, ⟨Mem.sel (ps := [_, _, _]) (F := []) [2] 3 M6.out rfl rfl⟩⟩
                  have h5 := HP2.out.1
                  rw [HE.out, List.cons_append, Gq.pm_take (by have := H1.out; omega) H2.out H3.out] at h5
                  exact h5
            | false =>
              have hE2 : ¬ hi.toList = [] := by simpa using hE
              have hE3 : (!hi.toList.isEmpty) = true := by rw [hE]; rfl
              cases hb : Op.bytesLess x.f0.toList hi.toList with
              | false =>
                have hbn : (!Op.bytesLess x.f0.toList hi.toList) = true := by rw [hb]; rfl
                have H2 := Aside0.mk hE
                have H3 := Aside0.mk hb
                go_wp2_with fail
                try rw [Exit.noGoto_ret]
                go_ret
                have h5 := HP2.out.1
                rw [HE.out, List.cons_append, Gq.pm_end (by have := H1.out; omega) H2.out H3.out] at h5
                subst h5
                exact ⟨_, rfl, M5.out⟩
              | true =>
                have hbn : (!Op.bytesLess x.f0.toList hi.toList) = false := by rw [hb]; rfl
                have H2 := Aside0.mk (show (hi.toList.isEmpty || Px.lt x.f0.toList hi.toList) = true by rw [hE]; exact hb)
                cases hc : Op.bytesLess x.f0.toList lo.toList with
                | true =>
                  have H3 := Aside0.mk hc
                  have h3n : (!Op.bytesLess x.f0.toList lo.toList) = false := by rw [hc]; rfl
                  go_wp2_with fail
                  go_roundg (p.length - j)
                  case measure => have := HJ.out; omega
                  case rel =>
                    refine ⟨j + 1, out', by go_num, ⟨by omega, by omega⟩, ⟨?_, by have := HP2.out.2; omega⟩, M5⟩
                    have h5 := HP2.out.1
                    rw [HE.out, List.cons_append, Gq.pm_skip (by have := H1.out; omega) H2.out H3.out] at h5
                    exact h5
                | false =>
                  have H3 := Aside0.mk hc
                  have h3n : (!Op.bytesLess x.f0.toList lo.toList) = true := by rw [hc]; rfl
                  have HLN := Aside0.mk (show (out'.length + 1) * 32 ≤ 140737488355328 by have := HP2.out.2; omega)
                  go_wp2_with (((with_reducible refine gate_builtin (b := .append) (xs := #[.tmp 56, .tmp 58]) rfl ?_); at_builtin; refine Mem.app kP (Rr := fun y c => y = x ∧ c = [.string x.f0, .string x.f1]) MB.out 2 _ out' [x] rfl (.tmp 56) (.tmp 58) 32 41 _ _ rfl Try.underlying32 info41 rfl (by decide) (by omega) (some ⟨wr.heap.size + 1, 0, none⟩) 1 1 rfl rfl rfl (reads_one x (MB.out.blk_at 0 rfl) rfl) (fun y c h => by obtain ⟨rfl, rfl⟩ := h; exact flatP.mk_ _ _ _ y) HLN.out ?_; intro v1 w2 hM1; have M6 := Aside0.mk hM1; clear hM1))
                  go_roundg (p.length - j)
                  case measure => have := HJ.out; omega
                  case rel =>
                    refine ⟨j + 1, out' ++ [x], by go_num, ⟨by omega, by omega⟩, ⟨?_, by rw [List.length_append, List.length_singleton]; have := HP2.out.2; omega⟩, ⟨Mem.sel (ps := [_, _, _]) (F := []) [2] 3 M6.out rfl rfl⟩⟩
                    have h5 := HP2.out.1
                    rw [HE.out, List.cons_append, Gq.pm_take (by have := H1.out; omega) H2.out H3.out] at h5
                    exact h5
        · have hd2 : decide ((j : Int) < (p.length : Int)) = false := decide_eq_false (by omega)
          have hj2 : j = p.length := by have := HJ.out; omega
          have HP3 := Aside0.mk (show Gq.pmore n lo hi out' (ps.drop (m + (i + 1))).flatten = res by have h5 := HP2.out.1; rw [hj2, List.drop_length, List.nil_append] at h5; exact h5)
          clear hj2
          go_wp2_with fail
          go_roundg (q - i)
          case measure => have := HK.out; omega
          case rel => exact ⟨i + 1, out', by go_num, ⟨by omega, by omega⟩, ⟨HP3.out, by have := HP2.out.2; have := HJ.out; omega⟩, M4⟩
    · have hd1 : decide ((i : Int) < (q : Int)) = false := decide_eq_false (by omega)
      have hi2 : i = q := by have := HK.out; omega
      have HP3 := Aside0.mk (show out = res by have h5 := HP.out.1; rw [hi2, HQ1.out, List.drop_length] at h5; exact h5)
      clear hi2
      obtain ⟨A9, c9, e9, hc9, _⟩ := M3.out.row_at 0 rfl
      subst e9
      go_wp2_with fail
      try rw [Exit.noGoto_ret]
      go_ret
      rw [← HP3.out]
      exact ⟨_, rfl, M3.out⟩
end Go.Proofs.Ytookpmdgoednfaa.Sn
namespace Go.Proofs.Ytookpmdgoednfaa.Gs
end Go.Proofs.Ytookpmdgoednfaa.Gs
namespace Go.Proofs.Ytookpmdgoednfaa.Sb
open Go.RowKit YtookpmdgoednfaaW.PrintWords YtookpmdgoednfaaW.PrintLast YtookpmdgoednfaaW.PrintMore Mx PPagePuts Pa Gq Gs
theorem flat_len : ∀ (ps : List (List Py.SP)), (∀ p ∈ ps, p.length ≤ 8) → ps.flatten.length ≤ 8 * ps.length
  | [], _ => by simp
  | p :: ps, h => by
    have h1 := flat_len ps (fun q hq => h q (List.mem_cons_of_mem _ hq))
    have h2 := h p (List.mem_cons_self ..)
    rw [List.flatten_cons, List.length_append, List.length_cons]
    omega
end Go.Proofs.Ytookpmdgoednfaa.Sb
namespace Go.Proofs.Ytookpmdgoednfaa.So
open Go.RowKit YtookpmdgoednfaaW.PrintWords YtookpmdgoednfaaW.PrintLast YtookpmdgoednfaaW.PrintMore Mx PPagePuts St Ks Sw Su Sv Sx
open Pa hiding SP
theorem filter_pr (lo hi : ByteArray) : ∀ (ks : List ByteArray), (ks.map pr).filter (Gq.within lo hi) = (ks.filter (inside lo hi)).map pr
  | [] => rfl
  | k :: ks => by
    have e : Gq.within lo hi (pr k) = inside lo hi k := rfl
    rw [List.map_cons]
    cases h : inside lo hi k with
    | true => rw [List.filter_cons_of_pos (by rw [e]; exact h), List.filter_cons_of_pos h, filter_pr lo hi ks, List.map_cons]
    | false => rw [List.filter_cons_of_neg (by rw [e, h]; simp), List.filter_cons_of_neg (by rw [h]; simp), filter_pr lo hi ks]
/-- The keys' pages are read from one key on, below another. -/
theorem keys_scan {w0 w : World} {X : List Res} {kv : Value} {ks : List ByteArray} (h : KR w0 X kv ks) (hs : ks.length ≤ 400) (lo hi : ByteArray) (hX : Mem w0 w X) :
    Calls Try.prog 30 #[kv, .string lo, .string hi, .int .i64 (ks.length : Int)] w fun e w' => ∃ v : Value, e = .returned v ∧ Mem w w' [row kP 41 v ((ks.filter (inside lo hi)).map pr)] := by
  obtain ⟨A, c, ps, rfl, h2, h3, h4, h5⟩ := h
  have hl : ps.length ≤ 400 := by have := pages_few h3; rw [h4, List.length_map] at this; omega
  have hR := Py.page_right ps (by omega)
  obtain ⟨k0, hk0⟩ := hR.rounds
  rw [h3] at hk0
  by_cases hne : ps.length = 0
  · obtain rfl := List.eq_nil_of_length_eq_zero hne
    have e : ks = [] := by
      rw [List.flatten_nil] at h4
      exact List.map_eq_nil_iff.1 h4.symm
    subst e
    exact Sn.Scan_none A c lo hi _ w (h5 w hX) k0 hk0
  · have rt := Px.rt_of h3
    obtain ⟨k, hk, g1, g2⟩ := Px.page_cut rt lo.toList
    refine Sn.Scan_in A c ps lo hi (ks.length : Int) w (h5 w hX) h2 k0 hk0 (by omega) (by omega) rt.len k hk g1 g2 _ ?_
    rw [Gq.both_sel rt (ks.length : Int) lo hi k hk g1]
    unfold Gq.rmore
    rw [List.nil_append, h4, filter_pr, List.length_nil, Nat.sub_zero, Int.toNat_natCast, List.take_of_length_le]
    rw [List.length_map]
    exact List.length_filter_le _ _
theorem inside_all (k : ByteArray) : inside e0 e0 k = true := by
  unfold inside e0
  have e : (⟨#[]⟩ : ByteArray).toList = [] := by rw [Lib.toList_data]
  rw [e]
  have : Px.lt k.toList [] = false := by cases k.toList <;> rfl
  rw [this]
  rfl
theorem keys_all (ks : List ByteArray) : ks.filter (inside e0 e0) = ks := List.filter_eq_self.2 (fun k _ => inside_all k)
/-! ### how many go -/
def early (t : Int) (x : V) : Bool := decide (x.f0 ≤ t)
def cntV (t : Int) (xs : List V) : Nat := (xs.takeWhile (early t)).length
def cutV (t : Int) (xs : List V) : Nat := if 0 < cntV t xs ∧ (rdkV xs ((cntV t xs : Int) - 1)).f2 = false then cntV t xs - 1 else cntV t xs
theorem rd_at {xs : List V} {j : Nat} (h : j < xs.length) : rdkV xs (j : Int) = xs[j] := by
  unfold rdkV
  rw [Int.toNat_natCast, List.getD_eq_getElem?_getD, List.getElem?_eq_getElem h]
  rfl
theorem cntV_cons (t : Int) (x : V) (xs : List V) : cntV t (x :: xs) = if early t x = true then cntV t xs + 1 else 0 := by
  unfold cntV
  rw [List.takeWhile_cons]
  split <;> rfl
theorem cntV_le (t : Int) : ∀ (xs : List V), cntV t xs ≤ xs.length
  | [] => Nat.le_refl _
  | x :: xs => by
    have := cntV_le t xs
    rw [cntV_cons, List.length_cons]
    split <;> omega
theorem cntV_in {t : Int} : ∀ {xs : List V} {j : Nat} (hj : j < xs.length), j < cntV t xs → xs[j].f0 ≤ t
  | x :: xs, j, hj, h => by
    rw [cntV_cons] at h
    split at h
    · rename_i he
      cases j with
      | zero => exact of_decide_eq_true he
      | succ j => exact cntV_in (xs := xs) (j := j) (by simpa using hj) (Nat.lt_of_succ_lt_succ h)
    · omega
theorem cntV_at {t : Int} : ∀ {xs : List V} (hj : cntV t xs < xs.length), ¬ (xs[cntV t xs]'hj).f0 ≤ t
  | x :: xs, hj => by
    by_cases he : early t x = true
    · have e : cntV t (x :: xs) = cntV t xs + 1 := by rw [cntV_cons, if_pos he]
      have hj' : cntV t xs < xs.length := by rw [e] at hj; simpa using hj
      have := cntV_at hj'
      simpa only [e, List.getElem_cons_succ] using this
    · have e : cntV t (x :: xs) = 0 := by rw [cntV_cons, if_neg he]
      simp only [e, List.getElem_cons_zero]
      exact fun h => he (decide_eq_true h)
theorem cntV_late {t : Int} : ∀ {l : List RV}, (∀ x ∈ l, t < x.f1) → cntV t (l.map toV) = 0
  | [], _ => rfl
  | x :: l, h => by
    have e : early t (toV x) = false := decide_eq_false (by have := h x (List.mem_cons_self ..); show ¬ x.f1 ≤ t; omega)
    rw [List.map_cons, cntV_cons, e]
    rfl
theorem cntV_app {t : Int} {b : List RV} : ∀ {a : List RV}, (∀ x ∈ a, x.f1 ≤ t) → cntV t ((a ++ b).map toV) = a.length + cntV t (b.map toV)
  | [], _ => by simp
  | x :: a, h => by
    have e : early t (toV x) = true := decide_eq_true (h x (List.mem_cons_self ..))
    have ih := cntV_app (t := t) (b := b) (a := a) (fun z hz => h z (List.mem_cons_of_mem _ hz))
    rw [List.cons_append, List.map_cons, cntV_cons, e, if_pos rfl, ih, List.length_cons]
    omega
theorem trim_cut {k : Key} {l : List RV} (h : One k l) (t : Int) : (trimL t l).map toV = (l.map toV).drop (cutV t (l.map toV)) := by
  rw [trim_one h t]
  cases hc : cut (fun x : RV => decide (x.f1 ≤ t)) l with
  | none =>
    have hl : ∀ x ∈ l, t < x.f1 := fun x hx => by have := cut_none.1 hc x hx; simpa using this
    unfold cutV
    rw [cntV_late hl, if_neg (fun hh => by omega)]
    rfl
  | some c =>
    obtain ⟨a, y, b⟩ := c
    obtain ⟨e1, e2, e3⟩ := cut_some hc
    have ht : y.f1 ≤ t := by simpa using e2
    have hb : ∀ z ∈ b, t < z.f1 := fun z hz => by have := e3 z hz; simpa using this
    have hr := h.rise
    rw [e1] at hr
    have ha : ∀ x ∈ a, x.f1 ≤ t := fun x hx => by have := (List.pairwise_append.1 hr).2.2 x hx y (List.mem_cons_self ..); omega
    have hn : cntV t (l.map toV) = a.length + 1 := by
      have ea : a ++ y :: b = (a ++ [y]) ++ b := by simp
      rw [e1, ea, cntV_app (fun x hx => by
        rcases List.mem_append.1 hx with hx | hx
        · exact ha x hx
        · rw [List.mem_singleton.1 hx]; exact ht), cntV_late hb]
      simp
    have hrd : rdkV (l.map toV) ((cntV t (l.map toV) : Int) - 1) = toV y := by
      rw [hn, show ((a.length + 1 : Nat) : Int) - 1 = (a.length : Int) by omega, rd_at (by rw [e1]; simp)]
      simp [e1]
    unfold cutV
    rw [hrd, hn]
    show List.map toV (if y.f3 = true then b else y :: b) = List.drop (if 0 < a.length + 1 ∧ y.f3 = false then a.length + 1 - 1 else a.length + 1) (List.map toV l)
    rw [e1]
    cases hg : y.f3 with
    | true =>
      rw [if_pos rfl, if_neg (by simp)]
      have e5 : List.map toV (a ++ y :: b) = (a.map toV ++ [toV y]) ++ b.map toV := by simp
      rw [e5, List.drop_left' (by simp)]
    | false => rw [if_neg (by simp), if_pos ⟨by omega, rfl⟩]; simp
theorem cutV_le (t : Int) (xs : List V) : cutV t xs ≤ xs.length := by
  have := cntV_le t xs
  unfold cutV
  split <;> omega
/-! ### one key more is trimmed -/
def doneK (ks : List ByteArray) (i : Nat) (k : ByteArray) : Bool := (ks.take i).any (fun x => kb x k)
def part_ (s : St) (t : Int) (i : Nat) : St := ⟨s.room, s.top, trimP (doneK (allKeys s.l) i) t s.l⟩
theorem part_zero (s : St) (t : Int) : part_ s t 0 = s := by
  unfold part_
  have : doneK (allKeys s.l) 0 = fun _ => false := by funext k; rfl
  rw [this, trimP_none]
theorem part_end (s : St) (t : Int) : part_ s t (allKeys s.l).length = (trim s t).1 := by
  unfold part_ trim
  rw [trimP_all]
  intro x hx
  unfold doneK
  rw [List.take_length, List.any_eq_true]
  exact ⟨x.f0, mem_allKeys.2 ⟨x, hx, rfl⟩, kb_self _⟩
theorem done_step {ks : List ByteArray} {i : Nat} (hi : i < ks.length) (j : ByteArray) : doneK ks (i + 1) j = (doneK ks i j || kb ks[i] j) := by
  unfold doneK
  rw [List.take_succ_eq_append_getElem hi, List.any_append]
  simp
theorem done_not {ks : List ByteArray} (hp : ks.Pairwise BefK) {i : Nat} (hi : i < ks.length) : doneK ks i ks[i] = false := by
  unfold doneK
  rw [List.any_eq_false]
  intro x hx he
  obtain rfl := kb_iff.1 he
  obtain ⟨j, hj, hj2⟩ := List.mem_iff_getElem.1 hx
  rw [List.length_take] at hj
  rw [List.getElem_take] at hj2
  have := List.pairwise_iff_getElem.1 hp j i (by omega) hi (by omega)
  rw [hj2] at this
  exact befK_asymm this this
/-- What one round turns. -/
structure Turn (s1 s2 : St) (k : ByteArray) (n : Nat) : Prop where
  room : s2.room = s1.room
  top : s2.top = s1.top
  len : (s2.l.length : Int) = (s1.l.length : Int) - n
  there : SK s1 k
  here : xsV s2 k = (xsV s1 k).drop n
  other : ∀ j, ¬ j = k → xsV s2 j = xsV s1 j
theorem SK_iff {s : St} {k : ByteArray} : SK s k ↔ ¬ xsV s k = [] := by
  unfold xsV SK
  rw [List.map_eq_nil_iff, vers_nil]
  exact ⟨fun h hn => hn h, fun h => Classical.byContradiction h⟩
theorem turn_of {s : St} (hI : Inv s) (t : Int) {i : Nat} (hi : i < (allKeys s.l).length) : Turn (part_ s t i) (part_ s t (i + 1)) (allKeys s.l)[i] (cutV t (xsV (part_ s t i) (allKeys s.l)[i])) := by
  have hd := done_not (sorted_allKeys s.l) hi
  have hd2 : doneK (allKeys s.l) (i + 1) (allKeys s.l)[i] = true := by rw [done_step hi, kb_self, Bool.or_true]
  have ho : ∀ j, ¬ j = (allKeys s.l)[i] → doneK (allKeys s.l) i j = doneK (allKeys s.l) (i + 1) j := fun j hj => by rw [done_step hi, kb_ne (fun e => hj e.symm), Bool.or_false]
  have hin : (allKeys s.l)[i] ∈ allKeys s.l := List.getElem_mem hi
  generalize hk : (allKeys s.l)[i] = k at *
  have e1 : xsV (part_ s t i) k = (vers s.l k).map toV := by
    show (vers (trimP (doneK (allKeys s.l) i) t s.l) k).map toV = _
    rw [trimP_out hd]
  have e2 : xsV (part_ s t (i + 1)) k = (trimL t (vers s.l k)).map toV := by
    show (vers (trimP (doneK (allKeys s.l) (i + 1)) t s.l) k).map toV = _
    rw [trimP_in hd2]
  have e3 := trim_cut (one_vers hI k) t
  refine ⟨rfl, rfl, ?_, ?_, ?_, fun j hj => ?_⟩
  · have h := trimP_step ho hd hd2 t s.l
    have hl := congrArg List.length e3
    rw [List.length_map, List.length_drop, List.length_map] at hl
    have hle := cutV_le t ((vers s.l k).map toV)
    rw [List.length_map] at hle
    rw [e1]
    show ((trimP _ t s.l).length : Int) = ((trimP _ t s.l).length : Int) - _
    rw [h, hl]
    omega
  · rw [SK_iff, e1, List.map_eq_nil_iff, vers_nil]
    exact fun hn => hn hin
  · rw [e2, e3, e1]
  · show (vers (trimP (doneK (allKeys s.l) (i + 1)) t s.l) j).map toV = (vers (trimP (doneK (allKeys s.l) i) t s.l) j).map toV
    cases hj2 : doneK (allKeys s.l) i j with
    | true => rw [trimP_in (by rw [← ho j hj]; exact hj2), trimP_in hj2]
    | false => rw [trimP_out (by rw [← ho j hj]; exact hj2), trimP_out hj2]
section
variable {s1 s2 : St} {k : ByteArray} {n : Nat}
theorem Turn.sk (h : Turn s1 s2 k n) {j : ByteArray} (hj : ¬ j = k) : SK s2 j ↔ SK s1 j := by rw [SK_iff, SK_iff, h.other j hj]
theorem Turn.sk_here (h : Turn s1 s2 k n) : SK s2 k ↔ n < (xsV s1 k).length := by
  rw [SK_iff, h.here, List.drop_eq_nil_iff]
  omega
/-- Some are left. -/
theorem Turn.stay (h : Turn s1 s2 k n) (hn : n < (xsV s1 k).length) : allKeys s2.l = allKeys s1.l := by
  refine uniq (fun _ _ => befK_asymm) (sorted_allKeys _) (sorted_allKeys _) fun j => ?_
  by_cases e : j = k
  · subst e
    exact ⟨fun _ => h.there, fun _ => h.sk_here.2 hn⟩
  · exact h.sk e
/-- None is left. -/
theorem Turn.away (h : Turn s1 s2 k n) (hn : n = (xsV s1 k).length) : allKeys s2.l = (allKeys s1.l).filter (fun x => !kb x k) := by
  refine uniq (fun _ _ => befK_asymm) (sorted_allKeys _) ((sorted_allKeys _).filter _) fun j => ?_
  rw [List.mem_filter]
  by_cases e : j = k
  · subst e
    constructor
    · intro hh
      have := h.sk_here.1 hh
      omega
    · intro hh
      rw [kb_self] at hh
      exact absurd hh.2 (by simp)
  · rw [kb_ne e]
    exact ⟨fun hh => ⟨(h.sk e).1 hh, rfl⟩, fun hh => (h.sk e).2 hh.1⟩
theorem Turn.away_sk (h : Turn s1 s2 k n) (hn : n = (xsV s1 k).length) (j : ByteArray) : SK s2 j ↔ ¬ j = k ∧ SK s1 j := by
  by_cases e : j = k
  · subst e
    rw [h.sk_here]
    exact ⟨fun hh => absurd hh (by omega), fun hh => absurd rfl hh.1⟩
  · rw [h.sk e]
    exact ⟨fun hh => ⟨e, hh⟩, fun hh => hh.2⟩
theorem Turn.away_len (h : Turn s1 s2 k n) (hn : n = (xsV s1 k).length) : (allKeys s1.l).length = (allKeys s2.l).length + 1 := by
  have hk : k ∉ allKeys s2.l := fun hh => by have := h.sk_here.1 hh; omega
  have e : allKeys s1.l = insK (allKeys s2.l) k := by
    refine uniq (fun _ _ => befK_asymm) (sorted_allKeys _) (sorted_insK (sorted_allKeys _)) fun j => ?_
    rw [mem_insK]
    have := h.away_sk hn j
    unfold SK at this
    rw [this]
    constructor
    · intro hh
      by_cases e : j = k
      · exact .inl e
      · exact .inr ⟨e, hh⟩
    · rintro (e | e)
      · rw [e]; exact h.there
      · exact e.2
  rw [e, insK_len hk]
end
end Go.Proofs.Ytookpmdgoednfaa.So
