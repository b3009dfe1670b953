/- Walks: post.Double, its twin, and PostDoubles. -/
import Derived.Test.YtlmbdcgciieikaaPl
namespace Go.Proofs.Ytlmbdcgciieikaa.Pb
open Go.Proofs.Ytlmbdcgciieikaa.Pu Go.Proofs.Ytlmbdcgciieikaa.Pd Go.Proofs.Ytlmbdcgciieikaa.Pt Go.Proofs.Ytlmbdcgciieikaa.Pw Go.Proofs.Ytlmbdcgciieikaa.Mp Go.Proofs.Ytlmbdcgciieikaa.Pl Go.RowKit Go.Proofs.YtlmbdcgciieikaaW.PrintWords Go.Proofs.YtlmbdcgciieikaaW.PrintLast Go.Proofs.YtlmbdcgciieikaaW.PrintMore Go.Proofs.Ytlmbdcgciieikaa.Mx Go.Proofs.Ytlmbdcgciieikaa.PPostAdds
set_option linter.unusedVariables false
set_option linter.unusedSimpArgs false
theorem sub_C {w : World} {ad : Addr} {n : Nat} {l : List S29} (h : Kd.C k29 w (some ad) n l) (k : Nat) (hk : k < l.length) : Kd.C k29 w (some (ad.add (k * 8))) 1 [rd_T29 l (k : Int)] := by
  obtain ⟨h1, h2, h3⟩ := h
  obtain ⟨ad', e, hc⟩ := h3 (by omega)
  cases e
  refine ⟨rfl, by omega, fun _ => ⟨_, rfl, fun j p hj => ?_⟩⟩
  cases j with
  | zero =>
    obtain rfl : rd_T29 l (k : Int) = p := by simpa using hj
    obtain ⟨c, g1, g2, g3⟩ := hc k (rd_T29 l (k : Int)) (by rw [rd_get hk]; exact List.getElem?_eq_getElem hk)
    refine ⟨c, g1, g2, fun i u hu => ?_⟩
    have := g3 i u hu
    rw [Nat.zero_mul, Nat.zero_add, add_add]
    exact this
  | succ j => simp at hj
theorem light_one {l : List S29} (h : Light l) {k : Nat} (hk : k < l.length) : Light [rd_T29 l (k : Int)] := ⟨by simp, fun m hm => by
  obtain rfl : m = rd_T29 l (k : Int) := by simpa using hm
  exact h.2 _ (rd_mem hk)⟩
set_option maxRecDepth 100000 in
set_option maxHeartbeats 4000000 in
theorem double_ok (A : Option Addr) (c : Nat) (l : List S29) (k : Nat) (w : World) (hl : Kd.C k29 w A l.length l) (hc : l.length ≤ c) (hk : k < l.length) (hL : Light l) :
    Calls Try.prog 15 #[.slice A l.length c, .int .i64 k] w fun e w' => ∃ A' c', e = .returned (.tuple #[.slice A' (added l [rd_T29 l (k : Int)]).length c', .int .i64 0]) ∧ Kd.C k29 w' A' (added l [rd_T29 l (k : Int)]).length (added l [rd_T29 l (k : Int)]) ∧ Below w.heap.size w w' := by
  obtain ⟨ad, A7, c7, e, _⟩ := at_T29 hl (k : Int) (by omega) (by omega)
  cases e
  have HL := Aside0.mk hl
  have HC := Aside0.mk hc
  have LL := Aside0.mk hL
  have hn := hL.1
  have q1 : ((k : Int) < (l.length : Int)) = True := eq_true (by omega)
  have q2 : decide ((l.length : Int) ≤ (k : Int)) = false := decide_eq_false (by omega)
  have q3 : decide ((k : Int) < 0) = false := decide_eq_false (by omega)
  have q4 : decide (l.length ≤ k) = false := decide_eq_false (by omega)
  have hkc : k ≤ c := by omega
  have hkc1 : k + 1 ≤ c := by omega
  have hkc2 : ¬ c = k := by omega
  have hk1 : k + 1 ≤ l.length := by omega
  have hk2 : (0 : Int) ≤ (k : Int) + 1 := by omega
  have hk3 : (k : Int) + 1 ≤ (l.length : Int) := by omega
  have hk4 : (k : Int) + 1 ≤ (c : Int) := by omega
  have hk5 : (k : Int) ≤ (k : Int) + 1 := by omega
  clear hl hc hL
  go_enter Try.func15, Try.ntmps15
  go_wp2_with fail
  refine (post_Add.calls 2000 _ _ l _ _ [rd_T29 l (k : Int)] (added l [rd_T29 l (k : Int)]) _ HL.out HC.out (sub_C HL.out k hk) (by show 1 ≤ c - k; omega) (Add_f l _ LL.out (light_one LL.out hk))).mono ?_
  rintro e w2 ⟨v, rfl, hN, hb⟩
  have N2 := Aside0.mk hN
  have B2 := Aside0.mk hb
  clear hN hb
  obtain ⟨A2, c2, he⟩ := Kd.N_slice N2.out
  subst he
  go_wp2
  refine bodyPost_ret (results_list (rs := [.tmp 4, .tmp 5]) rfl (by simp) (.tmp (.tmp .nil))) rfl ?_
  exact ⟨_, _, rfl, (Kd.N_reads' N2.out).2.2, B2.out⟩
set_option maxRecDepth 100000 in
set_option maxHeartbeats 4000000 in
theorem twin_ok (A : Option Addr) (c : Nat) (l : List S29) (k : Nat) (w : World) (hl : Kd.C k29 w A l.length l) (hc : l.length ≤ c) (hk : k < l.length) (hL : Light l) :
    Calls Try.prog 16 #[.slice A l.length c, .int .i64 k] w fun e w' => ∃ A' c', e = .returned (.tuple #[.slice A' (added l [rd_T29 l (k : Int)]).length c', .int .i64 0]) ∧ Kd.C k29 w' A' (added l [rd_T29 l (k : Int)]).length (added l [rd_T29 l (k : Int)]) ∧ Below w.heap.size w w' := by
  obtain ⟨ad, A7, c7, e, _⟩ := at_T29 hl (k : Int) (by omega) (by omega)
  cases e
  have HL := Aside0.mk hl
  have HC := Aside0.mk hc
  have LL := Aside0.mk hL
  have hn := hL.1
  have q1 : ((k : Int) < (l.length : Int)) = True := eq_true (by omega)
  have q2 : decide ((l.length : Int) ≤ (k : Int)) = false := decide_eq_false (by omega)
  have q3 : decide ((k : Int) < 0) = false := decide_eq_false (by omega)
  have q4 : decide (l.length ≤ k) = false := decide_eq_false (by omega)
  have hkc : k ≤ c := by omega
  have hkc1 : k + 1 ≤ c := by omega
  have hkc2 : ¬ c = k := by omega
  have hk1 : k + 1 ≤ l.length := by omega
  have hk2 : (0 : Int) ≤ (k : Int) + 1 := by omega
  have hk3 : (k : Int) + 1 ≤ (l.length : Int) := by omega
  have hk4 : (k : Int) + 1 ≤ (c : Int) := by omega
  have hk5 : (k : Int) ≤ (k : Int) + 1 := by omega
  clear hl hc hL
  go_enter Try.func16, Try.ntmps16
  go_wp2_with fail
  refine (falseworkref7_Add.calls _ _ _ _ l _ _ _ [rd_T29 l (k : Int)] (added l [rd_T29 l (k : Int)]) _ (view HL.out HC.out) (view (sub_C HL.out k hk) (by show 1 ≤ c - k; omega)) (Add7_f l _ LL.out (light_one LL.out hk))).mono ?_
  rintro e w2 ⟨v, rfl, hN, hb⟩
  have N2 := Aside0.mk hN
  have B2 := Aside0.mk hb
  clear hN hb
  obtain ⟨A2, c2, he⟩ := Kd.N_slice N2.out
  subst he
  go_wp2
  refine bodyPost_ret (results_list (rs := [.tmp 4, .tmp 5]) rfl (by simp) (.tmp (.tmp .nil))) rfl ?_
  exact ⟨_, _, rfl, (Kd.N_reads' N2.out).2.2, B2.out⟩
set_option maxRecDepth 100000 in
set_option maxHeartbeats 4000000 in
theorem double_bad (A : Option Addr) (c : Nat) (l : List S29) (i : Int) (w : World) (hi : i < 0 ∨ (l.length : Int) ≤ i) :
    Calls Try.prog 15 #[.slice A l.length c, .int .i64 i] w fun e w' => e = .returned (.tuple #[.slice none 0 0, .int .i64 20]) ∧ w = w' := by
  by_cases h0 : i < 0
  · have q1 : decide (i < 0) = true := decide_eq_true h0
    go_enter Try.func15, Try.ntmps15
    go_wp2
    refine bodyPost_ret (results_list (rs := [.tmp 4, .tmp 5]) rfl (by simp) (.tmp (.tmp .nil))) rfl ?_
    exact ⟨rfl, rfl⟩
  · have q1 : decide (i < 0) = false := decide_eq_false h0
    have q2 : decide ((l.length : Int) ≤ i) = true := decide_eq_true (by omega)
    have q3 : (l.length : Int) ≤ i := by omega
    clear hi
    go_enter Try.func15, Try.ntmps15
    go_wp2
    refine bodyPost_ret (results_list (rs := [.tmp 4, .tmp 5]) rfl (by simp) (.tmp (.tmp .nil))) rfl ?_
    exact ⟨rfl, rfl⟩
set_option maxRecDepth 100000 in
set_option maxHeartbeats 4000000 in
theorem twin_bad (A : Option Addr) (c : Nat) (l : List S29) (i : Int) (w : World) (hi : i < 0 ∨ (l.length : Int) ≤ i) :
    Calls Try.prog 16 #[.slice A l.length c, .int .i64 i] w fun e w' => e = .returned (.tuple #[.slice none 0 0, .int .i64 20]) ∧ w = w' := by
  by_cases h0 : i < 0
  · have q1 : decide (i < 0) = true := decide_eq_true h0
    go_enter Try.func16, Try.ntmps16
    go_wp2
    refine bodyPost_ret (results_list (rs := [.tmp 4, .tmp 5]) rfl (by simp) (.tmp (.tmp .nil))) rfl ?_
    exact ⟨rfl, rfl⟩
  · have q1 : decide (i < 0) = false := decide_eq_false h0
    have q2 : decide ((l.length : Int) ≤ i) = true := decide_eq_true (by omega)
    have q3 : (l.length : Int) ≤ i := by omega
    clear hi
    go_enter Try.func16, Try.ntmps16
    go_wp2
    refine bodyPost_ret (results_list (rs := [.tmp 4, .tmp 5]) rfl (by simp) (.tmp (.tmp .nil))) rfl ?_
    exact ⟨rfl, rfl⟩
set_option maxRecDepth 100000 in
set_option maxHeartbeats 4000000 in
theorem doubles_calls (A : Option Addr) (c : Nat) (l : List S29) (i : Int) (w : World) (hl : Kd.C k29 w A l.length l) (hc : l.length ≤ c) :
    Calls Try.prog 6 #[.slice A l.length c, .int .i64 i] w fun e w' => e = .returned (.bool true) ∧ Mem w w' [] := by
  have HL := Aside0.mk hl
  have HC := Aside0.mk hc
  clear hl hc
  obtain ⟨r, hr, hf⟩ := heavy_f l
  have M0 := Aside0.mk (Mem.nil w)
  have HR := Aside0.mk hr
  have HF := Aside0.mk hf
  clear hr hf
  go_enter Try.func6, Try.ntmps6
  go_wp2_with fail
  refine (falseworklaw9_heavy.calls _ _ _ l r _ HL.out HC.out HR.out).mono ?_
  rintro e w1 ⟨rfl, hb⟩
  have M1 := Aside0.mk (M0.out.grow hb)
  clear hb
  cases r with
  | true =>
    go_wp2_with fail
    refine (awake_calls _).mono ?_
    rintro e w2 ⟨rfl, hA⟩
    have M2 := Aside0.mk (M1.out.trans hA)
    clear hA
    go_wp2
    go_ret
    exact ⟨rfl, M2.out⟩
  | false =>
  have l1 := HF.out (by first | trivial | rfl)
  have LL := Aside0.mk l1
  clear l1
  go_wp2_with fail
  by_cases hi : i < 0 ∨ (l.length : Int) ≤ i
  · refine (double_bad A c l i _ hi).mono ?_
    rintro e w2 ⟨rfl, rfl⟩
    go_wp2_with fail
    refine (twin_bad A c l i _ hi).mono ?_
    rintro e w2 ⟨rfl, rfl⟩
    go_wp2_with fail
    refine (messages_calls none none 0 0 [] _ (Kd.C_nil k29 _) (Kd.C_nil k29 _) (by decide) (fun i => by unfold rd_T29; simp; decide)).mono ?_
    rintro e w2 ⟨rfl, hM2⟩
    have M2 := Aside0.mk (M1.out.trans hM2)
    clear hM2
    go_wp2_with fail
    refine (falseworklaw9_num.calls 20 20 _ rfl).mono ?_
    rintro e w3 ⟨rfl, hD⟩
    have M3 := Aside0.mk (M2.out.drawn hD)
    clear hD
    go_wp2_with fail
    refine (awake_calls _).mono ?_
    rintro e w4 ⟨rfl, hA⟩
    have M4 := Aside0.mk (M3.out.trans hA)
    clear hA
    go_wp2
    go_ret
    exact ⟨rfl, M4.out⟩
  · obtain ⟨k, rfl⟩ : ∃ k : Nat, i = k := ⟨i.toNat, by omega⟩
    have hk : k < l.length := by omega
    have LM := Aside0.mk (light_one LL.out hk)
    refine (double_ok A c l k _ (Kd.C_below HL.out M1.out.below) HC.out hk LL.out).mono ?_
    rintro e w2 ⟨A2, c2, rfl, hC, hb⟩
    have C2 := Aside0.mk hC
    have M2 := Aside0.mk (M1.out.grow hb)
    clear hC hb
    go_wp2_with fail
    refine (twin_ok A c l k _ (Kd.C_below HL.out M2.out.below) HC.out hk LL.out).mono ?_
    rintro e w3 ⟨A3, c3, rfl, hC, hb⟩
    have C3 := Aside0.mk hC
    have B3 := Aside0.mk hb
    have M3 := Aside0.mk (M2.out.grow B3.out)
    clear hC hb
    go_wp2_with fail
    refine (messages_calls _ _ _ _ (added l [rd_T29 l (k : Int)]) _ (Kd.C_below C2.out B3.out) C3.out (by have := added_len l _ LL.out LM.out; omega) (added_logs l _ LL.out LM.out)).mono ?_
    rintro e w4 ⟨rfl, hM4⟩
    have M4 := Aside0.mk (M3.out.trans hM4)
    clear hM4
    go_wp2_with fail
    refine (falseworklaw9_num.calls 0 0 _ rfl).mono ?_
    rintro e w5 ⟨rfl, hD⟩
    have M5 := Aside0.mk (M4.out.drawn hD)
    clear hD
    go_wp2_with fail
    refine (awake_calls _).mono ?_
    rintro e w6 ⟨rfl, hA⟩
    have M6 := Aside0.mk (M5.out.trans hA)
    clear hA
    go_wp2
    go_ret
    exact ⟨rfl, M6.out⟩
end Go.Proofs.Ytlmbdcgciieikaa.Pb
