/- Walks: PostAdds. -/
import Derived.Test.YtlmbdcgciieikaaPw
namespace Go.Proofs.Ytlmbdcgciieikaa.Pl
open Go.Proofs.Ytlmbdcgciieikaa.Pu Go.Proofs.Ytlmbdcgciieikaa.Pd Go.Proofs.Ytlmbdcgciieikaa.Pt Go.Proofs.Ytlmbdcgciieikaa.Pw Go.Proofs.Ytlmbdcgciieikaa.Mp Go.RowKit Go.Proofs.YtlmbdcgciieikaaW.PrintWords Go.Proofs.YtlmbdcgciieikaaW.PrintLast Go.Proofs.YtlmbdcgciieikaaW.PrintMore Go.Proofs.Ytlmbdcgciieikaa.Mx Go.Proofs.Ytlmbdcgciieikaa.PPostAdds
set_option linter.unusedVariables false
set_option linter.unusedSimpArgs false
theorem k29_heap : Kd.Heap k29 := Kd.heap_iso _ (Kd.heap_pair (Kd.heap_int .i64) (Kd.heap_pair (Kd.heap_int .i64) (Kd.heap_pair (Kd.heap_int .i64) (Kd.heap_pair (Kd.heap_int .i64) (Kd.heap_pair (Kd.heap_int .i64) (Kd.heap_pair (Kd.heap_int .i64) (Kd.heap_pair (Kd.heap_int .i64) (Kd.heap_slice 48 (Kd.heap_iso _ (Kd.heap_pair (Kd.heap_int .i64) Kd.heap_string))))))))))
theorem view {w : World} {A : Option Addr} {l : List S29} {c : Nat} (h : Kd.C k29 w A l.length l) (hc : l.length ≤ c) : Kd.V k29 29 w w.heap.size (fun k => k < w.heap.size) (.slice A l.length c) l := Kd.V_mk hc (Kd.C_F k29_heap h)
/-- The block of a row of messages: its first fields are numbers. -/
theorem row_blk {w : World} {A : Option Addr} {n c : Nat} {xs : List S29} {base : Nat} {ok : Nat → Prop} (h : Kd.N k29 29 w base ok (.slice A n c) xs) (hp : 0 < xs.length) :
    ∃ (g : Nat) (cur : Array Value), A = some ⟨g, 0, none⟩ ∧ base ≤ g ∧ g < w.heap.size ∧ w.heap[g]? = some (.cells cur 29 (0, 0)) ∧ ∀ j : Nat, j < xs.length → ∃ x : Int, cur[j * 8]? = some (.int .i64 x) := by
  obtain ⟨g, cap, he, hb, hl, cur, hg⟩ := Kd.N_form h hp
  obtain ⟨hn, hc, hC⟩ := Kd.N_reads' h
  injection he with he1 he2 he3
  subst he1
  refine ⟨g, cur, rfl, hb, hl, hg, fun j hj => ?_⟩
  obtain ⟨ad, A7, c7, e, hx0, _⟩ := at_T29 hC (j : Int) (by omega) (by omega)
  cases e
  simp only [Int.toNat_natCast, add_plain, Nat.zero_add] at hx0
  rw [cell_of_row w g _ cur 29 (0, 0) hg] at hx0
  exact ⟨_, hx0⟩
theorem added_len (l more : List S29) (h1 : Light l) (h2 : Light more) : (added l more).length ≤ 2000 := by
  unfold added
  rw [List.length_append, List.length_take]
  have := h1.1
  have := h2.1
  omega
theorem added_logs (l more : List S29) (h1 : Light l) (h2 : Light more) (i : Int) : (rd_T29 (added l more) i).f7.length ≤ 1000000000 := by
  unfold rd_T29
  by_cases h : i.toNat < (added l more).length
  · have hm : (added l more).getD i.toNat z29 ∈ added l more := by
      rw [List.getD_eq_getElem?_getD, List.getElem?_eq_getElem h]
      exact List.getElem_mem h
    unfold added at hm ⊢
    rcases List.mem_append.1 hm with hm | hm
    · have := h1.2 _ hm; omega
    · have := h2.2 _ (List.mem_of_mem_take hm); omega
  · rw [List.getD_eq_getElem?_getD, List.getElem?_eq_none (by omega)]
    decide
set_option maxRecDepth 100000 in
set_option maxHeartbeats 4000000 in
theorem adds_calls (A B : Option Addr) (c d : Nat) (l more : List S29) (w : World) (hl : Kd.C k29 w A l.length l) (hc : l.length ≤ c) (hm : Kd.C k29 w B more.length more) (hd : more.length ≤ d) :
    Calls Try.prog 3 #[.slice A l.length c, .slice B more.length d] w fun e w' => e = .returned (.bool true) ∧ Mem w w' [] := by
  have HL := Aside0.mk hl
  have HM := Aside0.mk hm
  have HC := Aside0.mk hc
  have HD := Aside0.mk hd
  clear hl hm hc hd
  obtain ⟨r, hr, hf⟩ := heavy_f l
  obtain ⟨r2, hr2, hf2⟩ := heavy_f more
  have M0 := Aside0.mk (Mem.nil w)
  have HR := Aside0.mk hr
  have HR2 := Aside0.mk hr2
  have HF := Aside0.mk hf
  have HF2 := Aside0.mk hf2
  clear hr hr2 hf hf2
  go_enter Try.func3, Try.ntmps3
  go_wp2_with fail
  refine (falseworklaw9_heavy.calls _ _ _ l r _ HL.out HC.out HR.out).mono ?_
  rintro e w1 ⟨rfl, hb⟩
  have M1 := Aside0.mk (M0.out.grow hb)
  clear hb
  cases r with
  | true =>
    go_wp2_with fail
    refine (awake_calls _).mono ?_
    rintro e w2 ⟨rfl, hA⟩
    have M2 := Aside0.mk (M1.out.trans hA)
    clear hA
    go_wp2
    go_ret
    exact ⟨rfl, M2.out⟩
  | false =>
  go_wp2_with fail
  refine (falseworklaw9_heavy.calls _ _ _ more r2 _ (Kd.C_below HM.out M1.out.below) HD.out HR2.out).mono ?_
  rintro e w2 ⟨rfl, hb⟩
  have M2 := Aside0.mk (M1.out.grow hb)
  clear hb
  cases r2 with
  | true =>
    go_wp2_with fail
    refine (awake_calls _).mono ?_
    rintro e w3 ⟨rfl, hA⟩
    have M3 := Aside0.mk (M2.out.trans hA)
    clear hA
    go_wp2
    go_ret
    exact ⟨rfl, M3.out⟩
  | false =>
  have l1 := HF.out (by first | trivial | rfl)
  have l2 := HF2.out (by first | trivial | rfl)
  have LL := Aside0.mk l1
  have LM := Aside0.mk l2
  clear l1 l2
  go_wp2_with fail
  refine (post_Add.calls 2000 _ _ l _ _ more (added l more) _ (Kd.C_below HL.out M2.out.below) HC.out (Kd.C_below HM.out M2.out.below) HD.out (Add_f l more LL.out LM.out)).mono ?_
  rintro e w3 ⟨v, rfl, hN, hb⟩
  have N3 := Aside0.mk hN
  have B3 := Aside0.mk hb
  clear hN hb
  obtain ⟨A3, c3, he⟩ := Kd.N_slice N3.out
  subst he
  go_wp2_with fail
  have M3 := Aside0.mk (M2.out.grow B3.out)
  refine (falseworkref7_Add.calls _ _ _ _ l _ _ _ more (added l more) _ (view (Kd.C_below HL.out M3.out.below) HC.out) (view (Kd.C_below HM.out M3.out.below) HD.out) (Add7_f l more LL.out LM.out)).mono ?_
  rintro e w4 ⟨v, rfl, hN, hb⟩
  have N4 := Aside0.mk hN
  have B4 := Aside0.mk hb
  have M4 := Aside0.mk (M3.out.grow B4.out)
  clear hN hb
  obtain ⟨A4, c4, he⟩ := Kd.N_slice N4.out
  subst he
  go_wp2_with fail
  refine (messages_calls _ _ _ _ (added l more) _ (Kd.C_below (Kd.N_reads' N3.out).2.2 B4.out) (Kd.N_reads' N4.out).2.2 (by have := added_len l more LL.out LM.out; omega) (added_logs l more LL.out LM.out)).mono ?_
  rintro e w5 ⟨rfl, hM5⟩
  have M5 := Aside0.mk (M4.out.trans hM5)
  have B5 := Aside0.mk hM5.below
  clear hM5
  have I5 : Aside0 (0 < (added l more).length → ∃ g cur, A3 = some ⟨g, 0, none⟩ ∧ Mem w w5 [blk g 29 cur] ∧ ∀ j : Nat, j < (added l more).length → ∃ x : Int, cur[j * 8]? = some (.int .i64 x)) := by
    refine ⟨fun hp => ?_⟩
    obtain ⟨g, cur, e, h1, h2, h3, h4⟩ := row_blk N3.out hp
    refine ⟨g, cur, e, ?_, h4⟩
    have q := M2.out.cons (r := blk g 29 cur) B3.out ⟨h3, h1, h2⟩
    exact (q.grow B4.out).grow B5.out
  have HN := Aside0.mk (added_len l more LL.out LM.out)
  go_wp2_with fail
  go_loopg [7] ((added l more).length + 1) (fun kq v7 w' => ∃ (k : Nat), v7 = .int .i64 k ∧ Aside0 (k ≤ (added l more).length ∧ kq = (added l more).length + 1 - k) ∧ Aside0 (Mem w w' []) ∧ Aside0 (0 < (added l more).length → ∃ g cur, A3 = some ⟨g, 0, none⟩ ∧ Mem w w' [blk g 29 cur] ∧ ∀ j : Nat, j < (added l more).length → ∃ x : Int, cur[j * 8]? = some (.int .i64 x)))
  case atStart => exact ⟨0, rfl, ⟨Nat.zero_le _, rfl⟩, M5, I5⟩
  case round =>
    clear I5 M5 B5 M4 B4 N4 M3 B3 N3 M2 M1
    obtain ⟨k, rfl, HK, M6, I6⟩ := hrel
    by_cases hlt : k < (added l more).length
    · obtain ⟨g, cur, rfl, hM7, hx⟩ := I6.out (by omega)
      have M7 := Aside0.mk hM7
      obtain ⟨x, hxk⟩ := hx k hlt
      have HX := Aside0.mk hx
      clear hM7 hx I6 M6
      have cB := blk_cell (M7.out.blk_at 0 rfl)
      have fB := blk_frozen (M7.out.blk_at 0 rfl)
      have c0 := (cB (k * 8)).trans hxk
      have hkb : k * 8 < cur.size := (Array.getElem?_eq_some_iff.1 hxk).1
      have f0 := fB (k * 8)
      clear cB fB
      have q1 : ((k : Int) < ((added l more).length : Int)) = True := eq_true (by omega)
      have q2 : decide ((k : Int) < ((added l more).length : Int)) = true := decide_eq_true (by omega)
      go_wp2
      go_roundg ((added l more).length - k)
      case measure => have := HK.out; omega
      case rel =>
        have M8 := fun v => M7.out.set 0 rfl (k * 8) v
        refine ⟨k + 1, by have := HN.out; (rw [wrap64_id (by omega) (by omega)]; push_cast; rfl), ⟨by omega, by have := HK.out; omega⟩, ⟨Mem.sel (ps := [_]) (F := []) [] 1 (M8 _) rfl rfl⟩, ⟨fun _ => ⟨g, _, rfl, M8 _, fun j hj => ?_⟩⟩⟩
        by_cases hjk : k * 8 = j * 8
        · exact ⟨_, by rw [← hjk]; exact Array.getElem?_setIfInBounds_self_of_lt hkb⟩
        · obtain ⟨y, hy⟩ := HX.out j hj
          exact ⟨y, by rw [Array.getElem?_setIfInBounds_ne hjk]; exact hy⟩
    · have hk : k = (added l more).length := by have := HK.out.1; omega
      subst hk
      go_wp2_with fail
      refine (post_Add.calls 2000 _ _ l _ _ more (added l more) _ (Kd.C_below HL.out M6.out.below) HC.out (Kd.C_below HM.out M6.out.below) HD.out (Add_f l more LL.out LM.out)).mono ?_
      rintro e w7 ⟨v, rfl, hN, hb⟩
      have N7 := Aside0.mk hN
      have M7 := Aside0.mk (M6.out.grow hb)
      clear hN hb
      obtain ⟨A7, c7, he⟩ := Kd.N_slice N7.out
      subst he
      go_wp2_with fail
      refine (falseworkref7_Add.calls _ _ _ _ l _ _ _ more (added l more) _ (view (Kd.C_below HL.out M7.out.below) HC.out) (view (Kd.C_below HM.out M7.out.below) HD.out) (Add7_f l more LL.out LM.out)).mono ?_
      rintro e w8 ⟨v, rfl, hN, hb⟩
      have N8 := Aside0.mk hN
      have B8 := Aside0.mk hb
      have M8 := Aside0.mk (M7.out.grow B8.out)
      clear hN hb
      obtain ⟨A8, c8, he⟩ := Kd.N_slice N8.out
      subst he
      go_wp2_with fail
      refine (messages_calls _ _ _ _ (added l more) _ (Kd.C_below (Kd.N_reads' N7.out).2.2 B8.out) (Kd.N_reads' N8.out).2.2 (by have := added_len l more LL.out LM.out; omega) (added_logs l more LL.out LM.out)).mono ?_
      rintro e w9 ⟨rfl, hM9⟩
      have M9 := Aside0.mk (M8.out.trans hM9)
      clear hM9
      go_wp2_with fail
      refine (awake_calls _).mono ?_
      rintro e w10 ⟨rfl, hA⟩
      have M10 := Aside0.mk (M9.out.trans hA)
      clear hA
      go_wp2
      go_ret
      exact ⟨rfl, M10.out⟩
end Go.Proofs.Ytlmbdcgciieikaa.Pl
