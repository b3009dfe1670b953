/- Walks: PostTakes. -/
import Derived.Test.YtlmbdcgciieikaaPb
import Derived.Test.YtlmbdcgciieikaaQTake
namespace Go.Proofs.Ytlmbdcgciieikaa.Pk
open Go.Proofs.Ytlmbdcgciieikaa.Pu Go.Proofs.Ytlmbdcgciieikaa.Pd Go.Proofs.Ytlmbdcgciieikaa.Pt Go.Proofs.Ytlmbdcgciieikaa.Pw Go.Proofs.Ytlmbdcgciieikaa.Mp Go.Proofs.Ytlmbdcgciieikaa.Pl Go.Proofs.Ytlmbdcgciieikaa.Pb Go.RowKit Go.Proofs.YtlmbdcgciieikaaW.PrintWords Go.Proofs.YtlmbdcgciieikaaW.PrintLast Go.Proofs.YtlmbdcgciieikaaW.PrintMore Go.Proofs.Ytlmbdcgciieikaa.Mx Go.Proofs.Ytlmbdcgciieikaa.PPostAdds
set_option linter.unusedVariables false
set_option linter.unusedSimpArgs false
/-- A message's cells in a block read as a list of one. -/
theorem one_CC {w : World} {g c7 : Nat} {A7 : Option Addr} {m : S29} (hb : w.heap[g]? = some (.cells (@cells_ A7 c7 m).toArray 29 (0, 0))) (hl : m.f7.length ≤ c7) (h7 : Kd.C k48 w A7 m.f7.length m.f7) : Kd.C k29 w (some ⟨g, 0, none⟩) 1 [m] :=
  (reads_one (d := k29) m hb rfl).imp_ (Below.refl _ _) (fun x c hx => by obtain ⟨rfl, rfl⟩ := hx; exact k29_mk w x hl h7)
theorem take7_ok (l : List S29) (k : Nat) (hk : k < l.length) (hn : l.length ≤ 1000) : falseworkref7_Take.f l k = some ((rd_T29 l k).f0, (rd_T29 l k).f1, (rd_T29 l k).f2, (rd_T29 l k).f3, (rd_T29 l k).f4, (rd_T29 l k).f5, (rd_T29 l k).f6, (rd_T29 l k).f7, l.eraseIdx k, 0) := by
  have e1 : ((k : Int) + 1).toNat = k + 1 := by omega
  have e2 : wrap64 ((k : Int) + 1) = (k : Int) + 1 := wrap64_id (by omega) (by omega)
  have e3 : l.take k ++ l.drop (k + 1) = l.eraseIdx k := (List.eraseIdx_eq_take_drop_succ l k).symm
  have c1 : ¬ (k : Int) < 0 := by omega
  have c2 : ¬ (k : Int) ≥ (l.length : Int) := by omega
  have c3 : (0 : Int) ≤ k := by omega
  have c4 : (k : Int) ≤ (l.length : Int) := by omega
  have c5 : (0 : Int) ≤ (k : Int) + 1 := by omega
  have c6 : (k : Int) + 1 ≤ (l.length : Int) := by omega
  have c7 : (k : Int) < (l.length : Int) := by omega
  have c8 : (l.take k).length < 1759218604441 := by rw [List.length_take]; omega
  have c9 : (l.take k).length + (l.drop (k + 1)).length < 1759218604441 := by rw [List.length_take, List.length_drop]; omega
  unfold falseworkref7_Take.f
  rw [if_neg c1, if_neg c2]
  simp only [Option.bind_some, List.nil_append, List.length_nil, Nat.zero_add, Int.toNat_natCast, e2, e1, e3]
  rw [if_pos c3, if_pos c4, if_pos c8, if_pos c5, if_pos c6, if_pos c9, if_pos c7]
theorem take7_bad (l : List S29) (i : Int) (hi : i < 0 ∨ (l.length : Int) ≤ i) : falseworkref7_Take.f l i = some (0, 0, 0, 0, 0, 0, 0, [], [], 20) := by
  unfold falseworkref7_Take.f
  by_cases h : i < 0
  · rw [if_pos h]
  · rw [if_neg h, if_pos (by omega)]
set_option maxRecDepth 100000 in
set_option maxHeartbeats 4000000 in
theorem take_bad (A : Option Addr) (c : Nat) (l : List S29) (i : Int) (w : World) (hi : i < 0 ∨ (l.length : Int) ≤ i) :
    Calls Try.prog 12 #[.slice A l.length c, .int .i64 i] w fun e w' => e = .returned (.tuple #[.agg #[.int .i64 0, .int .i64 0, .int .i64 0, .int .i64 0, .int .i64 0, .int .i64 0, .int .i64 0, .slice none 0 0], .slice none 0 0, .int .i64 20]) ∧ Mem w w' [] := by
  have M0 := Aside0.mk ((Mem.nil w).alloc #[.int .i64 0, .int .i64 0, .int .i64 0, .int .i64 0, .int .i64 0, .int .i64 0, .int .i64 0, .slice none 0 0] 29)
  by_cases h0 : i < 0
  · have q1 : decide (i < 0) = true := decide_eq_true h0
    go_enter Try.func12, Try.ntmps12
    go_wp2
    refine bodyPost_ret (results_list (rs := [.cell 4 29, .tmp 5, .tmp 6]) rfl (by simp) (.cell w.heap.size 29 #[.int .i64 0, .int .i64 0, .int .i64 0, .int .i64 0, .int .i64 0, .int .i64 0, .int .i64 0, .slice none 0 0] (0, 0) _ rfl (M0.out.blk_at 0 rfl) Try.underlying29 rfl (by kernel_rfl) (.tmp (.tmp .nil)))) rfl ?_
    exact ⟨rfl, Mem.sel (ps := [_]) (F := []) [] 1 M0.out rfl rfl⟩
  · have q1 : decide (i < 0) = false := decide_eq_false h0
    have q2 : decide ((l.length : Int) ≤ i) = true := decide_eq_true (by omega)
    have q3 : (l.length : Int) ≤ i := by omega
    clear hi
    go_enter Try.func12, Try.ntmps12
    go_wp2
    refine bodyPost_ret (results_list (rs := [.cell 4 29, .tmp 5, .tmp 6]) rfl (by simp) (.cell w.heap.size 29 #[.int .i64 0, .int .i64 0, .int .i64 0, .int .i64 0, .int .i64 0, .int .i64 0, .int .i64 0, .slice none 0 0] (0, 0) _ rfl (M0.out.blk_at 0 rfl) Try.underlying29 rfl (by kernel_rfl) (.tmp (.tmp .nil)))) rfl ?_
    exact ⟨rfl, Mem.sel (ps := [_]) (F := []) [] 1 M0.out rfl rfl⟩
theorem erase_light {l : List S29} (h : Light l) (k : Nat) : Light (l.eraseIdx k) := ⟨Nat.le_trans (List.length_eraseIdx_le l k) h.1, fun m hm => h.2 m (List.mem_of_mem_eraseIdx hm)⟩
theorem light_logs {l : List S29} (h : Light l) (i : Int) : (rd_T29 l i).f7.length ≤ 1000000000 := by
  unfold rd_T29
  by_cases g : i.toNat < l.length
  · have hm : l.getD i.toNat z29 ∈ l := by
      rw [List.getD_eq_getElem?_getD, List.getElem?_eq_getElem g]
      exact List.getElem_mem g
    have := h.2 _ hm
    omega
  · rw [List.getD_eq_getElem?_getD, List.getElem?_eq_none (by omega)]
    decide
set_option maxRecDepth 100000 in
set_option maxHeartbeats 4000000 in
theorem takes_calls (A : Option Addr) (c : Nat) (l : List S29) (i : Int) (w : World) (hl : Kd.C k29 w A l.length l) (hc : l.length ≤ c) :
    Calls Try.prog 4 #[.slice A l.length c, .int .i64 i] w fun e w' => e = .returned (.bool true) ∧ Mem w w' [] := by
  have HL := Aside0.mk hl
  have HC := Aside0.mk hc
  clear hl hc
  obtain ⟨r, hr, hf⟩ := heavy_f l
  have M0 := Aside0.mk (Mem.nil w)
  have HR := Aside0.mk hr
  have HF := Aside0.mk hf
  clear hr hf
  go_enter Try.func4, Try.ntmps4
  go_wp2_with fail
  refine (falseworklaw9_heavy.calls _ _ _ l r _ HL.out HC.out HR.out).mono ?_
  rintro e w1 ⟨rfl, hb⟩
  have M1 := Aside0.mk (M0.out.grow hb)
  clear hb
  cases r with
  | true =>
    go_wp2_with fail
    refine (awake_calls _).mono ?_
    rintro e w2 ⟨rfl, hA⟩
    have M2 := Aside0.mk (M1.out.trans hA)
    clear hA
    go_wp2
    go_ret
    exact ⟨rfl, M2.out⟩
  | false =>
  have l1 := HF.out (by first | trivial | rfl)
  have LL := Aside0.mk l1
  have hn := l1.1
  clear l1
  go_wp2_with fail
  obtain ⟨m, t, co, hco, hlt, hsm, hA7, hT⟩ : ∃ (m : S29) (t : List S29) (co : Int), (co = 0 ∨ co = 20) ∧ Light t ∧ Light [m] ∧ falseworkref7_Take.f l i = some (m.f0, m.f1, m.f2, m.f3, m.f4, m.f5, m.f6, m.f7, t, co) ∧
      Calls Try.prog 12 #[.slice A l.length c, .int .i64 i] w1 fun e w' => ∃ A7 c7 A8 c8, e = .returned (.tuple #[.agg #[.int .i64 m.f0, .int .i64 m.f1, .int .i64 m.f2, .int .i64 m.f3, .int .i64 m.f4, .int .i64 m.f5, .int .i64 m.f6, .slice A7 m.f7.length c7], .slice A8 t.length c8, .int .i64 co]) ∧ m.f7.length ≤ c7 ∧ Kd.C k48 w' A7 m.f7.length m.f7 ∧ Kd.C k29 w' A8 t.length t ∧ Mem w1 w' [] := by
    by_cases hi : i < 0 ∨ (l.length : Int) ≤ i
    · refine ⟨z29, [], 20, .inr rfl, ⟨by decide, by simp⟩, ⟨by decide, by intro m hm; obtain rfl : m = z29 := (by simpa using hm); decide⟩, take7_bad l i hi, (take_bad A c l i w1 hi).mono ?_⟩
      rintro e w2 ⟨rfl, hM⟩
      exact ⟨none, 0, none, 0, rfl, Nat.le_refl _, Kd.C_nil k48 _, Kd.C_nil k29 _, hM⟩
    · obtain ⟨k, rfl⟩ : ∃ k : Nat, i = k := ⟨i.toNat, by omega⟩
      have hk : k < l.length := by omega
      refine ⟨rd_T29 l (k : Int), l.eraseIdx k, 0, .inl rfl, erase_light LL.out k, light_one LL.out hk, take7_ok l k hk hn, (take_ok A c l k _ w1 (Kd.C_below HL.out M1.out.below) HC.out hk rfl (by omega) (fun m hm => by have := LL.out.2 m hm; omega)).mono ?_⟩
      rintro e w2 ⟨v7, v, rfl, hM⟩
      obtain ⟨A7, c7, he7, h7, g7⟩ := hM.row_at 1 rfl
      obtain ⟨A8, c8, he8, h8, g8⟩ := hM.row_at 0 rfl
      subst he7; subst he8
      exact ⟨A7, c7, A8, c8, rfl, h7, g7, g8, Mem.sel (ps := [_, _]) (F := []) [] 2 hM rfl rfl⟩
  have F7 := Aside0.mk hA7
  have LT := Aside0.mk hlt
  have LM := Aside0.mk hsm
  have hco0 : (co == co) = true := by simp
  clear hA7 hlt hsm
  refine hT.mono ?_
  rintro e w2 ⟨A7, c7, A8, c8, rfl, h7, g7, g8, hM⟩
  have M2 := Aside0.mk (M1.out.trans hM)
  have H7 := Aside0.mk h7
  have G7 := Aside0.mk g7
  have G8 := Aside0.mk g8
  clear hM h7 g7 g8 hT
  go_wp2_with fail
  have M3 := Aside0.mk (M2.out.alloc (@cells_ A7 c7 m).toArray 29)
  refine (falseworkref7_Take.calls _ _ _ l i m.f0 m.f1 m.f2 m.f3 m.f4 m.f5 m.f6 m.f7 t co _ (view (Kd.C_below HL.out M3.out.below) HC.out) F7.out).mono ?_
  rintro e w3 ⟨v7, v8, rfl, hV, hN, hb⟩
  have B4 := Aside0.mk hb
  have M4 := Aside0.mk (M3.out.grow hb)
  have N4 := Aside0.mk hN
  obtain ⟨A9, c9, he⟩ := Kd.N_slice hN
  subst he
  obtain ⟨B7, d7, he⟩ := Kd.V_slice hV
  subst he
  have V4 := Aside0.mk hV
  clear hV hN hb
  have cB := blk_cell (M4.out.blk_at 0 rfl)
  simp only [cells_] at cB
  have lt4 : w2.heap.size < w3.heap.size := blk_lt (M4.out.blk_at 0 rfl)
  have ne4 : ¬ w2.heap.size = w3.heap.size := by omega
  have ne5 : ¬ w2.heap.size = w3.heap.size + 1 := by omega
  have M5 := Aside0.mk (((M4.out.allocAt (@cells_ B7 d7 m).toArray 29 _ rfl).allocAt (@cells_ A7 c7 m).toArray 29 (w3.heap.size + 1) (by simp)).allocAt (@cells_ B7 d7 m).toArray 29 (w3.heap.size + 1 + 1) (by simp))
  have K5 := Aside0.mk (below_alloc (below_alloc (below_alloc (Below.refl w3.heap.size w3) (.cells (@cells_ B7 d7 m).toArray 29 (0, 0))) (.cells (@cells_ A7 c7 m).toArray 29 (0, 0))) (.cells (@cells_ B7 d7 m).toArray 29 (0, 0)))
  have K3 := Aside0.mk (below_alloc (Below.refl w2.heap.size w2) (.cells (@cells_ A7 c7 m).toArray 29 (0, 0)))
  go_wp2_with fail
  refine (messages_calls _ _ _ _ [m] _ (one_CC (M5.out.blk_at 1 rfl) H7.out (Kd.C_below (Kd.C_below (Kd.C_below G7.out K3.out) B4.out) K5.out)) (one_CC (M5.out.blk_at 0 rfl) (Kd.V_reads' V4.out).2.1 (Kd.C_below (Kd.V_reads' V4.out).2.2 K5.out)) (by simp) (light_logs LM.out)).mono ?_
  rintro e w6 ⟨rfl, hM6⟩
  have B6 := Aside0.mk hM6.below
  have M6 := Aside0.mk (M5.out.trans hM6)
  clear hM6
  go_wp2_with fail
  refine (messages_calls _ _ _ _ t _ (Kd.C_below (Kd.C_below (Kd.C_below (Kd.C_below G8.out K3.out) B4.out) K5.out) B6.out) (Kd.C_below (Kd.C_below (Kd.N_reads' N4.out).2.2 K5.out) B6.out) (by have := LT.out.1; omega) (light_logs LT.out)).mono ?_
  rintro e w7 ⟨rfl, hM7⟩
  have M7 := Aside0.mk (M6.out.trans hM7)
  clear hM7
  go_wp2_with fail
  refine (falseworklaw9_num.calls co co _ rfl).mono ?_
  rintro e w8 ⟨rfl, hD⟩
  have M8 := Aside0.mk (M7.out.drawn hD)
  clear hD
  go_wp2_with fail
  refine (awake_calls _).mono ?_
  rintro e w9 ⟨rfl, hA⟩
  have M9 := Aside0.mk (M8.out.trans hA)
  clear hA
  go_wp2
  go_ret
  exact ⟨rfl, Mem.sel (ps := [_, _, _, _]) (F := []) [] 4 M9.out rfl rfl⟩
end Go.Proofs.Ytlmbdcgciieikaa.Pk
