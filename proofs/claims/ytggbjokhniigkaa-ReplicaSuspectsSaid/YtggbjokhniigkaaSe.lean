/- ReplicaSuspects' walk. -/
import Derived.Test.YtggbjokhniigkaaSd
import Derived.Test.YtggbjokhniigkaaMs
import Derived.Test.YtggbjokhniigkaaWk
namespace Go.Proofs.Ytggbjokhniigkaa.Se
open Go.Proofs.Ytggbjokhniigkaa.Ty Go.RowKit Go.Proofs.YtggbjokhniigkaaW.PrintWords Go.Proofs.YtggbjokhniigkaaW.PrintLast Go.Proofs.YtggbjokhniigkaaW.PrintMore Go.Proofs.Ytggbjokhniigkaa.Mx Go.Proofs.Ytggbjokhniigkaa.Kx Go.Proofs.Ytggbjokhniigkaa.Wa Go.Proofs.Ytggbjokhniigkaa.Wb Go.Proofs.Ytggbjokhniigkaa.Wc Go.Proofs.Ytggbjokhniigkaa.Wd Go.Proofs.Ytggbjokhniigkaa.We Go.Proofs.Ytggbjokhniigkaa.Wj Go.Proofs.Ytggbjokhniigkaa.Va Go.Proofs.Ytggbjokhniigkaa.Vb Go.Proofs.Ytggbjokhniigkaa.Vc Go.Proofs.Ytggbjokhniigkaa.Sa Go.Proofs.Ytggbjokhniigkaa.Sb Go.Proofs.Ytggbjokhniigkaa.Sc Go.Proofs.Ytggbjokhniigkaa.Sd Go.Proofs.Ytggbjokhniigkaa.Wk Go.Proofs.Ytggbjokhniigkaa.PReplicaProposes
set_option linter.unusedVariables false
set_option linter.unusedSimpArgs false
theorem allFrom_len (id n view : Int) (m : Msg) : ∀ (k : Nat) (i : Int), (allFrom id n view m k i).length ≤ k
  | 0, _ => by simp [allFrom]
  | k + 1, i => by
    have := allFrom_len id n view m k (i + 1)
    simp only [allFrom]
    split
    · split
      · omega
      · simp only [List.length_cons]; omega
    · simp
theorem allFrom_f7 (id n view : Int) (m : Msg) : ∀ (k : Nat) (i : Int), ∀ x ∈ allFrom id n view m k i, x.f7 = m.f7
  | 0, _ => by simp [allFrom]
  | k + 1, i => by
    have ih := allFrom_f7 id n view m k (i + 1)
    simp only [allFrom]
    split
    · split
      · exact ih
      · intro x hx
        rcases List.mem_cons.1 hx with rfl | hx
        · rfl
        · exact ih x hx
    · simp
theorem rd_f7 {l : List Msg} {n : Nat} (h : ∀ x ∈ l, x.f7.length ≤ n) (i : Int) : (rd_Msg l i).f7.length ≤ n := by
  unfold rd_Msg
  rcases Nat.lt_or_ge i.toNat l.length with g | g
  · rw [List.getD, List.getElem?_eq_getElem g]
    exact h _ (List.getElem_mem g)
  · rw [List.getD, List.getElem?_eq_none g]
    exact Nat.zero_le _
def Few (s : Rep) : Prop := s.f5.length < 1000000 ∧ s.f7.length < 1000000 ∧ s.f8.length < 1000000 ∧ s.f9.length < 1000000 ∧ s.f10.length < 1000000
theorem may_n {r : Rep} (h : may r = true) : r.f1.toNat ≤ 5 := by
  have := ((may_iff r).1 h).1
  unfold size at this
  simp at this
  omega
theorem suspect_small (r : Rep) (s : Rep) (msgs : List Msg) (code : Int) (hp : suspect r = (s, msgs, code)) (h5 : r.f5.length ≤ 1200) (h7 : r.f7.length ≤ 20) (h8 : r.f8.length ≤ 20) (h9 : r.f9.length ≤ 20) (h10 : r.f10.length ≤ 1200) :
    Few s ∧ msgs.length ≤ 1000000000 ∧ ∀ i, (rd_Msg msgs i).f7.length ≤ 1000000000 := by
  have hz : ∀ i, (rd_Msg [] i).f7.length ≤ 1000000000 := rd_f7 (by simp)
  unfold suspect at hp
  split at hp
  · rename_i hx
    have hn := may_n hx
    split at hp
    · cases hp
      exact ⟨by unfold Few; omega, by simp, hz⟩
    · split at hp
      · cases hp
        refine ⟨⟨?_, ?_, ?_, ?_, ?_⟩, by simp, hz⟩
        · show r.f5.length < _
          omega
        · show ((List.replicate r.f1.toNat (0 : Int)).set _ _).length < _
          rw [List.length_set, List.length_replicate]
          omega
        · exact Nat.zero_lt_succ _
        · exact Nat.zero_lt_succ _
        · exact Nat.zero_lt_succ _
      · cases hp
        refine ⟨⟨?_, ?_, ?_, ?_, ?_⟩, ?_, ?_⟩
        · show r.f5.length < _
          omega
        · show r.f7.length < _
          omega
        · show [r.f0].length < _
          simp
        · exact Nat.zero_lt_succ _
        · exact Nat.zero_lt_succ _
        · exact Nat.le_trans (allFrom_len _ _ _ _ _ _) (by omega)
        · refine rd_f7 (fun x hx => ?_)
          rw [allFrom_f7 _ _ _ _ _ _ x hx]
          simp
  · cases hp
    exact ⟨by unfold Few; omega, by simp, hz⟩
theorem restart_small (r : Rep) (s : Rep) (code : Int) (hp : restart r = (s, code)) (h5 : r.f5.length ≤ 1200) (h7 : r.f7.length ≤ 20) (h8 : r.f8.length ≤ 20) (h9 : r.f9.length ≤ 20) (h10 : r.f10.length ≤ 1200) : Few s := by
  unfold restart at hp
  split at hp
  · rename_i hx
    have hn := may_n hx
    split at hp
    all_goals
      cases hp
      refine ⟨?_, ?_, ?_, ?_, ?_⟩
      · show r.f5.length < _
        omega
      · show ((List.replicate r.f1.toNat (0 : Int)).set _ _).length < _
        rw [List.length_set, List.length_replicate]
        omega
      · first | exact Nat.zero_lt_succ _ | (show [r.f0].length < _; simp)
      · exact Nat.zero_lt_succ _
      · exact Nat.zero_lt_succ _
  · cases hp
    unfold Few
    omega
set_option maxRecDepth 100000 in
set_option maxHeartbeats 8000000 in
theorem suspects_calls (r : Rep) (A5 A7 A8 A9 A10 : Option Addr) (c5 c7 c8 c9 c10 : Nat) (w : World) (h : RdRep w r A5 A7 A8 A9 A10) (hc : Fit r c5 c7 c8 c9 c10) :
    Calls Try.prog 10 #[.agg #[.int .i64 r.f0, .int .i64 r.f1, .int .i64 r.f2, .int .i64 r.f3, .int .i64 r.f4, .slice A5 r.f5.length c5, .int .i64 r.f6, .slice A7 r.f7.length c7, .slice A8 r.f8.length c8, .slice A9 r.f9.length c9, .slice A10 r.f10.length c10, .int .i64 r.f11, .int .i64 r.f12]] w fun e w' => e = .returned (.bool true) ∧ Mem w w' [] := by
  have H := Aside0.mk h
  have HC := Aside0.mk hc
  obtain ⟨k, b, hG, hg⟩ := Great_f r
  have HG := Aside0.mk hG
  have M1 := Aside0.mk ((Mem.nil w).allocAt #[.int .i64 r.f0, .int .i64 r.f1, .int .i64 r.f2, .int .i64 r.f3, .int .i64 r.f4, .slice A5 r.f5.length c5, .int .i64 r.f6, .slice A7 r.f7.length c7, .slice A8 r.f8.length c8, .slice A9 r.f9.length c9, .slice A10 r.f10.length c10, .int .i64 r.f11, .int .i64 r.f12] 45 w.heap.size rfl)
  clear h hc hG
  cases b with
  | true =>
    clear hg
    go_enter Try.func10, Try.ntmps10
    go_wp2_with fail
    refine (Great_calls r A5 A7 A8 A9 A10 c5 c7 c8 c9 c10 _ (H.out.below M1.out.below) HC.out k true HG.out).mono ?_
    rintro e w1 ⟨rfl, hb⟩
    have M2 := Aside0.mk (M1.out.grow hb)
    clear hb
    go_wp2_with fail
    refine (awake_calls _).mono ?_
    rintro e w2 ⟨rfl, hM⟩
    have M3 := Aside0.mk (M2.out.trans hM)
    clear hM
    go_wp2
    go_ret
    exact ⟨rfl, Mem.sel (ps := [_]) (F := []) [] 1 M3.out rfl rfl⟩
  | false =>
    have hn := hg rfl
    have HN := Aside0.mk hn
    clear hg hn
    obtain ⟨s, msgs, code, hsp⟩ : ∃ s msgs code, suspect r = (s, msgs, code) := ⟨_, _, _, rfl⟩
    obtain ⟨u, cod2, hrp⟩ : ∃ u code, restart r = (u, code) := ⟨_, _, rfl⟩
    have HSP := Aside0.mk hsp
    have HRP := Aside0.mk hrp
    have HS := Aside0.mk (suspect_small r s msgs code hsp HN.out.1 HN.out.2.1 HN.out.2.2.1 HN.out.2.2.2.1 HN.out.2.2.2.2)
    have HU := Aside0.mk (restart_small r u cod2 hrp HN.out.1 HN.out.2.1 HN.out.2.2.1 HN.out.2.2.2.1 HN.out.2.2.2.2)
    have HSm := Aside0.mk (show Small r from ⟨Nat.le_trans HN.out.1 (by decide), Nat.le_trans HN.out.2.1 (by decide), Nat.le_trans HN.out.2.2.1 (by decide), Nat.le_trans HN.out.2.2.2.1 (by decide), Nat.le_trans HN.out.2.2.2.2 (by decide)⟩)
    clear hsp hrp
    have ecc : (code == code) = true := by simp
    have edd : (cod2 == cod2) = true := by simp
    go_enter Try.func10, Try.ntmps10
    go_wp2_with fail
    refine (Great_calls r A5 A7 A8 A9 A10 c5 c7 c8 c9 c10 _ (H.out.below M1.out.below) HC.out k false HG.out).mono ?_
    rintro e w1 ⟨rfl, hb⟩
    have M2 := Aside0.mk (M1.out.grow hb)
    clear hb M1
    have cB := blk_cell (M2.out.blk_at 0 rfl)
    go_wp2_with fail
    refine (Suspect_calls r A5 A7 A8 A9 A10 c5 c7 c8 c9 c10 _ (H.out.below M2.out.below) HSm.out s msgs code HSP.out).mono ?_
    rintro e w2 ⟨v5, v7, v8, v9, v10, vo, rfl, hM⟩
    unfold rc
    obtain ⟨S5, s5, rfl, LS5, _⟩ := hM.row_at 0 rfl
    obtain ⟨S7, s7, rfl, LS7, _⟩ := hM.row_at 1 rfl
    obtain ⟨S8, s8, rfl, LS8, _⟩ := hM.row_at 2 rfl
    obtain ⟨S9, s9, rfl, LS9, _⟩ := hM.row_at 3 rfl
    obtain ⟨S10, s10, rfl, LS10, _⟩ := hM.row_at 4 rfl
    obtain ⟨So, so, rfl, LSo, _⟩ := hM.row_at 5 rfl
    have M3 := Aside0.mk (M2.out.trans hM)
    have HSF := Aside0.mk (show Fit s s5 s7 s8 s9 s10 from ⟨LS5, LS7, LS8, LS9, LS10⟩)
    clear hM M2 cB LS5 LS7 LS8 LS9 LS10 LSo
    have cB := blk_cell (M3.out.blk_at 6 rfl)
    have hbB := blk_lt (M3.out.blk_at 6 rfl)
    go_wp2_with fail
    have M4 := Aside0.mk (M3.out.allocAt #[.int .i64 s.f0, .int .i64 s.f1, .int .i64 s.f2, .int .i64 s.f3, .int .i64 s.f4, .slice S5 s.f5.length s5, .int .i64 s.f6, .slice S7 s.f7.length s7, .slice S8 s.f8.length s8, .slice S9 s.f9.length s9, .slice S10 s.f10.length s10, .int .i64 s.f11, .int .i64 s.f12] 45 w2.heap.size rfl)
    refine (Suspect11_calls r A5 A7 A8 A9 A10 c5 c7 c8 c9 c10 _ (H.out.below M4.out.below) HC.out HN.out s msgs code HSP.out).mono ?_
    rintro e w4 ⟨T5, T7, T8, T9, T10, To, t5, t7, t8, t9, t10, tq, rfl, hR, hF, hC, hl, hb⟩
    have M5 := Aside0.mk (M4.out.grow hb)
    have HT := Aside0.mk hR
    have HTF := Aside0.mk hF
    have HTM := Aside0.mk hC
    clear hR hF hC hl hb M3 M4 cB hbB
    have cB := blk_cell (M5.out.blk_at 7 rfl)
    have hbB := blk_lt (M5.out.blk_at 7 rfl)
    go_wp2_with fail
    have M6 := Aside0.mk (M5.out.allocAt #[.int .i64 s.f0, .int .i64 s.f1, .int .i64 s.f2, .int .i64 s.f3, .int .i64 s.f4, .slice T5 s.f5.length t5, .int .i64 s.f6, .slice T7 s.f7.length t7, .slice T8 s.f8.length t8, .slice T9 s.f9.length t9, .slice T10 s.f10.length t10, .int .i64 s.f11, .int .i64 s.f12] 45 w4.heap.size rfl)
    have G6 := Aside0.mk (below_alloc (Below.refl w4.heap.size w4) (Obj.cells #[.int .i64 s.f0, .int .i64 s.f1, .int .i64 s.f2, .int .i64 s.f3, .int .i64 s.f4, .slice T5 s.f5.length t5, .int .i64 s.f6, .slice T7 s.f7.length t7, .slice T8 s.f8.length t8, .slice T9 s.f9.length t9, .slice T10 s.f10.length t10, .int .i64 s.f11, .int .i64 s.f12] 45))
    refine (Restart_calls r A5 A7 A8 A9 A10 c5 c7 c8 c9 c10 _ (H.out.below M6.out.below) HSm.out u cod2 HRP.out).mono ?_
    rintro e w5 ⟨v5, v7, v8, v9, v10, rfl, hM⟩
    unfold rc
    obtain ⟨U5, u5, rfl, LU5, _⟩ := hM.row_at 0 rfl
    obtain ⟨U7, u7, rfl, LU7, _⟩ := hM.row_at 1 rfl
    obtain ⟨U8, u8, rfl, LU8, _⟩ := hM.row_at 2 rfl
    obtain ⟨U9, u9, rfl, LU9, _⟩ := hM.row_at 3 rfl
    obtain ⟨U10, u10, rfl, LU10, _⟩ := hM.row_at 4 rfl
    have M7 := Aside0.mk (M6.out.trans hM)
    have G7 := Aside0.mk (below_step G6.out hM.below)
    have HUF := Aside0.mk (show Fit u u5 u7 u8 u9 u10 from ⟨LU5, LU7, LU8, LU9, LU10⟩)
    clear hM M5 M6 cB hbB LU5 LU7 LU8 LU9 LU10
    have cB := blk_cell (M7.out.blk_at 13 rfl)
    have hbB := blk_lt (M7.out.blk_at 13 rfl)
    go_wp2_with fail
    have M8 := Aside0.mk (M7.out.allocAt #[.int .i64 u.f0, .int .i64 u.f1, .int .i64 u.f2, .int .i64 u.f3, .int .i64 u.f4, .slice U5 u.f5.length u5, .int .i64 u.f6, .slice U7 u.f7.length u7, .slice U8 u.f8.length u8, .slice U9 u.f9.length u9, .slice U10 u.f10.length u10, .int .i64 u.f11, .int .i64 u.f12] 45 w5.heap.size rfl)
    have G8 := Aside0.mk (below_step G7.out (below_alloc (Below.refl w5.heap.size w5) (Obj.cells #[.int .i64 u.f0, .int .i64 u.f1, .int .i64 u.f2, .int .i64 u.f3, .int .i64 u.f4, .slice U5 u.f5.length u5, .int .i64 u.f6, .slice U7 u.f7.length u7, .slice U8 u.f8.length u8, .slice U9 u.f9.length u9, .slice U10 u.f10.length u10, .int .i64 u.f11, .int .i64 u.f12] 45)))
    refine (Restart11_calls r A5 A7 A8 A9 A10 c5 c7 c8 c9 c10 _ (H.out.below M8.out.below) HC.out HN.out u cod2 HRP.out).mono ?_
    rintro e w6 ⟨V5, V7, V8, V9, V10, x5, x7, x8, x9, x10, rfl, hR, hF, hb⟩
    have M9 := Aside0.mk (M8.out.grow hb)
    have G9 := Aside0.mk (below_step G8.out hb)
    have HV := Aside0.mk hR
    have HVF := Aside0.mk hF
    clear hR hF hb M7 M8 cB hbB
    have cT := blk_cell (M9.out.blk_at 6 rfl)
    have hbT := blk_lt (M9.out.blk_at 6 rfl)
    have cS := blk_cell (M9.out.blk_at 7 rfl)
    have hbS := blk_lt (M9.out.blk_at 7 rfl)
    have cU := blk_cell (M9.out.blk_at 0 rfl)
    have hbU := blk_lt (M9.out.blk_at 0 rfl)
    go_wp2_with fail
    have MA := Aside0.mk (M9.out.allocAt #[.int .i64 u.f0, .int .i64 u.f1, .int .i64 u.f2, .int .i64 u.f3, .int .i64 u.f4, .slice V5 u.f5.length x5, .int .i64 u.f6, .slice V7 u.f7.length x7, .slice V8 u.f8.length x8, .slice V9 u.f9.length x9, .slice V10 u.f10.length x10, .int .i64 u.f11, .int .i64 u.f12] 45 w6.heap.size rfl)
    have GA := Aside0.mk (below_step G9.out (below_alloc (Below.refl w6.heap.size w6) (Obj.cells #[.int .i64 u.f0, .int .i64 u.f1, .int .i64 u.f2, .int .i64 u.f3, .int .i64 u.f4, .slice V5 u.f5.length x5, .int .i64 u.f6, .slice V7 u.f7.length x7, .slice V8 u.f8.length x8, .slice V9 u.f9.length x9, .slice V10 u.f10.length x10, .int .i64 u.f11, .int .i64 u.f12] 45)))
    have KA := Aside0.mk (below_alloc (Below.refl w6.heap.size w6) (Obj.cells #[.int .i64 u.f0, .int .i64 u.f1, .int .i64 u.f2, .int .i64 u.f3, .int .i64 u.f4, .slice V5 u.f5.length x5, .int .i64 u.f6, .slice V7 u.f7.length x7, .slice V8 u.f8.length x8, .slice V9 u.f9.length x9, .slice V10 u.f10.length x10, .int .i64 u.f11, .int .i64 u.f12] 45))
    refine (Same_calls s S5 S7 S8 S9 S10 T5 T7 T8 T9 T10 s5 s7 s8 s9 s10 t5 t7 t8 t9 t10 _ ⟨MA.out.row_C 9 rfl, MA.out.row_C 10 rfl, MA.out.row_C 11 rfl, MA.out.row_C 12 rfl, MA.out.row_C 13 rfl⟩ (HT.out.below GA.out) HSF.out.h5 HSF.out.h7 HSF.out.h8 HSF.out.h9 HSF.out.h10 HTF.out.h5 HTF.out.h7 HTF.out.h8 HTF.out.h9 HTF.out.h10 HS.out.1).mono ?_
    rintro e w7 ⟨rfl, hb⟩
    have MB := Aside0.mk (MA.out.grow hb)
    have GB := Aside0.mk (below_step GA.out hb)
    have KB := Aside0.mk (below_step KA.out hb)
    clear hb M9 MA cT hbT cS hbS cU hbU
    go_wp2_with fail
    refine (Ms.messages_calls So To so tq msgs _ (MB.out.row_C 14 rfl) (Kd.C_below HTM.out GB.out) HS.out.2.1 HS.out.2.2).mono ?_
    rintro e w8 ⟨rfl, hM⟩
    have MC := Aside0.mk (MB.out.trans hM)
    have KC := Aside0.mk (below_step KB.out hM.below)
    clear hM MB
    go_wp2_with fail
    refine (falseworklaw11_num.calls code code _ rfl).mono ?_
    rintro e w9 ⟨rfl, hD⟩
    have MD := Aside0.mk (MC.out.drawn hD)
    have KD := Aside0.mk (show Below w6.heap.size w6 w9 from by obtain ⟨nq, hq⟩ := hD.out; rw [hq]; exact pw_below_drewN KC.out nq)
    clear hD MC
    have cU := blk_cell (MD.out.blk_at 1 rfl)
    have cV := blk_cell (MD.out.blk_at 0 rfl)
    go_wp2_with fail
    refine (Same_calls u U5 U7 U8 U9 U10 V5 V7 V8 V9 V10 u5 u7 u8 u9 u10 x5 x7 x8 x9 x10 _ ⟨MD.out.row_C 2 rfl, MD.out.row_C 3 rfl, MD.out.row_C 4 rfl, MD.out.row_C 5 rfl, MD.out.row_C 6 rfl⟩ (HV.out.below KD.out) HUF.out.h5 HUF.out.h7 HUF.out.h8 HUF.out.h9 HUF.out.h10 HVF.out.h5 HVF.out.h7 HVF.out.h8 HVF.out.h9 HVF.out.h10 HU.out).mono ?_
    rintro e w10 ⟨rfl, hb⟩
    have ME := Aside0.mk (MD.out.grow hb)
    clear hb MD cU cV
    go_wp2_with fail
    refine (falseworklaw11_num.calls cod2 cod2 _ rfl).mono ?_
    rintro e w11 ⟨rfl, hD⟩
    have MF := Aside0.mk (ME.out.drawn hD)
    clear hD ME
    go_wp2_with fail
    refine (awake_calls _).mono ?_
    rintro e w12 ⟨rfl, hM⟩
    have MG := Aside0.mk (MF.out.trans hM)
    clear hM MF
    go_wp2
    go_ret
    exact ⟨rfl, Mem.sel (ps := [_, _, _, _, _, _, _, _, _, _, _, _, _, _, _, _]) (F := []) [] 16 MG.out rfl rfl⟩
end Go.Proofs.Ytggbjokhniigkaa.Se
