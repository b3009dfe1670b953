/- ReplicaProposes' walk. -/
import Derived.Test.YtggbjokhniigkaaRf
import Derived.Test.YtggbjokhniigkaaMs
import Derived.Test.YtggbjokhniigkaaWk
namespace Go.Proofs.Ytggbjokhniigkaa.Rg
open Go.Proofs.Ytggbjokhniigkaa.Ty Go.RowKit Go.Proofs.YtggbjokhniigkaaW.PrintWords Go.Proofs.YtggbjokhniigkaaW.PrintLast Go.Proofs.YtggbjokhniigkaaW.PrintMore Go.Proofs.Ytggbjokhniigkaa.Mx Go.Proofs.Ytggbjokhniigkaa.Kx Go.Proofs.Ytggbjokhniigkaa.Wa Go.Proofs.Ytggbjokhniigkaa.Wb Go.Proofs.Ytggbjokhniigkaa.Wc Go.Proofs.Ytggbjokhniigkaa.Wd Go.Proofs.Ytggbjokhniigkaa.We Go.Proofs.Ytggbjokhniigkaa.Wj Go.Proofs.Ytggbjokhniigkaa.Va Go.Proofs.Ytggbjokhniigkaa.Vb Go.Proofs.Ytggbjokhniigkaa.Vc Go.Proofs.Ytggbjokhniigkaa.Ra Go.Proofs.Ytggbjokhniigkaa.Rb Go.Proofs.Ytggbjokhniigkaa.Rc Go.Proofs.Ytggbjokhniigkaa.Rd Go.Proofs.Ytggbjokhniigkaa.Re Go.Proofs.Ytggbjokhniigkaa.PReplicaProposes Go.Proofs.Ytggbjokhniigkaa.Rf Go.Proofs.Ytggbjokhniigkaa.Wi Go.Proofs.Ytggbjokhniigkaa.Wk
set_option linter.unusedVariables false
set_option linter.unusedSimpArgs false
set_option maxRecDepth 100000 in
set_option maxHeartbeats 8000000 in
theorem proposes_calls (r : Rep) (A5 A7 A8 A9 A10 : Option Addr) (c5 c7 c8 c9 c10 : Nat) (w : World) (h : RdRep w r A5 A7 A8 A9 A10) (hc : Fit r c5 c7 c8 c9 c10) (time : Int) (data : ByteArray) :
    Calls Try.prog 9 #[.agg #[.int .i64 r.f0, .int .i64 r.f1, .int .i64 r.f2, .int .i64 r.f3, .int .i64 r.f4, .slice A5 r.f5.length c5, .int .i64 r.f6, .slice A7 r.f7.length c7, .slice A8 r.f8.length c8, .slice A9 r.f9.length c9, .slice A10 r.f10.length c10, .int .i64 r.f11, .int .i64 r.f12], .int .i64 time, .string data] w fun e w' => e = .returned (.bool true) ∧ Mem w w' [] := by
  have H := Aside0.mk h
  have HC := Aside0.mk hc
  obtain ⟨k, b, hG, hg⟩ := Great_f r
  have HG := Aside0.mk hG
  have M1 := Aside0.mk ((Mem.nil w).allocAt #[.int .i64 r.f0, .int .i64 r.f1, .int .i64 r.f2, .int .i64 r.f3, .int .i64 r.f4, .slice A5 r.f5.length c5, .int .i64 r.f6, .slice A7 r.f7.length c7, .slice A8 r.f8.length c8, .slice A9 r.f9.length c9, .slice A10 r.f10.length c10, .int .i64 r.f11, .int .i64 r.f12] 45 w.heap.size rfl)
  clear h hc hG
  cases b with
  | true =>
    clear hg
    go_enter Try.func9, Try.ntmps9
    go_wp2_with fail
    refine (Great_calls r A5 A7 A8 A9 A10 c5 c7 c8 c9 c10 _ (H.out.below M1.out.below) HC.out k true HG.out).mono ?_
    rintro e w1 ⟨rfl, hb⟩
    have M2 := Aside0.mk (M1.out.grow hb)
    clear hb
    go_wp2_with fail
    refine (awake_calls _).mono ?_
    rintro e w2 ⟨rfl, hM⟩
    have M3 := Aside0.mk (M2.out.trans hM)
    clear hM
    go_wp2
    go_ret
    exact ⟨rfl, Mem.sel (ps := [_]) (F := []) [] 1 M3.out rfl rfl⟩
  | false =>
    have hn := hg rfl
    have HN := Aside0.mk hn
    clear hg hn
    by_cases hd : 30000 < data.size
    · have hd1 : decide (30000 < (data.size : Int)) = true := decide_eq_true (by omega)
      clear hd
      go_enter Try.func9, Try.ntmps9
      go_wp2_with fail
      refine (Great_calls r A5 A7 A8 A9 A10 c5 c7 c8 c9 c10 _ (H.out.below M1.out.below) HC.out k false HG.out).mono ?_
      rintro e w1 ⟨rfl, hb⟩
      have M2 := Aside0.mk (M1.out.grow hb)
      clear hb
      go_wp2_with fail
      refine (awake_calls _).mono ?_
      rintro e w2 ⟨rfl, hM⟩
      have M3 := Aside0.mk (M2.out.trans hM)
      clear hM
      go_wp2
      go_ret
      exact ⟨rfl, Mem.sel (ps := [_]) (F := []) [] 1 M3.out rfl rfl⟩
    · have hd1 : decide (30000 < (data.size : Int)) = false := decide_eq_false (by omega)
      have HD := Aside0.mk (show data.size ≤ 1000000 by omega)
      clear hd
      obtain ⟨s, msgs, kk, code, hpp⟩ : ∃ s msgs kk code, propose r time data = (s, msgs, kk, code) := ⟨_, _, _, _, rfl⟩
      have HPP := Aside0.mk hpp
      have HS := Aside0.mk (propose_small r time data s msgs kk code hpp HN.out.1 HN.out.2.1 HN.out.2.2.1 HN.out.2.2.2.1 HN.out.2.2.2.2)
      have HSm := Aside0.mk (show Small r from ⟨Nat.le_trans HN.out.1 (by decide), Nat.le_trans HN.out.2.1 (by decide), Nat.le_trans HN.out.2.2.1 (by decide), Nat.le_trans HN.out.2.2.2.1 (by decide), Nat.le_trans HN.out.2.2.2.2 (by decide)⟩)
      clear hpp
      have ekk : (kk == kk) = true := by simp
      have ecc : (code == code) = true := by simp
      go_enter Try.func9, Try.ntmps9
      go_wp2_with fail
      refine (Great_calls r A5 A7 A8 A9 A10 c5 c7 c8 c9 c10 _ (H.out.below M1.out.below) HC.out k false HG.out).mono ?_
      rintro e w1 ⟨rfl, hb⟩
      have M2 := Aside0.mk (M1.out.grow hb)
      clear hb M1
      have cB := blk_cell (M2.out.blk_at 0 rfl)
      go_wp2_with fail
      refine (Copy11_calls r A5 A7 A8 A9 A10 c5 c7 c8 c9 c10 _ (H.out.below M2.out.below) HSm.out).mono ?_
      rintro e w2 ⟨v5, v7, v8, v9, v10, rfl, hM⟩
      unfold rc
      obtain ⟨B5, b5, rfl, LB5, _⟩ := hM.row_at 0 rfl
      obtain ⟨B7, b7, rfl, LB7, _⟩ := hM.row_at 1 rfl
      obtain ⟨B8, b8, rfl, LB8, _⟩ := hM.row_at 2 rfl
      obtain ⟨B9, b9, rfl, LB9, _⟩ := hM.row_at 3 rfl
      obtain ⟨B10, b10, rfl, LB10, _⟩ := hM.row_at 4 rfl
      have M3 := Aside0.mk (M2.out.trans hM)
      have HB := Aside0.mk (show Fit r b5 b7 b8 b9 b10 from ⟨LB5, LB7, LB8, LB9, LB10⟩)
      clear hM M2 cB LB5 LB7 LB8 LB9 LB10
      have cB := blk_cell (M3.out.blk_at 5 rfl)
      have hbB := blk_lt (M3.out.blk_at 5 rfl)
      go_wp2_with fail
      have M4 := Aside0.mk (M3.out.allocAt #[.int .i64 r.f0, .int .i64 r.f1, .int .i64 r.f2, .int .i64 r.f3, .int .i64 r.f4, .slice B5 r.f5.length b5, .int .i64 r.f6, .slice B7 r.f7.length b7, .slice B8 r.f8.length b8, .slice B9 r.f9.length b9, .slice B10 r.f10.length b10, .int .i64 r.f11, .int .i64 r.f12] 45 w2.heap.size rfl)
      refine (Propose_calls r A5 A7 A8 A9 A10 c5 c7 c8 c9 c10 _ (H.out.below M4.out.below) HSm.out time data HD.out s msgs kk code HPP.out).mono ?_
      rintro e w3 ⟨v5, v7, v8, v9, v10, vo, rfl, hM⟩
      unfold rc
      obtain ⟨S5, s5, rfl, LS5, _⟩ := hM.row_at 0 rfl
      obtain ⟨S7, s7, rfl, LS7, _⟩ := hM.row_at 1 rfl
      obtain ⟨S8, s8, rfl, LS8, _⟩ := hM.row_at 2 rfl
      obtain ⟨S9, s9, rfl, LS9, _⟩ := hM.row_at 3 rfl
      obtain ⟨S10, s10, rfl, LS10, _⟩ := hM.row_at 4 rfl
      obtain ⟨So, so, rfl, LSo, _⟩ := hM.row_at 5 rfl
      have M5 := Aside0.mk (M4.out.trans hM)
      have HSF := Aside0.mk (show Fit s s5 s7 s8 s9 s10 from ⟨LS5, LS7, LS8, LS9, LS10⟩)
      clear hM M3 M4 cB hbB LS5 LS7 LS8 LS9 LS10 LSo
      have cB := blk_cell (M5.out.blk_at 12 rfl)
      have hbB := blk_lt (M5.out.blk_at 12 rfl)
      have cW := blk_cell (M5.out.blk_at 6 rfl)
      have hbW := blk_lt (M5.out.blk_at 6 rfl)
      go_wp2_with fail
      have M6 := Aside0.mk (M5.out.allocAt #[.int .i64 s.f0, .int .i64 s.f1, .int .i64 s.f2, .int .i64 s.f3, .int .i64 s.f4, .slice S5 s.f5.length s5, .int .i64 s.f6, .slice S7 s.f7.length s7, .slice S8 s.f8.length s8, .slice S9 s.f9.length s9, .slice S10 s.f10.length s10, .int .i64 s.f11, .int .i64 s.f12] 45 w3.heap.size rfl)
      refine (P11_calls r A5 A7 A8 A9 A10 c5 c7 c8 c9 c10 _ (H.out.below M6.out.below) HC.out HN.out time data HD.out s msgs kk code HPP.out).mono ?_
      rintro e w4 ⟨T5, T7, T8, T9, T10, To, t5, t7, t8, t9, t10, tq, rfl, hR, hF, hC, hl, hb⟩
      have M7 := Aside0.mk (M6.out.grow hb)
      have HT := Aside0.mk hR
      have HTF := Aside0.mk hF
      have HTM := Aside0.mk hC
      clear hR hF hC hl hb M5 M6 cB hbB cW hbW
      have cB := blk_cell (M7.out.blk_at 13 rfl)
      have hbB := blk_lt (M7.out.blk_at 13 rfl)
      have cW := blk_cell (M7.out.blk_at 7 rfl)
      have hbW := blk_lt (M7.out.blk_at 7 rfl)
      have cS := blk_cell (M7.out.blk_at 0 rfl)
      have hbS := blk_lt (M7.out.blk_at 0 rfl)
      go_wp2_with fail
      have M8 := Aside0.mk (M7.out.allocAt #[.int .i64 s.f0, .int .i64 s.f1, .int .i64 s.f2, .int .i64 s.f3, .int .i64 s.f4, .slice T5 s.f5.length t5, .int .i64 s.f6, .slice T7 s.f7.length t7, .slice T8 s.f8.length t8, .slice T9 s.f9.length t9, .slice T10 s.f10.length t10, .int .i64 s.f11, .int .i64 s.f12] 45 w4.heap.size rfl)
      have G8 := Aside0.mk (below_alloc (Below.refl w4.heap.size w4) (Obj.cells #[.int .i64 s.f0, .int .i64 s.f1, .int .i64 s.f2, .int .i64 s.f3, .int .i64 s.f4, .slice T5 s.f5.length t5, .int .i64 s.f6, .slice T7 s.f7.length t7, .slice T8 s.f8.length t8, .slice T9 s.f9.length t9, .slice T10 s.f10.length t10, .int .i64 s.f11, .int .i64 s.f12] 45))
      refine (Same_calls s S5 S7 S8 S9 S10 T5 T7 T8 T9 T10 s5 s7 s8 s9 s10 t5 t7 t8 t9 t10 _ ⟨M8.out.row_C 2 rfl, M8.out.row_C 3 rfl, M8.out.row_C 4 rfl, M8.out.row_C 5 rfl, M8.out.row_C 6 rfl⟩ (HT.out.below G8.out) HSF.out.h5 HSF.out.h7 HSF.out.h8 HSF.out.h9 HSF.out.h10 HTF.out.h5 HTF.out.h7 HTF.out.h8 HTF.out.h9 HTF.out.h10 HS.out.1).mono ?_
      rintro e w5 ⟨rfl, hb⟩
      have M9 := Aside0.mk (M8.out.grow hb)
      have G9 := Aside0.mk (below_step G8.out hb)
      clear hb M7 M8 cS hbS
      go_wp2_with fail
      refine (Ms.messages_calls So To so tq msgs _ (M9.out.row_C 7 rfl) (Kd.C_below HTM.out G9.out) HS.out.2.1 HS.out.2.2).mono ?_
      rintro e w6 ⟨rfl, hM⟩
      have MA := Aside0.mk (M9.out.trans hM)
      clear hM M9
      go_wp2_with fail
      refine (falseworklaw11_num.calls code code _ rfl).mono ?_
      rintro e w7 ⟨rfl, hD⟩
      have MB := Aside0.mk (MA.out.drawn hD)
      clear hD MA cB hbB cW hbW
      have cB := blk_cell (MB.out.blk_at 14 rfl)
      have cW := blk_cell (MB.out.blk_at 8 rfl)
      go_wp2_with fail
      refine (Same_calls r A5 A7 A8 A9 A10 B5 B7 B8 B9 B10 c5 c7 c8 c9 c10 b5 b7 b8 b9 b10 _ (H.out.below MB.out.below) ⟨MB.out.row_C 9 rfl, MB.out.row_C 10 rfl, MB.out.row_C 11 rfl, MB.out.row_C 12 rfl, MB.out.row_C 13 rfl⟩ HC.out.h5 HC.out.h7 HC.out.h8 HC.out.h9 HC.out.h10 HB.out.h5 HB.out.h7 HB.out.h8 HB.out.h9 HB.out.h10 ⟨Nat.lt_of_le_of_lt HN.out.1 (by decide), Nat.lt_of_le_of_lt HN.out.2.1 (by decide), Nat.lt_of_le_of_lt HN.out.2.2.1 (by decide), Nat.lt_of_le_of_lt HN.out.2.2.2.1 (by decide), Nat.lt_of_le_of_lt HN.out.2.2.2.2 (by decide)⟩).mono ?_
      rintro e w8 ⟨rfl, hb⟩
      have MC := Aside0.mk (MB.out.grow hb)
      clear hb MB
      go_wp2_with fail
      refine (awake_calls _).mono ?_
      rintro e w9 ⟨rfl, hM⟩
      have MD := Aside0.mk (MC.out.trans hM)
      clear hM MC
      go_wp2
      go_ret
      exact ⟨rfl, Mem.sel (ps := [_, _, _, _, _, _, _, _, _, _, _, _, _, _, _]) (F := []) [] 15 MD.out rfl rfl⟩
end Go.Proofs.Ytggbjokhniigkaa.Rg
