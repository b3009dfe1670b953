/- ReplicaNews' walk. -/
import Derived.Test.YtggbjokhniigkaaWk
namespace Go.Proofs.Ytggbjokhniigkaa.Wl
open Go.Proofs.Ytggbjokhniigkaa.Ty Go.RowKit Go.Proofs.YtggbjokhniigkaaW.PrintWords Go.Proofs.YtggbjokhniigkaaW.PrintLast Go.Proofs.YtggbjokhniigkaaW.PrintMore Go.Proofs.Ytggbjokhniigkaa.Mx Go.Proofs.Ytggbjokhniigkaa.Kx Go.Proofs.Ytggbjokhniigkaa.Wa Go.Proofs.Ytggbjokhniigkaa.Wb Go.Proofs.Ytggbjokhniigkaa.Wc Go.Proofs.Ytggbjokhniigkaa.Wd Go.Proofs.Ytggbjokhniigkaa.We Go.Proofs.Ytggbjokhniigkaa.Wf Go.Proofs.Ytggbjokhniigkaa.Wh Go.Proofs.Ytggbjokhniigkaa.Wi Go.Proofs.Ytggbjokhniigkaa.Wj Go.Proofs.Ytggbjokhniigkaa.Wk Go.Proofs.Ytggbjokhniigkaa.PReplicaProposes
set_option linter.unusedVariables false
set_option linter.unusedSimpArgs false
set_option maxRecDepth 100000 in
set_option maxHeartbeats 4000000 in
theorem news_calls (i n : Int) (w : World) : Calls Try.prog 7 #[.int .i64 i, .int .i64 n] w fun e w' => e = .returned (.bool true) ∧ Mem w w' [] := by
  have M0 := Aside0.mk (Mem.nil w)
  obtain ⟨a0, a1, a2, a3, a4, a6, a11, a12, code, l7, e1, e2, hl⟩ := New_f i n
  have E1 := Aside0.mk e1
  have E2 := Aside0.mk e2
  have HL := Aside0.mk hl
  clear e1 e2 hl
  go_enter Try.func7, Try.ntmps7
  go_wp2_with fail
  refine (replica_New.calls i n a0 a1 a2 a3 a4 [] a6 l7 [] [] [] a11 a12 code _ E1.out).mono ?_
  rintro e w1 ⟨v5, v7, v8, v9, v10, rfl, R5, R7, R8, R9, R10, hb⟩
  obtain ⟨A5, c5, rfl, l5, _⟩ := R_form hb R5
  obtain ⟨A7, c7, rfl, lc7, h7⟩ := R_form hb R7
  obtain ⟨A8, c8, rfl, l8, _⟩ := R_form hb R8
  obtain ⟨A9, c9, rfl, l9, _⟩ := R_form hb R9
  obtain ⟨A10, c10, rfl, l10, _⟩ := R_form hb R10
  have M1 := Aside0.mk (M0.out.grow hb)
  have H7 := Aside0.mk h7
  have L7 := Aside0.mk lc7
  clear h7 R5 R7 R8 R9 R10 hb l5 lc7 l8 l9 l10
  simp only [List.length_nil]
  go_wp2_with fail
  have M2 := Aside0.mk (M1.out.allocAt #[.int .i64 a0, .int .i64 a1, .int .i64 a2, .int .i64 a3, .int .i64 a4, .slice A5 0 c5, .int .i64 a6, .slice A7 l7.length c7, .slice A8 0 c8, .slice A9 0 c9, .slice A10 0 c10, .int .i64 a11, .int .i64 a12] 45 w1.heap.size rfl)
  have B2 := Aside0.mk (below_alloc (Below.refl w1.heap.size w1) (Obj.cells #[.int .i64 a0, .int .i64 a1, .int .i64 a2, .int .i64 a3, .int .i64 a4, .slice A5 0 c5, .int .i64 a6, .slice A7 l7.length c7, .slice A8 0 c8, .slice A9 0 c9, .slice A10 0 c10, .int .i64 a11, .int .i64 a12] 45))
  refine (falseworkref11_New.calls i n a0 a1 a2 a3 a4 [] a6 l7 [] [] [] a11 a12 code _ E2.out).mono ?_
  rintro e w2 ⟨v5, v7, v8, v9, v10, rfl, R5, R7, R8, R9, R10, hb⟩
  obtain ⟨B5, d5, rfl, l5, _⟩ := R_form hb R5
  obtain ⟨B7, d7, rfl, lc7, h7⟩ := R_form hb R7
  obtain ⟨B8, d8, rfl, l8, _⟩ := R_form hb R8
  obtain ⟨B9, d9, rfl, l9, _⟩ := R_form hb R9
  obtain ⟨B10, d10, rfl, l10, _⟩ := R_form hb R10
  have M3 := Aside0.mk (M2.out.grow hb)
  have B3 := Aside0.mk (below_step B2.out hb)
  have G7 := Aside0.mk h7
  have K7 := Aside0.mk lc7
  clear h7 R5 R7 R8 R9 R10 hb l5 lc7 l8 l9 l10
  simp only [List.length_nil]
  have cR := blk_cell (M3.out.blk_at 0 rfl)
  have hbR := blk_lt (M3.out.blk_at 0 rfl)
  go_wp2_with fail
  have M4 := Aside0.mk (M3.out.allocAt #[.int .i64 a0, .int .i64 a1, .int .i64 a2, .int .i64 a3, .int .i64 a4, .slice B5 0 d5, .int .i64 a6, .slice B7 l7.length d7, .slice B8 0 d8, .slice B9 0 d9, .slice B10 0 d10, .int .i64 a11, .int .i64 a12] 45 w2.heap.size rfl)
  have B4 := Aside0.mk (below_alloc (Below.refl w2.heap.size w2) (Obj.cells #[.int .i64 a0, .int .i64 a1, .int .i64 a2, .int .i64 a3, .int .i64 a4, .slice B5 0 d5, .int .i64 a6, .slice B7 l7.length d7, .slice B8 0 d8, .slice B9 0 d9, .slice B10 0 d10, .int .i64 a11, .int .i64 a12] 45))
  refine (Same_calls ⟨a0, a1, a2, a3, a4, [], a6, l7, [], [], [], a11, a12⟩ A5 A7 A8 A9 A10 B5 B7 B8 B9 B10 c5 c7 c8 c9 c10 d5 d7 d8 d9 d10 _ ⟨C_zero _, Kd.C_below H7.out (below_step B3.out B4.out), C_zero _, C_zero _, C_zero _⟩ ⟨C_zero _, Kd.C_below G7.out B4.out, C_zero _, C_zero _, C_zero _⟩ (Nat.zero_le _) L7.out (Nat.zero_le _) (Nat.zero_le _) (Nat.zero_le _) (Nat.zero_le _) K7.out (Nat.zero_le _) (Nat.zero_le _) (Nat.zero_le _) ⟨Nat.zero_lt_succ _, Nat.lt_of_le_of_lt HL.out (by decide), Nat.zero_lt_succ _, Nat.zero_lt_succ _, Nat.zero_lt_succ _⟩).mono ?_
  rintro e w3 ⟨rfl, hb⟩
  have M5 := Aside0.mk (M4.out.grow hb)
  clear hb cR hbR
  have hcc : (code == code) = true := by simp
  go_wp2_with fail
  refine (falseworklaw11_num.calls code code _ rfl).mono ?_
  rintro e w4 ⟨rfl, hD⟩
  have M6 := Aside0.mk (M5.out.drawn hD)
  clear hD
  go_wp2_with fail
  refine (awake_calls _).mono ?_
  rintro e w5 ⟨rfl, hM⟩
  have M7 := Aside0.mk (M6.out.trans hM)
  clear hM
  go_wp2
  go_ret
  exact ⟨rfl, Mem.sel (ps := [_, _]) (F := []) [] 2 M7.out rfl rfl⟩
end Go.Proofs.Ytggbjokhniigkaa.Wl
