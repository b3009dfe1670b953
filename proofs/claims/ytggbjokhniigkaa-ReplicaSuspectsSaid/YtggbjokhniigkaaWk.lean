/- The document's example, in part: the replica's awake answers true. -/
import Derived.Test.YtggbjokhniigkaaWi
import Derived.Test.YtggbjokhniigkaaWj
namespace Go.Proofs.Ytggbjokhniigkaa.Wk
open Go.Proofs.Ytggbjokhniigkaa.Ty Go.RowKit Go.Proofs.YtggbjokhniigkaaW.PrintWords Go.Proofs.YtggbjokhniigkaaW.PrintLast Go.Proofs.YtggbjokhniigkaaW.PrintMore Go.Proofs.Ytggbjokhniigkaa.Mx Go.Proofs.Ytggbjokhniigkaa.Kx Go.Proofs.Ytggbjokhniigkaa.Wa Go.Proofs.Ytggbjokhniigkaa.Wb Go.Proofs.Ytggbjokhniigkaa.Wc Go.Proofs.Ytggbjokhniigkaa.Wd Go.Proofs.Ytggbjokhniigkaa.We Go.Proofs.Ytggbjokhniigkaa.Wf Go.Proofs.Ytggbjokhniigkaa.Wh Go.Proofs.Ytggbjokhniigkaa.Wi Go.Proofs.Ytggbjokhniigkaa.Wj Go.Proofs.Ytggbjokhniigkaa.PReplicaProposes
set_option linter.unusedVariables false
set_option linter.unusedSimpArgs false
def dx : ByteArray := ⟨#[120]⟩
def r03 : Rep := ⟨0, 3, 0, 0, 0, [], 0, [0, 0, 0], [], [], [], -1, 0⟩
def s03 : Rep := ⟨0, 3, 0, 0, 0, [⟨5, dx⟩], 0, [1, 0, 0], [], [], [], -1, 0⟩
def l03 : List Msg := [⟨1, 0, 1, 0, 1, 0, 0, [⟨5, dx⟩]⟩, ⟨1, 0, 2, 0, 1, 0, 0, [⟨5, dx⟩]⟩]
theorem new03 : replica_New.f 0 3 = some (0, 3, 0, 0, 0, [], 0, [0, 0, 0], [], [], [], -1, 0, 0) := by rfl
theorem propose03 : propose r03 5 dx = (s03, l03, 1, 0) := by rfl
theorem Propose03 (A5 A7 A8 A9 A10 : Option Addr) (c5 c7 c8 c9 c10 : Nat) (w : World) (h7 : Kd.C (Kd.int .i64) w A7 3 [0, 0, 0]) :
    Calls Try.prog 34 #[.agg #[.int .i64 0, .int .i64 3, .int .i64 0, .int .i64 0, .int .i64 0, .slice A5 0 c5, .int .i64 0, .slice A7 3 c7, .slice A8 0 c8, .slice A9 0 c9, .slice A10 0 c10, .int .i64 (-1), .int .i64 0], .int .i64 5, .string dx] w fun e w' => ∃ (B5 B7 B8 B9 B10 Bo : Option Addr) (d5 d7 d8 d9 d10 co : Nat), e = .returned (.tuple #[.agg #[.int .i64 0, .int .i64 3, .int .i64 0, .int .i64 0, .int .i64 0, .slice B5 1 d5, .int .i64 0, .slice B7 3 d7, .slice B8 0 d8, .slice B9 0 d9, .slice B10 0 d10, .int .i64 (-1), .int .i64 0], .slice Bo 2 co, .int .i64 1, .int .i64 0]) ∧ Below w.heap.size w w' := by
  refine (Propose_calls r03 A5 A7 A8 A9 A10 c5 c7 c8 c9 c10 w ⟨C_zero _, h7, C_zero _, C_zero _, C_zero _⟩ ⟨by decide, by decide, by decide, by decide, by decide⟩ 5 dx (by decide) s03 l03 1 0 propose03).mono ?_
  rintro e w' ⟨v5, v7, v8, v9, v10, vo, rfl, hM⟩
  obtain ⟨B5, d5, rfl, _, _⟩ := hM.row_at 0 rfl
  obtain ⟨B7, d7, rfl, _, _⟩ := hM.row_at 1 rfl
  obtain ⟨B8, d8, rfl, _, _⟩ := hM.row_at 2 rfl
  obtain ⟨B9, d9, rfl, _, _⟩ := hM.row_at 3 rfl
  obtain ⟨B10, d10, rfl, _, _⟩ := hM.row_at 4 rfl
  obtain ⟨Bo, co, rfl, _, _⟩ := hM.row_at 5 rfl
  exact ⟨B5, B7, B8, B9, B10, Bo, d5, d7, d8, d9, d10, co, rfl, hM.below⟩
set_option maxRecDepth 100000 in
set_option maxHeartbeats 4000000 in
theorem awake_calls (w : World) : Calls Try.prog 29 #[] w fun e w' => e = .returned (.bool true) ∧ Mem w w' [] := by
  have M0 := Aside0.mk (Mem.nil w)
  go_enter Try.func29, Try.ntmps29
  go_wp2_with fail
  refine (replica_New.calls 0 3 0 3 0 0 0 [] 0 [0, 0, 0] [] [] [] (-1) 0 0 _ new03).mono ?_
  rintro e w1 ⟨v5, v7, v8, v9, v10, rfl, R5, R7, R8, R9, R10, hb⟩
  obtain ⟨A5, c5, rfl, _, _⟩ := R_form hb R5
  obtain ⟨A7, c7, rfl, _, h7⟩ := R_form hb R7
  obtain ⟨A8, c8, rfl, _, _⟩ := R_form hb R8
  obtain ⟨A9, c9, rfl, _, _⟩ := R_form hb R9
  obtain ⟨A10, c10, rfl, _, _⟩ := R_form hb R10
  have M1 := Aside0.mk (M0.out.grow hb)
  have H7 := Aside0.mk h7
  clear h7 R5 R7 R8 R9 R10 hb
  simp only [List.length_nil, List.length_cons, Nat.zero_add, Nat.reduceAdd]
  go_wp2_with fail
  have M2 := Aside0.mk (M1.out.alloc #[.int .i64 0, .int .i64 3, .int .i64 0, .int .i64 0, .int .i64 0, .slice A5 0 c5, .int .i64 0, .slice A7 3 c7, .slice A8 0 c8, .slice A9 0 c9, .slice A10 0 c10, .int .i64 (-1), .int .i64 0] 45)
  refine (Propose03 A5 A7 A8 A9 A10 c5 c7 c8 c9 c10 _ (Kd.C_below H7.out (below_alloc (Below.refl _ _) _))).mono ?_
  rintro e w2 ⟨B5, B7, B8, B9, B10, Bo, d5, d7, d8, d9, d10, co, rfl, hb⟩
  have M3 := Aside0.mk (M2.out.grow hb)
  clear hb
  go_wp2_with fail
  refine (falseworklaw11_num.calls 0 0 _ rfl).mono ?_
  rintro e w3 ⟨rfl, hD⟩
  have M4 := Aside0.mk ((M3.out.allocAt #[.int .i64 0, .int .i64 3, .int .i64 0, .int .i64 0, .int .i64 0, .slice B5 1 d5, .int .i64 0, .slice B7 3 d7, .slice B8 0 d8, .slice B9 0 d9, .slice B10 0 d10, .int .i64 (-1), .int .i64 0] 45 _ rfl).drawn hD)
  clear hD
  go_wp2_with fail
  refine (falseworklaw11_num.calls 0 0 _ rfl).mono ?_
  rintro e w4 ⟨rfl, hD⟩
  have M5 := Aside0.mk (M4.out.drawn hD)
  clear hD
  have cS := blk_cell (M5.out.blk_at 0 rfl)
  go_wp2
  go_ret
  exact ⟨rfl, Mem.sel (ps := [_, _]) (F := []) [] 2 M5.out rfl rfl⟩
end Go.Proofs.Ytggbjokhniigkaa.Wk
