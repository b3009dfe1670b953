/- Texts laid together: Wi, Wk. No condition. -/
import Derived.Test.YtggbjokhniigkaaGreatWhq
import Derived.Test.YtggbjokhniigkaaGreatWjq
/- Propose, whole. -/
namespace Go.Proofs.YtggbjokhniigkaaGreat.Wi
open Go.Proofs.YtggbjokhniigkaaGreat.Ty Go.RowKit Go.Proofs.YtggbjokhniigkaaGreatW.PrintWords Go.Proofs.YtggbjokhniigkaaGreatW.PrintLast Go.Proofs.YtggbjokhniigkaaGreatW.PrintMore Go.Proofs.YtggbjokhniigkaaGreat.Mx Go.Proofs.YtggbjokhniigkaaGreat.Kx Go.Proofs.YtggbjokhniigkaaGreat.Wa Go.Proofs.YtggbjokhniigkaaGreat.Wb Go.Proofs.YtggbjokhniigkaaGreat.Wc Go.Proofs.YtggbjokhniigkaaGreat.Wd Go.Proofs.YtggbjokhniigkaaGreat.We Go.Proofs.YtggbjokhniigkaaGreat.Wf Go.Proofs.YtggbjokhniigkaaGreat.Wh
set_option linter.unusedVariables false
theorem Propose_calls (r : Rep) (A5 A7 A8 A9 A10 : Option Addr) (c5 c7 c8 c9 c10 : Nat) (w : World) (h : RdRep w r A5 A7 A8 A9 A10) (hn : Small r) (time : Int) (data : ByteArray) (hs : data.size ≤ 1000000) (s : Rep) (msgs : List Msg) (kk code : Int) (hp : propose r time data = (s, msgs, kk, code)) :
    Calls Tryz.prog 62 #[.agg (rc r (.slice A5 r.f5.length c5) (.slice A7 r.f7.length c7) (.slice A8 r.f8.length c8) (.slice A9 r.f9.length c9) (.slice A10 r.f10.length c10)), .int .i64 time, .string data] w fun e w' => ∃ v5 v7 v8 v9 v10 vout : Value, e = .returned (.tuple #[.agg (rc s v5 v7 v8 v9 v10), vout, .int .i64 kk, .int .i64 code]) ∧ Mem w w' (rows s v5 v7 v8 v9 v10 ++ [row kM 27 vout msgs]) := by
  cases hx : (may r && below time && decide (data.size ≤ 20000)) with
  | false =>
    have hp1 := hp
    unfold propose at hp1
    rw [if_neg (by rw [hx]; simp)] at hp1
    cases hp1
    exact Propose_e1 r A5 A7 A8 A9 A10 c5 c7 c8 c9 c10 w h hn time data hs hx
  | true =>
    have hx1 := hx
    simp only [Bool.and_eq_true, decide_eq_true_eq] at hx1
    obtain ⟨⟨h1, h2⟩, h3⟩ := hx1
    by_cases hq : r.f4 = 0 ∧ r.f2 % r.f1 = r.f0
    · exact Propose_in r A5 A7 A8 A9 A10 c5 c7 c8 c9 c10 w h hn time data h3 h1 h2 hq.1 hq.2 s msgs kk code hp
    · have hp1 := hp
      unfold propose at hp1
      rw [if_pos hx, if_neg hq] at hp1
      cases hp1
      exact Propose_e17 r A5 A7 A8 A9 A10 c5 c7 c8 c9 c10 w h hn time data h3 h1 h2 hq
end Go.Proofs.YtggbjokhniigkaaGreat.Wi
/- The document's example, in part: the replica's awake answers true. -/
namespace Go.Proofs.YtggbjokhniigkaaGreat.Wk
open Go.Proofs.YtggbjokhniigkaaGreat.Ty Go.RowKit Go.Proofs.YtggbjokhniigkaaGreatW.PrintWords Go.Proofs.YtggbjokhniigkaaGreatW.PrintLast Go.Proofs.YtggbjokhniigkaaGreatW.PrintMore Go.Proofs.YtggbjokhniigkaaGreat.Mx Go.Proofs.YtggbjokhniigkaaGreat.Kx Go.Proofs.YtggbjokhniigkaaGreat.Wa Go.Proofs.YtggbjokhniigkaaGreat.Wb Go.Proofs.YtggbjokhniigkaaGreat.Wc Go.Proofs.YtggbjokhniigkaaGreat.Wd Go.Proofs.YtggbjokhniigkaaGreat.We Go.Proofs.YtggbjokhniigkaaGreat.Wf Go.Proofs.YtggbjokhniigkaaGreat.Wh Go.Proofs.YtggbjokhniigkaaGreat.Wi Go.Proofs.YtggbjokhniigkaaGreat.Wj Go.Proofs.YtggbjokhniigkaaGreat.PReplicaTakes
set_option linter.unusedVariables false
set_option linter.unusedSimpArgs false
def dx : ByteArray := ⟨#[120]⟩
def r03 : Rep := ⟨0, 3, 0, 0, 0, [], 0, [0, 0, 0], [], [], [], -1, 0⟩
def s03 : Rep := ⟨0, 3, 0, 0, 0, [⟨5, dx⟩], 0, [1, 0, 0], [], [], [], -1, 0⟩
def l03 : List Msg := [⟨1, 0, 1, 0, 1, 0, 0, [⟨5, dx⟩]⟩, ⟨1, 0, 2, 0, 1, 0, 0, [⟨5, dx⟩]⟩]
theorem new03 : replica_New.f 0 3 = some (0, 3, 0, 0, 0, [], 0, [0, 0, 0], [], [], [], -1, 0, 0) := by rfl
theorem propose03 : propose r03 5 dx = (s03, l03, 1, 0) := by rfl
theorem Propose03 (A5 A7 A8 A9 A10 : Option Addr) (c5 c7 c8 c9 c10 : Nat) (w : World) (h7 : Kd.C (Kd.int .i64) w A7 3 [0, 0, 0]) :
    Calls Tryz.prog 62 #[.agg #[.int .i64 0, .int .i64 3, .int .i64 0, .int .i64 0, .int .i64 0, .slice A5 0 c5, .int .i64 0, .slice A7 3 c7, .slice A8 0 c8, .slice A9 0 c9, .slice A10 0 c10, .int .i64 (-1), .int .i64 0], .int .i64 5, .string dx] w fun e w' => ∃ (B5 B7 B8 B9 B10 Bo : Option Addr) (d5 d7 d8 d9 d10 co : Nat), e = .returned (.tuple #[.agg #[.int .i64 0, .int .i64 3, .int .i64 0, .int .i64 0, .int .i64 0, .slice B5 1 d5, .int .i64 0, .slice B7 3 d7, .slice B8 0 d8, .slice B9 0 d9, .slice B10 0 d10, .int .i64 (-1), .int .i64 0], .slice Bo 2 co, .int .i64 1, .int .i64 0]) ∧ Below w.heap.size w w' := by
  refine (Propose_calls r03 A5 A7 A8 A9 A10 c5 c7 c8 c9 c10 w ⟨C_zero _, h7, C_zero _, C_zero _, C_zero _⟩ ⟨by decide, by decide, by decide, by decide, by decide⟩ 5 dx (by decide) s03 l03 1 0 propose03).mono ?_
  rintro e w' ⟨v5, v7, v8, v9, v10, vo, rfl, hM⟩
  obtain ⟨B5, d5, rfl, _, _⟩ := hM.row_at 0 rfl
  obtain ⟨B7, d7, rfl, _, _⟩ := hM.row_at 1 rfl
  obtain ⟨B8, d8, rfl, _, _⟩ := hM.row_at 2 rfl
  obtain ⟨B9, d9, rfl, _, _⟩ := hM.row_at 3 rfl
  obtain ⟨B10, d10, rfl, _, _⟩ := hM.row_at 4 rfl
  obtain ⟨Bo, co, rfl, _, _⟩ := hM.row_at 5 rfl
  exact ⟨B5, B7, B8, B9, B10, Bo, d5, d7, d8, d9, d10, co, rfl, hM.below⟩
set_option maxRecDepth 100000 in
set_option maxHeartbeats 4000000 in
theorem awake_calls (w : World) : Calls Tryz.prog 32 #[] w fun e w' => e = .returned (.bool true) ∧ Mem w w' [] := by
  have M0 := Aside0.mk (Mem.nil w)
  go_enter Tryz.func32, Tryz.ntmps32
  go_wp2_with fail
  refine (replica_New.calls 0 3 0 3 0 0 0 [] 0 [0, 0, 0] [] [] [] (-1) 0 0 _ new03).mono ?_
  rintro e w1 ⟨v5, v7, v8, v9, v10, rfl, R5, R7, R8, R9, R10, hb⟩
  obtain ⟨A5, c5, rfl, _, _⟩ := R_form hb R5
  obtain ⟨A7, c7, rfl, _, h7⟩ := R_form hb R7
  obtain ⟨A8, c8, rfl, _, _⟩ := R_form hb R8
  obtain ⟨A9, c9, rfl, _, _⟩ := R_form hb R9
  obtain ⟨A10, c10, rfl, _, _⟩ := R_form hb R10
  have M1 := Aside0.mk (M0.out.grow hb)
  have H7 := Aside0.mk h7
  clear h7 R5 R7 R8 R9 R10 hb
  simp only [List.length_nil, List.length_cons, Nat.zero_add, Nat.reduceAdd]
  go_wp2_with fail
  have M2 := Aside0.mk (M1.out.alloc #[.int .i64 0, .int .i64 3, .int .i64 0, .int .i64 0, .int .i64 0, .slice A5 0 c5, .int .i64 0, .slice A7 3 c7, .slice A8 0 c8, .slice A9 0 c9, .slice A10 0 c10, .int .i64 (-1), .int .i64 0] 25)
  refine (Propose03 A5 A7 A8 A9 A10 c5 c7 c8 c9 c10 _ (Kd.C_below H7.out (below_alloc (Below.refl _ _) _))).mono ?_
  rintro e w2 ⟨B5, B7, B8, B9, B10, Bo, d5, d7, d8, d9, d10, co, rfl, hb⟩
  have M3 := Aside0.mk (M2.out.grow hb)
  clear hb
  go_wp2_with fail
  refine (falseworklaw11_num.calls 0 0 _ rfl).mono ?_
  rintro e w3 ⟨rfl, hD⟩
  have M4 := Aside0.mk ((M3.out.allocAt #[.int .i64 0, .int .i64 3, .int .i64 0, .int .i64 0, .int .i64 0, .slice B5 1 d5, .int .i64 0, .slice B7 3 d7, .slice B8 0 d8, .slice B9 0 d9, .slice B10 0 d10, .int .i64 (-1), .int .i64 0] 25 _ rfl).drawn hD)
  clear hD
  go_wp2_with fail
  refine (falseworklaw11_num.calls 0 0 _ rfl).mono ?_
  rintro e w4 ⟨rfl, hD⟩
  have M5 := Aside0.mk (M4.out.drawn hD)
  clear hD
  have cS := blk_cell (M5.out.blk_at 0 rfl)
  go_wp2
  go_ret
  exact ⟨rfl, Mem.sel (ps := [_, _]) (F := []) [] 2 M5.out rfl rfl⟩
end Go.Proofs.YtggbjokhniigkaaGreat.Wk
