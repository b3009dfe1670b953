/- Walks: the document's example. -/
import Derived.Test.YtlmbdcgciieikaaPt
namespace Go.Proofs.Ytlmbdcgciieikaa.Pw
open Go.Proofs.Ytlmbdcgciieikaa.Pu Go.Proofs.Ytlmbdcgciieikaa.Pd Go.Proofs.Ytlmbdcgciieikaa.Pt Go.RowKit Go.Proofs.YtlmbdcgciieikaaW.PrintWords Go.Proofs.YtlmbdcgciieikaaW.PrintLast Go.Proofs.YtlmbdcgciieikaaW.PrintMore Go.Proofs.Ytlmbdcgciieikaa.Mx Go.Proofs.Ytlmbdcgciieikaa.PPostAdds
set_option linter.unusedVariables false
set_option linter.unusedSimpArgs false
def cells (m : S29) : List Value := [.int .i64 m.f0, .int .i64 m.f1, .int .i64 m.f2, .int .i64 m.f3, .int .i64 m.f4, .int .i64 m.f5, .int .i64 m.f6, .slice none 0 0]
theorem one_C (w : World) (g c : Nat) (m : S29) (h7 : m.f7 = []) (hb : w.heap[g]? = some (.cells (cells m).toArray 29 (0, 0))) : Kd.C k29 w (some ⟨g, 0, none⟩) 1 [m] := by
  have hK : k29.K w m (cells m) := by
    have := k29_mk w m (A7 := none) (c7 := 0) (by rw [h7]; exact Nat.le_refl _) (by rw [h7]; exact Kd.C_nil k48 w)
    rw [h7] at this
    exact this
  exact (reads_one (d := k29) m hb rfl).imp_ (Below.refl _ _) (fun x c hx => by obtain ⟨rfl, rfl⟩ := hx; exact hK)
def cells_ {A : Option Addr} {c : Nat} (m : S29) : List Value := [.int .i64 m.f0, .int .i64 m.f1, .int .i64 m.f2, .int .i64 m.f3, .int .i64 m.f4, .int .i64 m.f5, .int .i64 m.f6, .slice A m.f7.length c]
def mA : S29 := ⟨3, 0, 1, 0, 0, 0, 0, []⟩
set_option maxRecDepth 100000 in
set_option maxHeartbeats 4000000 in
theorem awake_calls (w : World) : Calls Try.prog 8 #[] w fun e w' => e = .returned (.bool true) ∧ Mem w w' [] := by
  go_enter Try.func8, Try.ntmps8
  go_wp2_with fail
  have M0 := Aside0.mk ((Mem.nil w).alloc (cells mA).toArray 29)
  refine (take_ok _ 1 [mA] 0 mA _ (one_C _ _ 1 mA rfl (M0.out.blk_at 0 rfl)) (by decide) (by decide) rfl (by decide) (by decide)).mono ?_
  rintro e w2 ⟨v7, v, rfl, hM⟩
  have M1 := Aside0.mk (M0.out.trans hM)
  clear hM
  obtain ⟨A7, c7, he, _, _⟩ := M1.out.row_at 1 rfl
  subst he
  obtain ⟨A8, c8, he, _, _⟩ := M1.out.row_at 0 rfl
  subst he
  have a0 : mA.f0 = 3 := rfl
  go_wp2_with fail
  refine (falseworklaw9_num.calls 0 0 _ rfl).mono ?_
  rintro e w3 ⟨rfl, hD⟩
  have M2 := Aside0.mk (((M1.out.alloc (@cells_ A7 c7 mA).toArray 29)).drawn hD)
  clear hD
  have cB := blk_cell (M2.out.blk_at 0 rfl)
  simp only [cells_] at cB
  rw [a0] at cB
  go_wp2_with fail
  have M3 := Aside0.mk (M2.out.alloc (cells z29).toArray 29)
  refine (post_Add.calls 2000 none 0 [] _ 1 [z29] [z29] _ (Kd.C_nil k29 _) (by decide) (one_C _ _ 1 z29 rfl (M3.out.blk_at 0 rfl)) (by decide) (Add_f [] [z29] ⟨by decide, by decide⟩ ⟨by decide, by decide⟩)).mono ?_
  rintro e w4 ⟨v4, rfl, hN, hb⟩
  have M4 := Aside0.mk (M3.out.grow hb)
  clear hb
  obtain ⟨A9, c9, he⟩ := Kd.N_slice hN
  subst he
  clear hN
  go_wp2
  all_goals go_ret
  all_goals exact ⟨rfl, Mem.sel (ps := [_, _, _, _, _]) (F := []) [] 5 M4.out rfl rfl⟩
end Go.Proofs.Ytlmbdcgciieikaa.Pw
