/- Walks: a message is taken out. -/
import Derived.Test.YtlmbdcgciieikaaMp
import Derived.Test.YtlmbdcgciieikaaDel
import Derived.Deep.RegionLaw
namespace Go.Proofs.Ytlmbdcgciieikaa.Pd
open Go.Proofs.Ytlmbdcgciieikaa.Pu Go.RowKit Go.Proofs.YtlmbdcgciieikaaW.PrintWords Go.Proofs.YtlmbdcgciieikaaW.PrintLast Go.Proofs.YtlmbdcgciieikaaW.PrintMore Go.Proofs.Ytlmbdcgciieikaa.Mx Go.Proofs.Ytlmbdcgciieikaa.PPostAdds
set_option linter.unusedVariables false
set_option linter.unusedSimpArgs false
def zM : Value := .agg #[.int .i64 0, .int .i64 0, .int .i64 0, .int .i64 0, .int .i64 0, .int .i64 0, .int .i64 0, .slice none 0 0]
theorem zero29 (w : World) : (zeroValue 29).run Try.prog w = .ok zM w := by kernel_rfl
set_option maxRecDepth 100000 in
set_option maxHeartbeats 4000000 in
theorem delete_calls (w0 w : World) (F : List Res) (v : Value) (xs : List S29) (k : Nat) (hM : Mem w0 w (row k29 29 v xs :: F)) (hk : k < xs.length) (hl : xs.length ≤ 1000000) :
    Calls Try.prog 20 #[v, .int .i64 k, .int .i64 ((k : Int) + 1)] w fun e w' => ∃ v', e = .returned v' ∧ Mem w0 w' (row k29 29 v' (xs.eraseIdx k) :: F) := by
  obtain ⟨g, c, rfl, _, _, hcc⟩ := Kd.R_form (hM.hold (i := 0) rfl) (by omega : 0 < xs.length)
  obtain ⟨_, _, he, hc, _⟩ := hM.row_at 0 rfl
  cases he
  obtain ⟨n, hn⟩ : ∃ n, xs.length = n + 1 := ⟨xs.length - 1, by omega⟩
  rw [hn] at hM hc hk hl ⊢
  have M0 := Aside0.mk hM
  clear hM
  have e1 : ((k : Int) == (k : Int) + 1) = false := beq_eq_false_iff_ne.mpr (by omega)
  have e2 : ¬ (k : Int) = (k : Int) + 1 := by omega
  have hkc : k ≤ c := by omega
  have hkc1 : k + 1 ≤ c := by omega
  have hk1 : k + 1 ≤ n + 1 := by omega
  have hk2 : (0 : Int) ≤ (k : Int) + 1 := by omega
  have hk3 : (k : Int) + 1 ≤ (n : Int) + 1 := by omega
  have hk4 : (k : Int) + 1 ≤ ((n + 1 : Nat) : Int) := by omega
  have hn1 : n ≤ n + 1 := by omega
  have hn2 : n ≤ c := by omega
  have hn3 : n < c := by omega
  have hn4 : ¬ c = n := by omega
  have hn5 : (n : Int) ≤ ((n + 1 : Nat) : Int) := by omega
  go_enter Try.func20, Try.ntmps20
  go_wp2_with fail
  go_region_law (refine Mem.delete_step k29 M0.out.drew 0 (by rfl) (.tmp 22) (.tmp 25) 22 29 rfl Try.underlying22 (by kernel_rfl) (g := g) (n := n + 1) (c := c) (k := k) (by simp [Act.eval, Act.put]) (A := if c = k + 1 then some ⟨g, 0, none⟩ else some ⟨g, (k + 1) * 8, none⟩) (m := n + 1 - (k + 1)) (c2 := c - (k + 1)) (by simp [Act.eval, Act.put]) (by simp [Addr.add]; rfl) rfl (by rfl) hk ?_; intro w1 hM1; have M1 := Aside0.mk hM1; clear hM1; rw [Nat.add_sub_cancel]; obtain ⟨w2, hcl, hM2⟩ := Mem.clear_run (P := Try.prog) k29 M1.out 0 22 29 0 zM Try.underlying22 zero29 (by decide) (by rfl) (g := g) (n := n) (c := c) (c2 := c - n) rfl hn3 (n * 8) rfl; have M2 := Aside0.mk hM2; clear hM2)
  go_wp2
  all_goals go_ret
  · rename_i h
    refine ⟨_, rfl, ?_⟩
    rw [← h]
    exact M2.out
  · exact ⟨_, rfl, M2.out⟩
end Go.Proofs.Ytlmbdcgciieikaa.Pd
