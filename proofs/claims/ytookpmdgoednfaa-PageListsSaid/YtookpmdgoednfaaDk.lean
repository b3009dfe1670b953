/- Walks: a pair is taken out of a page, a page out of pages (slices.Delete). -/
import Derived.Test.YtookpmdgoednfaaPo
import Derived.Test.YtookpmdgoednfaaDel
import Derived.Deep.RegionLaw
namespace Go.Proofs.Ytookpmdgoednfaa.Dk
open Go.RowKit Go.Proofs.YtookpmdgoednfaaW.PrintWords Go.Proofs.YtookpmdgoednfaaW.PrintLast Go.Proofs.YtookpmdgoednfaaW.PrintMore Go.Proofs.Ytookpmdgoednfaa.Mx Go.Proofs.Ytookpmdgoednfaa.PPagePuts Go.Proofs.Ytookpmdgoednfaa.Pa
set_option linter.unusedVariables false
set_option linter.unusedSimpArgs false
def zP : Value := .agg #[.string ⟨#[]⟩, .string ⟨#[]⟩]
theorem zeroP (w : World) : (zeroValue 41).run Try.prog w = .ok zP w := by kernel_rfl
set_option maxRecDepth 100000 in
set_option maxHeartbeats 4000000 in
theorem delP_calls (w0 w : World) (F : List Res) (v : Value) (xs : List SP) (k : Nat) (hM : Mem w0 w (row kP 41 v xs :: F)) (hk : k < xs.length) (hl : xs.length ≤ 1000000) :
    Calls Try.prog 77 #[v, .int .i64 k, .int .i64 ((k : Int) + 1)] w fun e w' => ∃ v', e = .returned v' ∧ Mem w0 w' (row kP 41 v' (xs.eraseIdx k) :: F) := by
  obtain ⟨g, c, rfl, _, _, hcc⟩ := Kd.R_form (hM.hold (i := 0) rfl) (by omega : 0 < xs.length)
  obtain ⟨_, _, he, hc, _⟩ := hM.row_at 0 rfl
  cases he
  obtain ⟨n, hn⟩ : ∃ n, xs.length = n + 1 := ⟨xs.length - 1, by omega⟩
  rw [hn] at hM hc hk hl ⊢
  have M0 := Aside0.mk hM
  clear hM
  have e1 : ((k : Int) == (k : Int) + 1) = false := beq_eq_false_iff_ne.mpr (by omega)
  have e2 : ¬ (k : Int) = (k : Int) + 1 := by omega
  have hkc : k ≤ c := by omega
  have hkc1 : k + 1 ≤ c := by omega
  have hk1 : k + 1 ≤ n + 1 := by omega
  have hk2 : (0 : Int) ≤ (k : Int) + 1 := by omega
  have hk3 : (k : Int) + 1 ≤ (n : Int) + 1 := by omega
  have hk4 : (k : Int) + 1 ≤ ((n + 1 : Nat) : Int) := by omega
  have hn1 : n ≤ n + 1 := by omega
  have hn2 : n ≤ c := by omega
  have hn3 : n < c := by omega
  have hn4 : ¬ c = n := by omega
  have hn5 : (n : Int) ≤ ((n + 1 : Nat) : Int) := by omega
  go_enter Try.func77, Try.ntmps77
  go_wp2_with fail
  go_region_law (refine Mem.delete_step kP M0.out.drew 0 (by rfl) (.tmp 22) (.tmp 25) 32 41 rfl Try.underlying32 (by kernel_rfl) (g := g) (n := n + 1) (c := c) (k := k) (by simp [Act.eval, Act.put]) (A := if c = k + 1 then some ⟨g, 0, none⟩ else some ⟨g, (k + 1) * 2, none⟩) (m := n + 1 - (k + 1)) (c2 := c - (k + 1)) (by simp [Act.eval, Act.put]) (by simp [Addr.add]; rfl) rfl (by rfl) hk ?_; intro w1 hM1; have M1 := Aside0.mk hM1; clear hM1; rw [Nat.add_sub_cancel]; obtain ⟨w2, hcl, hM2⟩ := Mem.clear_run (P := Try.prog) kP M1.out 0 32 41 0 zP Try.underlying32 zeroP (by decide) (by rfl) (g := g) (n := n) (c := c) (c2 := c - n) rfl hn3 (n * 2) rfl; have M2 := Aside0.mk hM2; clear hM2)
  go_wp2
  all_goals go_ret
  · rename_i h
    refine ⟨_, rfl, ?_⟩
    rw [← h]
    exact M2.out
  · exact ⟨_, rfl, M2.out⟩
def zH : Value := .slice none 0 0
theorem zeroH (w : World) : (zeroValue 32).run Try.prog w = .ok zH w := by kernel_rfl
set_option maxRecDepth 100000 in
set_option maxHeartbeats 4000000 in
theorem delH_calls (w0 w : World) (F : List Res) (v : Value) (xs : List Hd) (k : Nat) (hM : Mem w0 w (row kH 32 v xs :: F)) (hk : k < xs.length) (hl : xs.length ≤ 1000000) :
    Calls Try.prog 78 #[v, .int .i64 k, .int .i64 ((k : Int) + 1)] w fun e w' => ∃ v', e = .returned v' ∧ Mem w0 w' (row kH 32 v' (xs.eraseIdx k) :: F) := by
  obtain ⟨g, c, rfl, _, _, hcc⟩ := Kd.R_form (hM.hold (i := 0) rfl) (by omega : 0 < xs.length)
  obtain ⟨_, _, he, hc, _⟩ := hM.row_at 0 rfl
  cases he
  obtain ⟨n, hn⟩ : ∃ n, xs.length = n + 1 := ⟨xs.length - 1, by omega⟩
  rw [hn] at hM hc hk hl ⊢
  have M0 := Aside0.mk hM
  clear hM
  have e1 : ((k : Int) == (k : Int) + 1) = false := beq_eq_false_iff_ne.mpr (by omega)
  have e2 : ¬ (k : Int) = (k : Int) + 1 := by omega
  have hkc : k ≤ c := by omega
  have hkc1 : k + 1 ≤ c := by omega
  have hk1 : k + 1 ≤ n + 1 := by omega
  have hk2 : (0 : Int) ≤ (k : Int) + 1 := by omega
  have hk3 : (k : Int) + 1 ≤ (n : Int) + 1 := by omega
  have hk4 : (k : Int) + 1 ≤ ((n + 1 : Nat) : Int) := by omega
  have hn1 : n ≤ n + 1 := by omega
  have hn2 : n ≤ c := by omega
  have hn3 : n < c := by omega
  have hn4 : ¬ c = n := by omega
  have hn5 : (n : Int) ≤ ((n + 1 : Nat) : Int) := by omega
  go_enter Try.func78, Try.ntmps78
  go_wp2_with fail
  go_region_law (refine Mem.delete_step kH M0.out.drew 0 (by rfl) (.tmp 22) (.tmp 25) 22 32 rfl Try.underlying22 (by kernel_rfl) (g := g) (n := n + 1) (c := c) (k := k) (by simp [Act.eval, Act.put]) (A := if c = k + 1 then some ⟨g, 0, none⟩ else some ⟨g, k + 1, none⟩) (m := n + 1 - (k + 1)) (c2 := c - (k + 1)) (by simp [Act.eval, Act.put]) (by simp [Addr.add, show kH.sz = 1 from rfl]) rfl (by rfl) hk ?_; intro w1 hM1; have M1 := Aside0.mk hM1; clear hM1; rw [Nat.add_sub_cancel]; obtain ⟨w2, hcl, hM2⟩ := Mem.clear_run (P := Try.prog) kH M1.out 0 22 32 0 zH Try.underlying22 zeroH (by decide) (by rfl) (g := g) (n := n) (c := c) (c2 := c - n) rfl hn3 (n) (Nat.mul_one n).symm; have M2 := Aside0.mk hM2; clear hM2)
  go_wp2
  all_goals go_ret
  · rename_i h
    refine ⟨_, rfl, ?_⟩
    rw [← h]
    exact M2.out
  · exact ⟨_, rfl, M2.out⟩
end Go.Proofs.Ytookpmdgoednfaa.Dk
