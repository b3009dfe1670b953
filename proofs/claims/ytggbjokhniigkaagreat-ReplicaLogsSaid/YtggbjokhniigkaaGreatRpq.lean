/- Walks: the reference's primary. -/
import Derived.Test.YtggbjokhniigkaaGreatGd
namespace Go.Proofs.YtggbjokhniigkaaGreat.Rp
open Go.Proofs.YtggbjokhniigkaaGreat.Ty Go.RowKit Go.Proofs.YtggbjokhniigkaaGreatW.PrintWords Go.Proofs.YtggbjokhniigkaaGreatW.PrintLast Go.Proofs.YtggbjokhniigkaaGreatW.PrintMore Go.Proofs.YtggbjokhniigkaaGreat.Mx Go.Proofs.YtggbjokhniigkaaGreat.Kx Go.Proofs.YtggbjokhniigkaaGreat.Wa Go.Proofs.YtggbjokhniigkaaGreat.Wd
set_option linter.unusedVariables false
set_option linter.unusedSimpArgs false
set_option maxRecDepth 100000 in
set_option maxHeartbeats 2000000 in
theorem primary11_calls (w : World) (g : Nat) (i n vw nr hw : Int) (vl : Value) (cm : Int) (va vv vo vb : Value) (bv bd : Int)
    (hb : w.heap[g]? = some (.cells #[.int .i64 i, .int .i64 n, .int .i64 vw, .int .i64 nr, .int .i64 hw, vl, .int .i64 cm, va, vv, vo, vb, .int .i64 bv, .int .i64 bd] 25 (0, 0))) (hv : 0 ≤ vw) (hv2 : vw ≤ 4611686018427387904) (hn : 0 < n) (hn2 : n ≤ 5) :
    Calls Tryz.prog 114 #[.pointer (some ⟨g, 0, none⟩)] w fun e w' => e = .returned (.bool (vw % n == i)) ∧ Drawn0 w w' := by
  have cB := blk_cell hb
  clear hb
  have hz : (n == 0) = false := by simp; omega
  have hz2 : ¬ n = 0 := by omega
  have ht : vw.tmod n = vw % n := Int.tmod_eq_emod_of_nonneg hv
  go_enter Tryz.func114, Tryz.ntmps114
  go_wp2
  (try go_quiet (fail))
  (try go_wp2)
  go_ret
  exact ⟨by first | rfl | (rw [ht]; done) | (simp [ht]; done), by repeat (first | exact Drawn0.refl _ | apply Drawn0.step)⟩
end Go.Proofs.YtggbjokhniigkaaGreat.Rp
