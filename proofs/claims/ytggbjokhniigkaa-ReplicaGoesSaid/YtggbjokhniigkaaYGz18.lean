/- Texts laid together: Jn, Mo. No condition. -/
import Derived.Test.YtggbjokhniigkaaYGz17
set_option linter.unusedVariables false
set_option linter.unusedSimpArgs false
set_option maxRecDepth 100000
set_option maxHeartbeats 8000000
namespace Go.Proofs.Ytggbjokhniigkaa.Jn
open Ty Go.RowKit YtggbjokhniigkaaW.PrintWords YtggbjokhniigkaaW.PrintLast YtggbjokhniigkaaW.PrintMore Mx Kx Tk Ij
theorem insertId_is (l : List Int) (k : Int) : l.take (place l k) ++ [k] ++ l.drop (place l k) = insertId l k := by
  unfold insertId
  rw [List.append_assoc]
  rfl
theorem joined_in (w0 w : World) (F : List Res) (v : Value) (l : List Int) (k : Int) (hM : Mem w0 w (row (Kd.int .i64) 3 v l :: F)) (hn : l.length ≤ 1000000) (hs : l.Pairwise (fun a b => a < b)) (hk : k ∈ l) :
    Calls Try.prog 110 #[v, .int .i64 k] w fun e w' => e = .returned (.tuple #[v, .bool false]) ∧ Mem w0 w' (row (Kd.int .i64) 3 v l :: F) :=
  Jo.joined_there w0 w F v l k hM hn (place l k) (place_le l k) (place_lt l k) (place_ge l k hs) (place_there l k hs hk).1 (place_there l k hs hk).2
theorem joined_not (w0 w : World) (F : List Res) (v : Value) (l : List Int) (k : Int) (hM : Mem w0 w (row (Kd.int .i64) 3 v l :: F)) (hn : l.length ≤ 1000000) (hs : l.Pairwise (fun a b => a < b)) (hk : ¬ k ∈ l) (zs : List Int) (hz : insertId l k = zs) :
    Calls Try.prog 110 #[v, .int .i64 k] w fun e w' => ∃ v' : Value, e = .returned (.tuple #[v', .bool true]) ∧ Mem w0 w' (row (Kd.int .i64) 3 v' zs :: row (Kd.int .i64) 3 v l :: F) := by
  subst hz
  cases l with
  | nil => exact Jo.joined_first w0 w F v k hM
  | cons x l => exact Jo.joined_new w0 w F v (x :: l) k hM hn (Nat.succ_pos _) (place (x :: l) k) (place_le _ k) (place_lt _ k) (place_ge _ k hs) (place_not _ k hk) _ (insertId_is _ k)
end Go.Proofs.Ytggbjokhniigkaa.Jn
namespace Go.Proofs.Ytggbjokhniigkaa.Mo
open Ty Go.RowKit YtggbjokhniigkaaW.PrintWords YtggbjokhniigkaaW.PrintLast YtggbjokhniigkaaW.PrintMore Mx Kx Wa Wd Tk
theorem half {n : Int} (h : 0 ≤ n) : n.tdiv 2 = n / 2 := Int.tdiv_eq_ediv_of_nonneg h
theorem half_wrap {n : Int} (h : 0 ≤ n) (h2 : n ≤ 5) : wrap64 (n / 2 + 1) = most n ∧ IntKind.i64.wrap (n / 2 + 1) = most n ∧ wrap64 (n / 2) = n / 2 ∧ IntKind.i64.wrap (n / 2) = n / 2 := by
  unfold most
  refine ⟨?_, ?_, ?_, ?_⟩
  · unfold wrap64; omega
  · rw [IntKind.wrap_i64]; omega
  · unfold wrap64; omega
  · rw [IntKind.wrap_i64]; omega
theorem most_calls (w : World) (g : Nat) (i n vw nr hw : Int) (vl : Value) (cm : Int) (va vv vo vb : Value) (bv bd : Int) (vout : Value)
    (hb : w.heap[g]? = some (.cells (wc i n vw nr hw vl cm va vv vo vb bv bd vout) 99 (0, 0))) (hn : 0 ≤ n) (hn2 : n ≤ 5) :
    Calls Try.prog 109 #[.pointer (some ⟨g, 0, none⟩)] w fun e w' => e = .returned (.int .i64 (most n)) ∧ Drawn0 w w' := by
  have cB := blk_cell hb
  unfold wc at cB
  clear hb
  have ht := half hn
  obtain ⟨h1, h2, h3, h4⟩ := half_wrap hn hn2
  go_enter Try.func109, Try.ntmps109
  go_wp2
  (try go_quiet (fail))
  (try go_wp2)
  go_ret
  exact ⟨by first | rfl | (simp only [ht, h1, h2, h3, h4]; done) | (simp [ht, h1, h2, h3, h4]; done) | (unfold most; rfl), by repeat (first | exact Drawn0.refl _ | apply Drawn0.step)⟩
end Go.Proofs.Ytggbjokhniigkaa.Mo
