/- Walks: what may be. -/
import Derived.Test.YtggbjokhniigkaaWa
import Derived.Deep.LoopGhost
import Derived.OrdersHeld
namespace Go.Proofs.Ytggbjokhniigkaa.Wb
open Go.Proofs.Ytggbjokhniigkaa.Ty Go.RowKit Go.Proofs.YtggbjokhniigkaaW.PrintWords Go.Proofs.YtggbjokhniigkaaW.PrintLast Go.Proofs.YtggbjokhniigkaaW.PrintMore Go.Proofs.Ytggbjokhniigkaa.Mx Go.Proofs.Ytggbjokhniigkaa.Kx Go.Proofs.Ytggbjokhniigkaa.Wa
set_option linter.unusedVariables false
set_option linter.unusedSimpArgs false

theorem Drawn0.same (w : World) : Drawn0 w w := Drawn0.refl w
/-! ### size, below -/
set_option maxRecDepth 100000 in
set_option maxHeartbeats 1000000 in
theorem size_calls (n : Int) (w : World) : Calls Try.prog 64 #[.int .i64 n] w fun e w' => e = .returned (.bool (size n)) ∧ w = w' := by
  unfold size
  by_cases h1 : n = 1
  · subst h1
    go_enter Try.func64, Try.ntmps64
    go_wp2
    go_ret
    exact ⟨rfl, rfl⟩
  by_cases h3 : n = 3
  · subst h3
    go_enter Try.func64, Try.ntmps64
    go_wp2
    go_ret
    exact ⟨rfl, rfl⟩
  by_cases h5 : n = 5
  · subst h5
    go_enter Try.func64, Try.ntmps64
    go_wp2
    go_ret
    exact ⟨rfl, rfl⟩
  have e1 : (n == 1) = false := by simpa using h1
  have e3 : (n == 3) = false := by simpa using h3
  have e5 : (n == 5) = false := by simpa using h5
  have e : (decide (n = 1) || decide (n = 3) || decide (n = 5)) = false := by simp [h1, h3, h5]
  rw [e]
  clear e h1 h3 h5
  go_enter Try.func64, Try.ntmps64
  go_wp2
  go_ret
  exact ⟨rfl, rfl⟩
set_option maxRecDepth 100000 in
set_option maxHeartbeats 1000000 in
theorem below_calls (n : Int) (w : World) : Calls Try.prog 67 #[.int .i64 n] w fun e w' => e = .returned (.bool (below n)) ∧ w = w' := by
  unfold below maxTime
  by_cases h1 : 0 ≤ n
  · by_cases h2 : n < 1099511627776
    · have e : (decide (0 ≤ n) && decide (n < 1099511627776)) = true := by simp [h1, h2]
      rw [e]
      go_enter Try.func67, Try.ntmps67
      go_wp2
      go_ret
      exact ⟨rfl, rfl⟩
    · have e : (decide (0 ≤ n) && decide (n < 1099511627776)) = false := by simp [h2]
      rw [e]
      go_enter Try.func67, Try.ntmps67
      go_wp2
      go_ret
      exact ⟨rfl, rfl⟩
  · have e : (decide (0 ≤ n) && decide (n < 1099511627776)) = false := by simp [h1]
    rw [e]
    go_enter Try.func67, Try.ntmps67
    go_wp2
    go_ret
    exact ⟨rfl, rfl⟩

/-! ### log -/
theorem rises_drop {l : List Entry} {k : Nat} (h : k < l.length) (last : Int) : rises last (l.drop k) = (decide (last < (rd_Entry l k).f0) && decide ((rd_Entry l k).f0 < maxTime) && decide ((rd_Entry l k).f1.size ≤ 20000) && rises (rd_Entry l k).f0 (l.drop (k + 1))) := by
  rw [List.drop_eq_getElem_cons h]
  have : rd_Entry l k = l[k] := by unfold rd_Entry; simp [List.getD, h]
  rw [this]
  rfl
set_option maxRecDepth 100000 in
set_option maxHeartbeats 4000000 in
theorem log_calls (A : Option Addr) (c : Nat) (l : List Entry) (w : World) (hl : Kd.C kE w A l.length l) (hn : l.length ≤ 1000000000) :
    Calls Try.prog 68 #[.slice A l.length c] w fun e w' => e = .returned (.bool (log l)) ∧ Mem w w' [] := by
  have HL := Aside0.mk hl
  have M0 := Aside0.mk (Mem.nil w)
  clear hl
  unfold log
  go_enter Try.func68, Try.ntmps68
  go_wp2
  go_loopg [3, 8] (l.length + 1) (fun kq v3 v8 w' => ∃ (k : Nat) (last : Int), v3 = .int .i64 last ∧ v8 = .int .i64 k ∧ Aside0 (k ≤ l.length ∧ kq = l.length + 1 - k ∧ rises last (l.drop k) = rises 0 l) ∧ Aside0 (Mem w w' []))
  case atStart => exact ⟨0, 0, rfl, rfl, ⟨Nat.zero_le _, rfl, rfl⟩, M0⟩
  case round =>
    obtain ⟨k, last, rfl, rfl, HK, M1⟩ := hrel
    by_cases hlt : k < l.length
    · obtain ⟨ad, e, hx0, hx1⟩ := at_Entry HL.out (k : Int) (by omega) (by omega)
      cases e
      replace hx0 := (M1.out.below.cell (World.block_lt_of_cell? w _ hx0)).trans hx0
      replace hx1 := (M1.out.below.cell (World.block_lt_of_cell? w _ hx1)).trans hx1
      have HR := Aside0.mk (rises_drop hlt last)
      simp only [Int.toNat_natCast] at hx0 hx1
      generalize hent : rd_Entry l (k : Int) = en at *
      clear hent
      by_cases c1 : last < en.f0
      · by_cases c2 : en.f0 < 1099511627776
        · by_cases c3 : en.f1.size ≤ 20000
          · go_wp2
            go_roundg (l.length - k)
            case measure => have := HK.out; omega
            case rel =>
              refine ⟨k + 1, en.f0, rfl, by go_num, ⟨by omega, by have := HK.out; omega, ?_⟩, ?_⟩
              · rw [← HK.out.2.2, HR.out]
                simp [c1, c2, c3, maxTime]
              · exact ⟨Mem.sel (ps := [_]) (F := []) [] 1 (M1.out.alloc _ _) rfl rfl⟩
          · go_wp2
            go_ret
            refine ⟨?_, Mem.sel (ps := [_]) (F := []) [] 1 (M1.out.alloc _ _) rfl rfl⟩
            rw [← HK.out.2.2, HR.out, decide_eq_false (show ¬ en.f1.size ≤ 20000 by omega)]
            simp
        · go_wp2
          go_ret
          refine ⟨?_, Mem.sel (ps := [_]) (F := []) [] 1 (M1.out.alloc _ _) rfl rfl⟩
          rw [← HK.out.2.2, HR.out, decide_eq_false (show ¬ en.f0 < maxTime by unfold maxTime; omega)]
          simp
      · go_wp2
        go_ret
        refine ⟨?_, Mem.sel (ps := [_]) (F := []) [] 1 (M1.out.alloc _ _) rfl rfl⟩
        rw [← HK.out.2.2, HR.out, decide_eq_false (show ¬ last < en.f0 by omega)]
        simp
    · have hk : k = l.length := by have := HK.out.1; omega
      subst hk
      go_wp2
      go_ret
      refine ⟨?_, M1.out⟩
      rw [← HK.out.2.2, List.drop_length]
      simp [rises]
      omega
end Go.Proofs.Ytggbjokhniigkaa.Wb
