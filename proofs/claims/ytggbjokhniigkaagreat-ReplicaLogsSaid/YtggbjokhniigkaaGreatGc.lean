/- Texts laid together: Wa, Wb. No condition. -/
import Derived.Test.YtggbjokhniigkaaGreatGa
import Derived.WalkSpells
import Derived.WalkLawsBesides
import Derived.RegionTactic
import Derived.Deep.RegionLaw
import Derived.Deep.QuietTactic
import Derived.BigQuiet
import Derived.BigRegion
import Derived.Outline
import Derived.ChangeAlike
import Derived.Deep.DeepMust
import Derived.Deep.LoopGhost
import Derived.OrdersHeld
/- Walks of the replica's small methods. -/
namespace Go.Proofs.YtggbjokhniigkaaGreat.Wa
open Go.Proofs.YtggbjokhniigkaaGreat.Ty Go.RowKit Go.Proofs.YtggbjokhniigkaaGreatW.PrintWords Go.Proofs.YtggbjokhniigkaaGreatW.PrintLast Go.Proofs.YtggbjokhniigkaaGreatW.PrintMore Go.Proofs.YtggbjokhniigkaaGreat.Mx Go.Proofs.YtggbjokhniigkaaGreat.Kx
set_option linter.unusedVariables false
set_option linter.unusedSimpArgs false
/-- The worker's cells. -/
def wc (i n vw nr hw : Int) (vl : Value) (cm : Int) (va vv vo vb : Value) (bv bd : Int) (vout : Value) : Array Value := #[.int .i64 i, .int .i64 n, .int .i64 vw, .int .i64 nr, .int .i64 hw, vl, .int .i64 cm, va, vv, vo, vb, .int .i64 bv, .int .i64 bd, vout]

/-! ### entries -/
set_option maxRecDepth 100000 in
set_option maxHeartbeats 2000000 in
theorem entries_calls (A : Option Addr) (c : Nat) (l : List Entry) (w : World) (hl : Kd.C kE w A l.length l) (hn : l.length ≤ 1000000000) :
    Calls Tryz.prog 99 #[.slice A l.length c] w fun e w' => ∃ v : Value, e = .returned v ∧ Mem w w' [row kE 68 v l] := by
  have HL := Aside0.mk hl
  have HN := Aside0.mk hn
  have M0 := Aside0.mk (Mem.nil w)
  clear hl hn
  go_enter Tryz.func99, Tryz.ntmps99
  go_wp2_with (((with_reducible refine gate_builtin (b := .append) (xs := #[.tmp 3, .tmp 4]) rfl ?_); at_builtin; refine Mem.app kE ((M0.out.alloc #[] 68).lit 0 kE [] rfl (Reps.none _ _) (by decide)) 0 _ [] l rfl (.tmp 3) (.tmp 4) 22 68 _ _ rfl Tryz.underlying22 infoEntry rfl (by decide) (by omega) A _ c rfl rfl rfl (Kd.C_alloc HL.out _) (fun x cs h => h) (by have := HN.out; simp; omega) ?_; intro v1 w1 hM1; have M1 := Aside0.mk hM1; clear hM1))
  go_ret
  exact ⟨_, rfl, M1.out⟩

/-! ### send -/
set_option maxRecDepth 100000 in
set_option maxHeartbeats 2000000 in
theorem send_calls (w0 w : World) (R : Res) (F : List Res) (g : Nat) (i n vw nr hw : Int) (vl : Value) (cm : Int) (va vv vo vb : Value) (bv bd : Int) (vout : Value) (out : List Msg) (to_ m0 m1 m2 m3 m4 m5 m6 : Int) (A : Option Addr) (c : Nat) (l : List Entry)
    (hM : Mem w0 w (R :: blk g 95 (wc i n vw nr hw vl cm va vv vo vb bv bd vout) :: row kM 27 vout out :: F)) (hl : Rd w0 R kE A l) (hn : l.length ≤ 1000000000) (hc : l.length ≤ c) (ho : out.length ≤ 1000000000) :
    Calls Tryz.prog 126 #[.pointer (some ⟨g, 0, none⟩), .int .i64 to_, .agg #[.int .i64 m0, .int .i64 m1, .int .i64 m2, .int .i64 m3, .int .i64 m4, .int .i64 m5, .int .i64 m6, .slice A l.length c]] w fun e w' =>
      ∃ vout' : Value, e = .returned (.tuple #[]) ∧ Mem w0 w' (R :: blk g 95 (wc i n vw nr hw vl cm va vv vo vb bv bd vout') :: row kM 27 vout' (out ++ [⟨m0, i, to_, vw, m4, m5, m6, l⟩]) :: F) := by
  have hb := hM.blk_at 1 rfl
  have h0 : w.cell? ⟨g, 0, none⟩ = some (.int .i64 i) := blk_cell hb 0
  have h2 : w.cell? ⟨g, 2, none⟩ = some (.int .i64 vw) := blk_cell hb 2
  have hg : g < w.heap.size := blk_lt hb
  have M0 := Aside0.mk hM
  have HL := Aside0.mk hl
  have HN := Aside0.mk hn
  have HO := Aside0.mk ho
  clear hb hl hn hM hc ho
  go_enter Tryz.func126, Tryz.ntmps126
  go_wp2
  go_region
  have M1 := Aside0.mk ((M0.out.alloc #[.int .i64 m0, .int .i64 i, .int .i64 to_, .int .i64 vw, .int .i64 m4, .int .i64 m5, .int .i64 m6, .slice A l.length c] 27).drew)
  go_wp2_with fail
  refine (entries_calls A c l _ (HL.out _ _ 1 M1.out rfl) HN.out).mono ?_
  rintro e w1 ⟨v, rfl, hM⟩
  have M2 := Aside0.mk (M1.out.trans hM)
  clear hM
  obtain ⟨A2, c2, rfl, hc2, _⟩ := M2.out.row_at 0 rfl
  have cB := blk_cell (M2.out.blk_at 1 rfl)
  have fB := blk_frozen (M2.out.blk_at 1 rfl)
  have cG := blk_cell (M2.out.blk_at 3 rfl)
  have fG := blk_frozen (M2.out.blk_at 3 rfl)
  have hg1 := blk_lt (M2.out.blk_at 3 rfl)
  have hw1 := blk_lt (M2.out.blk_at 1 rfl)
  have hgn : ¬ (g = w.heap.size) := by omega
  have hgn' : ¬ (w.heap.size = g) := by omega
  unfold wc at cG
  have HC2 := Aside0.mk hc2; clear hc2
  go_wp2_with fail
  have M3 := Aside0.mk (((M2.out.set 1 rfl 7 (.slice A2 l.length c2)).imp (i := 0) rfl (el kM ⟨m0, i, to_, vw, m4, m5, m6, l⟩ [.int .i64 m0, .int .i64 i, .int .i64 to_, .int .i64 vw, .int .i64 m4, .int .i64 m5, .int .i64 m6, .slice A2 l.length c2]) (fun f hf => kM_mkM _ _ _ ⟨m0, i, to_, vw, m4, m5, m6, l⟩ hf)).drew)
  go_region_law (refine Mem.app1_step kM (M3.out.alloc #[.int .i64 m0, .int .i64 i, .int .i64 to_, .int .i64 vw, .int .i64 m4, .int .i64 m5, .int .i64 m6, .slice A2 l.length c2] 27) 5 1 0 vout out _ _ _ 1 (by decide) (by rfl) (.tmp 28) (.tmp 30) 60 27 _ _ rfl Tryz.underlying60 infoMsg rfl (by decide) (by omega) (by simp [Act.eval, Act.put]) (by simp [Act.eval, Act.put]) rfl rfl rfl (by have := HO.out; omega) ?_; intro v1 w2 hM; have M4 := Aside0.mk hM; clear hM; obtain ⟨A3, c3, he, hc3, _⟩ := M4.out.row_at 5 rfl; rw [List.length_append, List.length_singleton] at he; subst he; have cG2 := blk_cell (M4.out.blk_at 4 rfl); have fG2 := blk_frozen (M4.out.blk_at 4 rfl); unfold wc at cG2; clear hc3)
  all_goals
    go_end0
    refine ⟨_, rfl, Mem.sel (ps := [_, _, _, _, _, _]) (F := F) [3, 4, 5] 6 (M4.out.set 4 rfl 13 (.slice A3 (out.length + 1) c3)) rfl rfl⟩
end Go.Proofs.YtggbjokhniigkaaGreat.Wa
/- Walks: what may be. -/
namespace Go.Proofs.YtggbjokhniigkaaGreat.Wb
open Go.Proofs.YtggbjokhniigkaaGreat.Ty Go.RowKit Go.Proofs.YtggbjokhniigkaaGreatW.PrintWords Go.Proofs.YtggbjokhniigkaaGreatW.PrintLast Go.Proofs.YtggbjokhniigkaaGreatW.PrintMore Go.Proofs.YtggbjokhniigkaaGreat.Mx Go.Proofs.YtggbjokhniigkaaGreat.Kx Go.Proofs.YtggbjokhniigkaaGreat.Wa
set_option linter.unusedVariables false
set_option linter.unusedSimpArgs false

theorem Drawn0.same (w : World) : Drawn0 w w := Drawn0.refl w
/-! ### size, below -/
set_option maxRecDepth 100000 in
set_option maxHeartbeats 1000000 in
theorem size_calls (n : Int) (w : World) : Calls Tryz.prog 81 #[.int .i64 n] w fun e w' => e = .returned (.bool (size n)) ∧ w = w' := by
  unfold size
  by_cases h1 : n = 1
  · subst h1
    go_enter Tryz.func81, Tryz.ntmps81
    go_wp2
    go_ret
    exact ⟨rfl, rfl⟩
  by_cases h3 : n = 3
  · subst h3
    go_enter Tryz.func81, Tryz.ntmps81
    go_wp2
    go_ret
    exact ⟨rfl, rfl⟩
  by_cases h5 : n = 5
  · subst h5
    go_enter Tryz.func81, Tryz.ntmps81
    go_wp2
    go_ret
    exact ⟨rfl, rfl⟩
  have e1 : (n == 1) = false := by simpa using h1
  have e3 : (n == 3) = false := by simpa using h3
  have e5 : (n == 5) = false := by simpa using h5
  have e : (decide (n = 1) || decide (n = 3) || decide (n = 5)) = false := by simp [h1, h3, h5]
  rw [e]
  clear e h1 h3 h5
  go_enter Tryz.func81, Tryz.ntmps81
  go_wp2
  go_ret
  exact ⟨rfl, rfl⟩
set_option maxRecDepth 100000 in
set_option maxHeartbeats 1000000 in
theorem below_calls (n : Int) (w : World) : Calls Tryz.prog 96 #[.int .i64 n] w fun e w' => e = .returned (.bool (below n)) ∧ w = w' := by
  unfold below maxTime
  by_cases h1 : 0 ≤ n
  · by_cases h2 : n < 1099511627776
    · have e : (decide (0 ≤ n) && decide (n < 1099511627776)) = true := by simp [h1, h2]
      rw [e]
      go_enter Tryz.func96, Tryz.ntmps96
      go_wp2
      go_ret
      exact ⟨rfl, rfl⟩
    · have e : (decide (0 ≤ n) && decide (n < 1099511627776)) = false := by simp [h2]
      rw [e]
      go_enter Tryz.func96, Tryz.ntmps96
      go_wp2
      go_ret
      exact ⟨rfl, rfl⟩
  · have e : (decide (0 ≤ n) && decide (n < 1099511627776)) = false := by simp [h1]
    rw [e]
    go_enter Tryz.func96, Tryz.ntmps96
    go_wp2
    go_ret
    exact ⟨rfl, rfl⟩

/-! ### log -/
theorem rises_drop {l : List Entry} {k : Nat} (h : k < l.length) (last : Int) : rises last (l.drop k) = (decide (last < (rd_Entry l k).f0) && decide ((rd_Entry l k).f0 < maxTime) && decide ((rd_Entry l k).f1.size ≤ 20000) && rises (rd_Entry l k).f0 (l.drop (k + 1))) := by
  rw [List.drop_eq_getElem_cons h]
  have : rd_Entry l k = l[k] := by unfold rd_Entry; simp [List.getD, h]
  rw [this]
  rfl
set_option maxRecDepth 100000 in
set_option maxHeartbeats 4000000 in
theorem log_calls (A : Option Addr) (c : Nat) (l : List Entry) (w : World) (hl : Kd.C kE w A l.length l) (hn : l.length ≤ 1000000000) :
    Calls Tryz.prog 100 #[.slice A l.length c] w fun e w' => e = .returned (.bool (log l)) ∧ Mem w w' [] := by
  have HL := Aside0.mk hl
  have M0 := Aside0.mk (Mem.nil w)
  clear hl
  unfold log
  go_enter Tryz.func100, Tryz.ntmps100
  go_wp2
  go_loopg [3, 8] (l.length + 1) (fun kq v3 v8 w' => ∃ (k : Nat) (last : Int), v3 = .int .i64 last ∧ v8 = .int .i64 k ∧ Aside0 (k ≤ l.length ∧ kq = l.length + 1 - k ∧ rises last (l.drop k) = rises 0 l) ∧ Aside0 (Mem w w' []))
  case atStart => exact ⟨0, 0, rfl, rfl, ⟨Nat.zero_le _, rfl, rfl⟩, M0⟩
  case round =>
    obtain ⟨k, last, rfl, rfl, HK, M1⟩ := hrel
    by_cases hlt : k < l.length
    · obtain ⟨ad, e, hx0, hx1⟩ := at_Entry HL.out (k : Int) (by omega) (by omega)
      cases e
      replace hx0 := (M1.out.below.cell (World.block_lt_of_cell? w _ hx0)).trans hx0
      replace hx1 := (M1.out.below.cell (World.block_lt_of_cell? w _ hx1)).trans hx1
      have HR := Aside0.mk (rises_drop hlt last)
      simp only [Int.toNat_natCast] at hx0 hx1
      generalize hent : rd_Entry l (k : Int) = en at *
      clear hent
      by_cases c1 : last < en.f0
      · by_cases c2 : en.f0 < 1099511627776
        · by_cases c3 : en.f1.size ≤ 20000
          · go_wp2
            go_roundg (l.length - k)
            case measure => have := HK.out; omega
            case rel =>
              refine ⟨k + 1, en.f0, rfl, by go_num, ⟨by omega, by have := HK.out; omega, ?_⟩, ?_⟩
              · rw [← HK.out.2.2, HR.out]
                simp [c1, c2, c3, maxTime]
              · exact ⟨Mem.sel (ps := [_]) (F := []) [] 1 (M1.out.alloc _ _) rfl rfl⟩
          · go_wp2
            go_ret
            refine ⟨?_, Mem.sel (ps := [_]) (F := []) [] 1 (M1.out.alloc _ _) rfl rfl⟩
            rw [← HK.out.2.2, HR.out, decide_eq_false (show ¬ en.f1.size ≤ 20000 by omega)]
            simp
        · go_wp2
          go_ret
          refine ⟨?_, Mem.sel (ps := [_]) (F := []) [] 1 (M1.out.alloc _ _) rfl rfl⟩
          rw [← HK.out.2.2, HR.out, decide_eq_false (show ¬ en.f0 < maxTime by unfold maxTime; omega)]
          simp
      · go_wp2
        go_ret
        refine ⟨?_, Mem.sel (ps := [_]) (F := []) [] 1 (M1.out.alloc _ _) rfl rfl⟩
        rw [← HK.out.2.2, HR.out, decide_eq_false (show ¬ last < en.f0 by omega)]
        simp
    · have hk : k = l.length := by have := HK.out.1; omega
      subst hk
      go_wp2
      go_ret
      refine ⟨?_, M1.out⟩
      rw [← HK.out.2.2, List.drop_length]
      simp [rises]
      omega
end Go.Proofs.YtggbjokhniigkaaGreat.Wb
