/- Texts laid together: Is, It, T9, Bs, Del, Fl. No condition. -/
import Derived.Deep.RegionHeld3
import Derived.Deep.LoopGhost
import Derived.Lib.SliceRun
import Derived.Laws.IdiomCopy
import Derived.Shelf.Spec.SlicesInsert
import Derived.Test.YtggbjokhniigkaaYGz11
import Derived.Test.YtggbjokhniigkaaYGz14
import Derived.Test.YtggbjokhniigkaaYGz15
set_option linter.unusedVariables false
set_option linter.unusedSimpArgs false
set_option maxRecDepth 100000
set_option maxHeartbeats 8000000
namespace Go.Proofs.Ytggbjokhniigkaa.Is
open Lx Ty Go.RowKit YtggbjokhniigkaaW.PrintWords YtggbjokhniigkaaW.PrintLast YtggbjokhniigkaaW.PrintMore Mx Kx Wa Wd Wj Tk Un Tv Tc Tc3 Tp Tg Ti
def WD (fn : Nat) (w0 w : World) (F : List Res) (g : Nat) (m : Msg) (A : Option Addr) (c : Nat) (s : Rep × List Msg) : Prop :=
  Calls Try.prog fn #[.pointer (some ⟨g, 0, none⟩), .agg (Kx.mA m A c)] w fun e w' => e = .returned (.tuple #[]) ∧ ∃ v5' v7' v8' v9' v10' vout' : Value, Mem w0 w' (wS g s.1 v5' s.1.f5 s.1.f6 v7' v8' v9' v10' vout' s.2 F)
theorem view_is (w0 w : World) (F : List Res) (g : Nat) (r : Rep) (m : Msg) (v5 v7 v8 v9 v10 : Value) (A : Option Addr) (c : Nat) (hM : Mem w0 w (wS g r v5 r.f5 r.f6 v7 v8 v9 v10 (.slice none 0 0) [] F)) (hl : Kd.C kE w0 A m.f7.length m.f7) (n : Nums r m) (hln : m.f7.length ≤ 1200) (hlc : m.f7.length ≤ c) (hs : r.f5.length ≤ 1200) : WD 100 w0 w F g m A c (tView r m) := by
  by_cases a1 : m.f3 < r.f2
  · have e : tView r m = (r, []) := if_pos (.inl a1)
    rw [e]
    exact view_n1 w0 w F g r m v5 v7 v8 v9 v10 A c hM hl (Nat.le_trans hln (by decide)) n.v0 n.v1 n.i0 n.i1 n.n5 a1
  by_cases a2 : m.f3 % r.f1 = m.f1
  case neg =>
    have e : tView r m = (r, []) := if_pos (.inr (.inl a2))
    rw [e]
    exact view_n2 w0 w F g r m v5 v7 v8 v9 v10 A c hM hl (Nat.le_trans hln (by decide)) n.v0 n.v1 n.i0 n.i1 n.n5 a1 a2
  by_cases a3 : m.f3 = r.f2
  · by_cases a4 : r.f4 = 0
    · have e : tView r m = (r, []) := if_pos (.inr (.inr ⟨a3, a4⟩))
      rw [e]
      exact view_n3 w0 w F g r m v5 v7 v8 v9 v10 A c hM hl (Nat.le_trans hln (by decide)) n.v0 n.v1 n.i0 n.i1 n.n5 a1 a2 a3 a4
    · have e : tView r m = (normal r m.f3 m.f7 m.f5, [toOne (normal r m.f3 m.f7 m.f5) m.f1 ⟨2, 0, 0, 0, ((normal r m.f3 m.f7 m.f5).f5.length : Int), 0, 0, []⟩]) := if_neg (fun h => h.elim a1 (fun h => h.elim (fun h => h a2) (fun h => a4 h.2)))
      rw [e]
      exact view_y2 w0 w F g r m v5 v7 v8 v9 v10 A c hM hl (Nat.le_trans hln (by decide)) n.v0 n.v1 n.i0 n.i1 n.n5 a1 a2 a3 a4 _ rfl
  · have e : tView r m = (normal r m.f3 m.f7 m.f5, [toOne (normal r m.f3 m.f7 m.f5) m.f1 ⟨2, 0, 0, 0, ((normal r m.f3 m.f7 m.f5).f5.length : Int), 0, 0, []⟩]) := if_neg (fun h => h.elim a1 (fun h => h.elim (fun h => h a2) (fun h => a3 h.1)))
    rw [e]
    exact view_y1 w0 w F g r m v5 v7 v8 v9 v10 A c hM hl (Nat.le_trans hln (by decide)) n.v0 n.v1 n.i0 n.i1 n.n5 a1 a2 a3 _ rfl
theorem entered_no {r : Rep} {m : Msg} (h : ¬ (m.f0 = 1 ∧ m.f4 = (r.f5.length : Int) + 1 ∧ log (r.f5 ++ m.f7) = true)) : entered r m = r := if_neg h
theorem prep_some {r : Rep} {m : Msg} {e : Rep} (a1 : ¬ m.f3 < r.f2) (a2 : m.f3 % r.f1 = m.f1) (a3 : ¬ r.f2 < m.f3) (a4 : r.f4 = 0) (he : entered r m = e) : tPrepare r m =
    (raise e m.f5, if m.f0 = 1 ∧ m.f4 ≤ ((raise e m.f5).f5.length : Int) then [toOne (raise e m.f5) m.f1 ⟨2, 0, 0, 0, ((raise e m.f5).f5.length : Int), 0, 0, []⟩]
        else if m.f0 = 1 ∨ ((raise e m.f5).f5.length : Int) < m.f5 then [toOne (raise e m.f5) m.f1 ⟨7, 0, 0, 0, ((raise e m.f5).f5.length : Int), 0, 0, []⟩] else []) := by
  subst he
  unfold tPrepare
  rw [if_neg (fun h => h.elim a1 (fun h => h a2)), if_neg (fun h => h.elim a3 (fun h => h a4))]
theorem commit_is (w0 w : World) (F : List Res) (g : Nat) (r : Rep) (m : Msg) (v5 v7 v8 v9 v10 : Value) (A : Option Addr) (c : Nat) (hM : Mem w0 w (wS g r v5 r.f5 r.f6 v7 v8 v9 v10 (.slice none 0 0) [] F)) (hl : Kd.C kE w0 A m.f7.length m.f7) (n : Nums r m) (hln : m.f7.length ≤ 1200) (hlc : m.f7.length ≤ c) (hs : r.f5.length ≤ 1200) (k1 : ¬ m.f0 = 1) : WD 96 w0 w F g m A c (tPrepare r m) := by
  have n0 : 0 < r.f1 := by have := n.i0; have := n.i1; omega
  by_cases a1 : m.f3 < r.f2
  · have e : tPrepare r m = (r, []) := if_pos (.inl a1)
    rw [e]
    exact prep_n1 w0 w F g r m v5 v7 v8 v9 v10 A c hM n.v0 n.v1 n0 n.n5 a1
  by_cases a2 : m.f3 % r.f1 = m.f1
  case neg =>
    have e : tPrepare r m = (r, []) := if_pos (.inr a2)
    rw [e]
    exact prep_n2 w0 w F g r m v5 v7 v8 v9 v10 A c hM n.v0 n.v1 n0 n.n5 a1 a2
  have ea : (r.f2 < m.f3 ∨ r.f4 ≠ 0) → tPrepare r m = ({ clear r with f2 := m.f3, f4 := 2 }, [toOne { clear r with f2 := m.f3, f4 := 2 } m.f1 ⟨7, 0, 0, 0, r.f6, 0, 0, []⟩]) := fun h => (if_neg (fun h => h.elim a1 (fun h => h a2))).trans (if_pos h)
  by_cases a3 : r.f2 < m.f3
  · rw [ea (.inl a3)]
    exact prep_a1 w0 w F g r m v5 v7 v8 v9 v10 A c hM n.v0 n.v1 n0 n.n5 a1 a2 a3 _ rfl
  by_cases a4 : r.f4 = 0
  case neg =>
    rw [ea (.inr a4)]
    exact prep_a2 w0 w F g r m v5 v7 v8 v9 v10 A c hM n.v0 n.v1 n0 n.n5 a1 a2 a3 a4 _ rfl
  have en := entered_no (r := r) (m := m) (fun h => k1 h.1)
  by_cases a5 : (r.f5.length : Int) < m.f5
  · have e : tPrepare r m = (raise r m.f5, [toOne (raise r m.f5) m.f1 ⟨7, 0, 0, 0, ((raise r m.f5).f5.length : Int), 0, 0, []⟩]) := by
      rw [prep_some a1 a2 a3 a4 en, if_neg (fun h => k1 h.1), if_pos (.inr a5)]
    rw [e]
    exact prep_c1 w0 w F g r m v5 v7 v8 v9 v10 A c hM n.v0 n.v1 n0 n.n5 k1 a1 a2 a3 a4 a5 _ rfl
  · have e : tPrepare r m = (raise r m.f5, []) := by
      rw [prep_some a1 a2 a3 a4 en, if_neg (fun h => k1 h.1), if_neg (fun h => h.elim k1 a5)]
    rw [e]
    exact prep_c0 w0 w F g r m v5 v7 v8 v9 v10 A c hM n.v0 n.v1 n0 n.n5 k1 a1 a2 a3 a4 a5 _ rfl
theorem entry_is (w0 w : World) (F : List Res) (g : Nat) (r : Rep) (m : Msg) (v5 v7 v8 v9 v10 : Value) (A : Option Addr) (c : Nat) (hM : Mem w0 w (wS g r v5 r.f5 r.f6 v7 v8 v9 v10 (.slice none 0 0) [] F)) (hl : Kd.C kE w0 A m.f7.length m.f7) (n : Nums r m) (hln : m.f7.length ≤ 1200) (hlc : m.f7.length ≤ c) (hs : r.f5.length ≤ 1200) (hk : m.f0 = 1) (hf1 : m.f7.length = 1) : WD 96 w0 w F g m A c (tPrepare r m) := by
  have n0 : 0 < r.f1 := by have := n.i0; have := n.i1; omega
  by_cases a1 : m.f3 < r.f2
  · have e : tPrepare r m = (r, []) := if_pos (.inl a1)
    rw [e]
    exact prep_n1 w0 w F g r m v5 v7 v8 v9 v10 A c hM n.v0 n.v1 n0 n.n5 a1
  by_cases a2 : m.f3 % r.f1 = m.f1
  case neg =>
    have e : tPrepare r m = (r, []) := if_pos (.inr a2)
    rw [e]
    exact prep_n2 w0 w F g r m v5 v7 v8 v9 v10 A c hM n.v0 n.v1 n0 n.n5 a1 a2
  have ea : (r.f2 < m.f3 ∨ r.f4 ≠ 0) → tPrepare r m = ({ clear r with f2 := m.f3, f4 := 2 }, [toOne { clear r with f2 := m.f3, f4 := 2 } m.f1 ⟨7, 0, 0, 0, r.f6, 0, 0, []⟩]) := fun h => (if_neg (fun h => h.elim a1 (fun h => h a2))).trans (if_pos h)
  by_cases a3 : r.f2 < m.f3
  · rw [ea (.inl a3)]
    exact prep_a1 w0 w F g r m v5 v7 v8 v9 v10 A c hM n.v0 n.v1 n0 n.n5 a1 a2 a3 _ rfl
  by_cases a4 : r.f4 = 0
  case neg =>
    rw [ea (.inr a4)]
    exact prep_a2 w0 w F g r m v5 v7 v8 v9 v10 A c hM n.v0 n.v1 n0 n.n5 a1 a2 a3 a4 _ rfl
  by_cases a5 : m.f4 ≤ (r.f5.length : Int)
  · have e : tPrepare r m = (raise r m.f5, [toOne (raise r m.f5) m.f1 ⟨2, 0, 0, 0, ((raise r m.f5).f5.length : Int), 0, 0, []⟩]) := by
      rw [prep_some a1 a2 a3 a4 (entered_no (fun h => by have := h.2.1; omega)), if_pos ⟨hk, a5⟩]
    rw [e]
    exact prep_low w0 w F g r m v5 v7 v8 v9 v10 A c hM hl hf1 hs n.v0 n.v1 n0 n.n5 hk a1 a2 a3 a4 a5 _ rfl
  by_cases a6 : m.f4 = (r.f5.length : Int) + 1
  case neg =>
    have a7 : (r.f5.length : Int) + 1 < m.f4 := by omega
    have e : tPrepare r m = (raise r m.f5, [toOne (raise r m.f5) m.f1 ⟨7, 0, 0, 0, ((raise r m.f5).f5.length : Int), 0, 0, []⟩]) := by
      rw [prep_some a1 a2 a3 a4 (entered_no (fun h => a6 h.2.1)), if_neg (fun h => a5 h.2), if_pos (.inl hk)]
    rw [e]
    exact prep_high w0 w F g r m v5 v7 v8 v9 v10 A c hM hl hf1 hs n.v0 n.v1 n0 n.n5 hk a1 a2 a3 a4 a7 _ rfl
  cases hb : log (r.f5 ++ m.f7) with
  | false =>
    have e : tPrepare r m = (raise r m.f5, [toOne (raise r m.f5) m.f1 ⟨7, 0, 0, 0, ((raise r m.f5).f5.length : Int), 0, 0, []⟩]) := by
      rw [prep_some a1 a2 a3 a4 (entered_no (fun h => by rw [hb] at h; exact absurd h.2.2 (by decide))), if_neg (fun h => a5 h.2), if_pos (.inl hk)]
    rw [e]
    exact prep_rej w0 w F g r m v5 v7 v8 v9 v10 A c hM hl hf1 hs n.v0 n.v1 n0 n.n5 hk a1 a2 a3 a4 a6 hb _ rfl
  | true =>
    have e : tPrepare r m = (raise { r with f5 := r.f5 ++ m.f7 } m.f5, [toOne (raise { r with f5 := r.f5 ++ m.f7 } m.f5) m.f1 ⟨2, 0, 0, 0, ((raise { r with f5 := r.f5 ++ m.f7 } m.f5).f5.length : Int), 0, 0, []⟩]) := by
      rw [prep_some a1 a2 a3 a4 (e := { r with f5 := r.f5 ++ m.f7 }) (if_pos ⟨hk, a6, hb⟩), if_pos ⟨hk, by show m.f4 ≤ ((r.f5 ++ m.f7).length : Int); rw [List.length_append, hf1]; push_cast; omega⟩]
    rw [e]
    exact prep_acc w0 w F g r m v5 v7 v8 v9 v10 A c hM hl hf1 hs n.v0 n.v1 n0 n.n5 hk a1 a2 a3 a4 a6 hb _ rfl
end Go.Proofs.Ytggbjokhniigkaa.Is
namespace Go.Proofs.Ytggbjokhniigkaa.It
open Lx Ty Go.RowKit YtggbjokhniigkaaW.PrintWords YtggbjokhniigkaaW.PrintLast YtggbjokhniigkaaW.PrintMore Mx Kx Wa Wd Wj Tk Un Tv Tc Tc3 Tp Tg Ti Is
theorem tLog_n {r : Rep} {m : Msg} (h : m.f3 ≠ r.f2 ∨ (r.f5.length : Int) < m.f4) : tLog r m = (r, []) := if_pos h
section
variable {r : Rep} {m : Msg} (h : ¬ (m.f3 ≠ r.f2 ∨ (r.f5.length : Int) < m.f4))
include h
theorem tLog_a (ha : r.f4 = 2 ∧ m.f4 ≤ r.f6 ∧ r.f6 ≤ m.f4 + (m.f7.length : Int) ∧ log (r.f5.take m.f4.toNat ++ m.f7) = true) : tLog r m = (normal r r.f2 (r.f5.take m.f4.toNat ++ m.f7) m.f5, told (normal r r.f2 (r.f5.take m.f4.toNat ++ m.f7) m.f5) m) := (if_neg h).trans (if_pos ha)
theorem tLog_i (ha : ¬ (r.f4 = 2 ∧ m.f4 ≤ r.f6 ∧ r.f6 ≤ m.f4 + (m.f7.length : Int) ∧ log (r.f5.take m.f4.toNat ++ m.f7) = true)) (hb : ¬ (r.f4 = 0 ∧ r.f2 % r.f1 ≠ r.f0)) : tLog r m = (r, []) := (if_neg h).trans ((if_neg ha).trans (if_neg hb))
theorem tLog_s (h4 : r.f4 = 0) (h7 : ¬ r.f2 % r.f1 = r.f0) (hc : ¬ (r.f5.length : Int) < m.f4 + (m.f7.length : Int)) : tLog r m = (raise r m.f5, told (raise r m.f5) m) := (if_neg h).trans ((if_neg (fun q => by have := q.1; omega)).trans ((if_pos ⟨h4, h7⟩).trans (if_neg hc)))
theorem tLog_r (h4 : r.f4 = 0) (h7 : ¬ r.f2 % r.f1 = r.f0) (hc : (r.f5.length : Int) < m.f4 + (m.f7.length : Int)) (hd : ¬ log (r.f5 ++ m.f7.drop (r.f5.length - m.f4.toNat)) = true) : tLog r m = (r, []) := (if_neg h).trans ((if_neg (fun q => by have := q.1; omega)).trans ((if_pos ⟨h4, h7⟩).trans ((if_pos hc).trans (if_neg hd))))
theorem tLog_g (h4 : r.f4 = 0) (h7 : ¬ r.f2 % r.f1 = r.f0) (hc : (r.f5.length : Int) < m.f4 + (m.f7.length : Int)) (hd : log (r.f5 ++ m.f7.drop (r.f5.length - m.f4.toNat)) = true) : tLog r m = (raise { r with f5 := r.f5 ++ m.f7.drop (r.f5.length - m.f4.toNat) } m.f5, told (raise { r with f5 := r.f5 ++ m.f7.drop (r.f5.length - m.f4.toNat) } m.f5) m) := (if_neg h).trans ((if_neg (fun q => by have := q.1; omega)).trans ((if_pos ⟨h4, h7⟩).trans ((if_pos hc).trans (if_pos hd))))
end
theorem log_is (w0 w : World) (F : List Res) (g : Nat) (r : Rep) (m : Msg) (v5 v7 v8 v9 v10 : Value) (A : Option Addr) (c : Nat) (hM : Mem w0 w (wS g r v5 r.f5 r.f6 v7 v8 v9 v10 (.slice none 0 0) [] F)) (hl : Kd.C kE w0 A m.f7.length m.f7) (n : Nums r m) (hln : m.f7.length ≤ 1200) (hlc : m.f7.length ≤ c) (hs : r.f5.length ≤ 1200) : WD 102 w0 w F g m A c (tLog r m) := by
  have n0 : 0 < r.f1 := by have := n.i0; have := n.i1; omega
  by_cases a1 : m.f3 = r.f2
  case neg =>
    rw [tLog_n (.inl a1)]
    exact log_l1 w0 w F g r m v5 v7 v8 v9 v10 A c hM ⟨n.x0, n.x1, hln, n.w0, n.w1, n0, n.n5⟩ a1
  by_cases a2 : (r.f5.length : Int) < m.f4
  · rw [tLog_n (.inr a2)]
    exact log_l2 w0 w F g r m v5 v7 v8 v9 v10 A c hM ⟨n.x0, n.x1, hln, n.w0, n.w1, n0, n.n5⟩ a1 a2
  have hh : ¬ (m.f3 ≠ r.f2 ∨ (r.f5.length : Int) < m.f4) := fun h => h.elim (fun h => h a1) a2
  obtain ⟨k, hk⟩ : ∃ k : Nat, m.f4 = (k : Int) := ⟨m.f4.toNat, (Int.toNat_of_nonneg n.x0).symm⟩
  have hkn : k ≤ r.f5.length := by rw [hk] at a2; omega
  have hkt : m.f4.toNat = k := by rw [hk]; exact Int.toNat_natCast k
  by_cases a3 : r.f4 = 2
  · have hb0 : ¬ (r.f4 = 0 ∧ r.f2 % r.f1 ≠ r.f0) := fun h => by have := h.1; omega
    by_cases a5 : m.f4 ≤ r.f6
    case neg =>
      rw [tLog_i hh (fun h => a5 h.2.1) hb0]
      exact log_a1 w0 w F g r m v5 v7 v8 v9 v10 A c hM ⟨n.x0, n.x1, hln, n.w0, n.w1, n0, n.n5⟩ a1 a2 a3 a5
    by_cases a6 : r.f6 ≤ m.f4 + (m.f7.length : Int)
    case neg =>
      rw [tLog_i hh (fun h => a6 h.2.2.1) hb0]
      exact log_a2 w0 w F g r m v5 v7 v8 v9 v10 A c hM ⟨n.x0, n.x1, hln, n.w0, n.w1, n0, n.n5⟩ a1 a2 a3 a5 a6
    cases hb : log (r.f5.take k ++ m.f7) with
    | false =>
      rw [tLog_i hh (fun h => by have := h.2.2.2; rw [hkt, hb] at this; exact absurd this (by decide)) hb0]
      rw [hk] at a5 a6
      exact log_a3 w0 w F g r m v5 v7 v8 v9 v10 A c hM k ⟨hl, hlc, hs, hk, hkn, hln, n.c1, n.w0, n.w1, n.i0, n.i1, n.n5⟩ a1 a3 a5 a6 hb
    | true =>
      rw [tLog_a hh ⟨a3, a5, a6, by rw [hkt]; exact hb⟩, hkt]
      rw [hk] at a5 a6
      exact log_a4 w0 w F g r m v5 v7 v8 v9 v10 A c hM k ⟨hl, hlc, hs, hk, hkn, hln, n.c1, n.w0, n.w1, n.i0, n.i1, n.n5⟩ a1 a3 a5 a6 hb _ rfl
  by_cases a4 : r.f4 = 0
  case neg =>
    rw [tLog_i hh (fun h => a3 h.1) (fun h => a4 h.1)]
    exact log_c1 w0 w F g r m v5 v7 v8 v9 v10 A c hM ⟨n.x0, n.x1, hln, n.w0, n.w1, n0, n.n5⟩ a1 a2 a3 a4
  by_cases a7 : r.f2 % r.f1 = r.f0
  · rw [tLog_i hh (fun h => a3 h.1) (fun h => h.2 a7)]
    exact log_p1 w0 w F g r m v5 v7 v8 v9 v10 A c hM ⟨n.x0, n.x1, hln, n.w0, n.w1, n0, n.n5⟩ a1 a2 a4 a7
  by_cases a8 : (r.f5.length : Int) < (k : Int) + (m.f7.length : Int)
  case neg =>
    rw [tLog_s hh a4 a7 (by rw [hk]; exact a8)]
    exact log_n3 w0 w F g r m v5 v7 v8 v9 v10 A c hM k ⟨hl, hlc, hs, hk, hkn, hln, n.c1, n.w0, n.w1, n.i0, n.i1, n.n5⟩ a1 a4 a7 a8 _ rfl
  obtain ⟨q, hq⟩ : ∃ q : Nat, r.f5.length = k + q := ⟨r.f5.length - k, by omega⟩
  have hqk : r.f5.length - m.f4.toNat = q := by rw [hkt]; omega
  have hqp : q < m.f7.length := by omega
  have hcq : ¬ c = q := by omega
  have a8' : (r.f5.length : Int) < m.f4 + (m.f7.length : Int) := by rw [hk]; exact a8
  cases hb : log (r.f5 ++ m.f7.drop q) with
  | false =>
    rw [tLog_r hh a4 a7 a8' (by rw [hqk, hb]; decide)]
    exact log_n1n w0 w F g r m v5 v7 v8 v9 v10 A c hM k ⟨hl, hlc, hs, hk, hkn, hln, n.c1, n.w0, n.w1, n.i0, n.i1, n.n5⟩ a1 a4 a7 q hq hqp hcq hb
  | true =>
    rw [tLog_g hh a4 a7 a8' (by rw [hqk]; exact hb), hqk]
    exact log_n2n w0 w F g r m v5 v7 v8 v9 v10 A c hM k ⟨hl, hlc, hs, hk, hkn, hln, n.c1, n.w0, n.w1, n.i0, n.i1, n.n5⟩ a1 a4 a7 q hq hqp hcq hb _ rfl
end Go.Proofs.Ytggbjokhniigkaa.It
namespace Go.Proofs.Ytggbjokhniigkaa.T9
open Ty Go.RowKit YtggbjokhniigkaaW.PrintWords YtggbjokhniigkaaW.PrintLast YtggbjokhniigkaaW.PrintMore Mx Kx Wa Wb Ta Tb
theorem takes_lo (w0 w : World) (F : List Res) (g : Nat) (r : Rep) (m : Msg) (v5 v7 v8 v9 v10 vout : Value) (A : Option Addr) (c : Nat) (h0 : m.f0 < 1)
    (hM : Mem w0 w (blk g 99 (Wa.wc r.f0 r.f1 r.f2 r.f3 r.f4 v5 r.f6 v7 v8 v9 v10 r.f11 r.f12 vout) :: row kM 29 vout [] :: Kx.sL r v5 v7 v8 v9 v10 F)) (hl : Kd.C kE w0 A m.f7.length m.f7) (hn : m.f7.length ≤ 1000000000) :
    Calls Try.prog 86 #[.pointer (some ⟨g, 0, none⟩), .agg (Kx.mA m A c)] w fun e w' => e = .returned (.bool false) ∧ Mem w0 w' (blk g 99 (Wa.wc r.f0 r.f1 r.f2 r.f3 r.f4 v5 r.f6 v7 v8 v9 v10 r.f11 r.f12 vout) :: row kM 29 vout [] :: Kx.sL r v5 v7 v8 v9 v10 F) := by
  have hmf : ∀ (fn : Fn) (first cap : Array Value) (w : World), (Instr.makeFunc fn first cap).run Try.prog w = .ok (.func fn first cap) w := fun _ _ _ _ => rfl
  obtain ⟨B5, d5, rfl, _, _⟩ := hM.row_at 2 rfl
  obtain ⟨B7, d7, rfl, _, _⟩ := hM.row_at 3 rfl
  obtain ⟨B8, d8, rfl, _, _⟩ := hM.row_at 4 rfl
  obtain ⟨B9, d9, rfl, _, _⟩ := hM.row_at 5 rfl
  obtain ⟨B10, d10, rfl, _, _⟩ := hM.row_at 6 rfl
  have HL := Aside0.mk hl
  have HN := Aside0.mk hn
  have k1 : decide (m.f0 < 1) = true := decide_eq_true h0
  have M1 := Aside0.mk (((hM.alloc (Kx.mA m A c) 29).allocAt #[.bool false] 4 (w.heap.size + 1) (by simp)).allocAt #[.nilFunc, .func (Fn.func 96) #[.pointer (some ⟨g, 0, none⟩)] #[], .func (Fn.func 97) #[.pointer (some ⟨g, 0, none⟩)] #[], .func (Fn.func 96) #[.pointer (some ⟨g, 0, none⟩)] #[], .func (Fn.func 98) #[.pointer (some ⟨g, 0, none⟩)] #[], .func (Fn.func 99) #[.pointer (some ⟨g, 0, none⟩)] #[], .func (Fn.func 100) #[.pointer (some ⟨g, 0, none⟩)] #[], .func (Fn.func 101) #[.pointer (some ⟨g, 0, none⟩)] #[], .func (Fn.func 102) #[.pointer (some ⟨g, 0, none⟩)] #[]] 103 (w.heap.size + 2) (by simp))
  clear hl hn hM h0
  have cM := blk_cell (M1.out.blk_at 2 rfl)
  have cB := blk_cell (M1.out.blk_at 1 rfl)
  have cF := blk_cell (M1.out.blk_at 0 rfl)
  have cG := blk_cell (M1.out.blk_at 3 rfl)
  unfold Wa.wc at cG
  go_enter_defers Try.func86, Try.ntmps86
  go_wp2_with fail
  go_upto_region 3 with (fail)
  clear cM cB cF cG
  obtain ⟨wc, hwc⟩ : ∃ wc : World, ((w.alloc (Obj.cells (Kx.mA m A c) 29)).alloc (Obj.cells #[.bool false] 4)).alloc (Obj.cells #[.nilFunc, .func (Fn.func 96) #[.pointer (some ⟨g, 0, none⟩)] #[], .func (Fn.func 97) #[.pointer (some ⟨g, 0, none⟩)] #[], .func (Fn.func 96) #[.pointer (some ⟨g, 0, none⟩)] #[], .func (Fn.func 98) #[.pointer (some ⟨g, 0, none⟩)] #[], .func (Fn.func 99) #[.pointer (some ⟨g, 0, none⟩)] #[], .func (Fn.func 100) #[.pointer (some ⟨g, 0, none⟩)] #[], .func (Fn.func 101) #[.pointer (some ⟨g, 0, none⟩)] #[], .func (Fn.func 102) #[.pointer (some ⟨g, 0, none⟩)] #[]] 103) = wc := ⟨_, rfl⟩
  rw [hwc] at M1 ⊢
  clear hwc
  have cM := blk_cell (M1.out.blk_at 2 rfl)
  have cG0 := blk_cell (M1.out.blk_at 3 rfl)
  have HG0 := Aside0.mk cG0
  have HM0 := Aside0.mk cM
  have cG := cG0
  unfold Wa.wc at cG
  clear cG0
  go_quiet (fail)
  clear HM0 HG0 cM cG
  have cB : wc.cell? ⟨w.heap.size + 1, 0, none⟩ = some (.bool false) := blk_cell (M1.out.blk_at 1 rfl) 0
  have fB : wc.frozen? ⟨w.heap.size + 1, 0, none⟩ = false := blk_frozen (M1.out.blk_at 1 rfl) 0
  go_wp2
  refine leaves_cons (f := 95) (args := #[.pointer (some ⟨w.heap.size + 1, 0, none⟩)]) (by simp) (by simp [go_sem]) ?_
  refine (catch_panicking ⟨w.heap.size + 1, 0, none⟩ [] _ false (by exact cB) (by exact fB)).mono ?_
  rintro e u' w4 ⟨rfl, rfl, w3, hM, rfl⟩
  have M4 := ((M1.out.drewN _).trans hM).set 1 rfl 0 (.bool false)
  have cE : (w3.setCell ⟨w.heap.size + 1, 0, none⟩ (.bool false)).cell? ⟨w.heap.size + 1, 0, none⟩ = some (.bool false) := blk_cell (M4.blk_at 1 rfl) 0
  clear hM
  simp [Leaves, settle, results, Try.results86, go_sem, cE]
  exact Mem.sel (ps := [_, _, _, _, _, _, _, _, _, _]) (F := F) [3, 4, 5, 6, 7, 8, 9] 10 M4 rfl rfl
theorem takes_hi (w0 w : World) (F : List Res) (g : Nat) (r : Rep) (m : Msg) (v5 v7 v8 v9 v10 vout : Value) (A : Option Addr) (c : Nat) (h0 : 9 ≤ m.f0)
    (hM : Mem w0 w (blk g 99 (Wa.wc r.f0 r.f1 r.f2 r.f3 r.f4 v5 r.f6 v7 v8 v9 v10 r.f11 r.f12 vout) :: row kM 29 vout [] :: Kx.sL r v5 v7 v8 v9 v10 F)) (hl : Kd.C kE w0 A m.f7.length m.f7) (hn : m.f7.length ≤ 1000000000) :
    Calls Try.prog 86 #[.pointer (some ⟨g, 0, none⟩), .agg (Kx.mA m A c)] w fun e w' => e = .returned (.bool false) ∧ Mem w0 w' (blk g 99 (Wa.wc r.f0 r.f1 r.f2 r.f3 r.f4 v5 r.f6 v7 v8 v9 v10 r.f11 r.f12 vout) :: row kM 29 vout [] :: Kx.sL r v5 v7 v8 v9 v10 F) := by
  have hmf : ∀ (fn : Fn) (first cap : Array Value) (w : World), (Instr.makeFunc fn first cap).run Try.prog w = .ok (.func fn first cap) w := fun _ _ _ _ => rfl
  obtain ⟨B5, d5, rfl, _, _⟩ := hM.row_at 2 rfl
  obtain ⟨B7, d7, rfl, _, _⟩ := hM.row_at 3 rfl
  obtain ⟨B8, d8, rfl, _, _⟩ := hM.row_at 4 rfl
  obtain ⟨B9, d9, rfl, _, _⟩ := hM.row_at 5 rfl
  obtain ⟨B10, d10, rfl, _, _⟩ := hM.row_at 6 rfl
  have HL := Aside0.mk hl
  have HN := Aside0.mk hn
  have k1 : decide (m.f0 < 1) = false := decide_eq_false (by omega)
  have k2 : decide (9 ≤ m.f0) = true := decide_eq_true h0
  have M1 := Aside0.mk (((hM.alloc (Kx.mA m A c) 29).allocAt #[.bool false] 4 (w.heap.size + 1) (by simp)).allocAt #[.nilFunc, .func (Fn.func 96) #[.pointer (some ⟨g, 0, none⟩)] #[], .func (Fn.func 97) #[.pointer (some ⟨g, 0, none⟩)] #[], .func (Fn.func 96) #[.pointer (some ⟨g, 0, none⟩)] #[], .func (Fn.func 98) #[.pointer (some ⟨g, 0, none⟩)] #[], .func (Fn.func 99) #[.pointer (some ⟨g, 0, none⟩)] #[], .func (Fn.func 100) #[.pointer (some ⟨g, 0, none⟩)] #[], .func (Fn.func 101) #[.pointer (some ⟨g, 0, none⟩)] #[], .func (Fn.func 102) #[.pointer (some ⟨g, 0, none⟩)] #[]] 103 (w.heap.size + 2) (by simp))
  clear hl hn hM h0
  have cM := blk_cell (M1.out.blk_at 2 rfl)
  have cB := blk_cell (M1.out.blk_at 1 rfl)
  have cF := blk_cell (M1.out.blk_at 0 rfl)
  have cG := blk_cell (M1.out.blk_at 3 rfl)
  unfold Wa.wc at cG
  go_enter_defers Try.func86, Try.ntmps86
  go_wp2_with fail
  go_upto_region 3 with (fail)
  clear cM cB cF cG
  obtain ⟨wc, hwc⟩ : ∃ wc : World, ((w.alloc (Obj.cells (Kx.mA m A c) 29)).alloc (Obj.cells #[.bool false] 4)).alloc (Obj.cells #[.nilFunc, .func (Fn.func 96) #[.pointer (some ⟨g, 0, none⟩)] #[], .func (Fn.func 97) #[.pointer (some ⟨g, 0, none⟩)] #[], .func (Fn.func 96) #[.pointer (some ⟨g, 0, none⟩)] #[], .func (Fn.func 98) #[.pointer (some ⟨g, 0, none⟩)] #[], .func (Fn.func 99) #[.pointer (some ⟨g, 0, none⟩)] #[], .func (Fn.func 100) #[.pointer (some ⟨g, 0, none⟩)] #[], .func (Fn.func 101) #[.pointer (some ⟨g, 0, none⟩)] #[], .func (Fn.func 102) #[.pointer (some ⟨g, 0, none⟩)] #[]] 103) = wc := ⟨_, rfl⟩
  rw [hwc] at M1 ⊢
  clear hwc
  have cM := blk_cell (M1.out.blk_at 2 rfl)
  have cG0 := blk_cell (M1.out.blk_at 3 rfl)
  have HG0 := Aside0.mk cG0
  have HM0 := Aside0.mk cM
  have cG := cG0
  unfold Wa.wc at cG
  clear cG0
  go_quiet (fail)
  clear HM0 HG0 cM cG
  have cB : wc.cell? ⟨w.heap.size + 1, 0, none⟩ = some (.bool false) := blk_cell (M1.out.blk_at 1 rfl) 0
  have fB : wc.frozen? ⟨w.heap.size + 1, 0, none⟩ = false := blk_frozen (M1.out.blk_at 1 rfl) 0
  go_wp2
  refine leaves_cons (f := 95) (args := #[.pointer (some ⟨w.heap.size + 1, 0, none⟩)]) (by simp) (by simp [go_sem]) ?_
  refine (catch_panicking ⟨w.heap.size + 1, 0, none⟩ [] _ false (by exact cB) (by exact fB)).mono ?_
  rintro e u' w4 ⟨rfl, rfl, w3, hM, rfl⟩
  have M4 := ((M1.out.drewN _).trans hM).set 1 rfl 0 (.bool false)
  have cE : (w3.setCell ⟨w.heap.size + 1, 0, none⟩ (.bool false)).cell? ⟨w.heap.size + 1, 0, none⟩ = some (.bool false) := blk_cell (M4.blk_at 1 rfl) 0
  clear hM
  simp [Leaves, settle, results, Try.results86, go_sem, cE]
  exact Mem.sel (ps := [_, _, _, _, _, _, _, _, _, _]) (F := F) [3, 4, 5, 6, 7, 8, 9] 10 M4 rfl rfl
end Go.Proofs.Ytggbjokhniigkaa.T9
namespace Go.Proofs.Ytggbjokhniigkaa.Bs
open Ty Go.RowKit YtggbjokhniigkaaW.PrintWords YtggbjokhniigkaaW.PrintLast YtggbjokhniigkaaW.PrintMore Mx Kx Wa Wd Sm
theorem search_calls (A : Option Addr) (c : Nat) (l : List Int) (k : Int) (w : World) (hl : Kd.C (Kd.int .i64) w A l.length l) (hn : l.length ≤ 1000000) (p : Nat) (hp : p ≤ l.length)
    (h1 : ∀ t : Nat, t < p → rd l (t : Int) < k) (h2 : ∀ t : Nat, p ≤ t → t < l.length → k ≤ rd l (t : Int)) (b : Bool) (hb : b = true ↔ p < l.length ∧ rd l (p : Int) = k) :
    Calls Try.prog 115 #[.slice A l.length c, .int .i64 k] w fun e w' => e = .returned (.tuple #[.int .i64 (p : Int), .bool b]) ∧ Drawn0 w w' := by
  have HL := Aside0.mk hl
  have HN := Aside0.mk hn
  have H1 := Aside0.mk h1
  have H2 := Aside0.mk h2
  have HB := Aside0.mk hb
  clear hl h1 h2 hb
  go_enter Try.func115, Try.ntmps115
  go_wp2
  go_loopg [7, 8] l.length (fun kx s7 s8 wr => ∃ (lo hi : Nat), s7 = .int .i64 lo ∧ s8 = .int .i64 hi ∧ Aside0 (lo ≤ p ∧ p ≤ hi ∧ hi ≤ l.length ∧ hi - lo ≤ kx) ∧ Drawn0 w wr)
  case atStart => exact ⟨0, l.length, rfl, rfl, ⟨Nat.zero_le _, hp, Nat.le_refl _, by omega⟩, by repeat (first | exact Drawn0.refl _ | apply Drawn0.step)⟩
  case round =>
    obtain ⟨lo, hi, rfl, rfl, HK, ⟨m1, rfl⟩⟩ := hrel
    by_cases hlt : lo < hi
    · obtain ⟨q, hq⟩ : ∃ q : Nat, (lo + hi) / 2 = q := ⟨_, rfl⟩
      have e3 : decide ((lo : Int) < (hi : Int)) = true := decide_eq_true (by omega)
      have e3n : decide (lo < hi) = true := decide_eq_true hlt
      have q1 : q < l.length := by have := HK.out; omega
      have q2 : ((q : Int) < (l.length : Int)) = True := eq_true (by omega)
      obtain ⟨ad, e, hx⟩ := at_IntC HL.out (q : Int) (by omega) (by omega)
      cases e
      simp only [Int.toNat_natCast] at hx
      have HQ := Aside0.mk hq
      have em : ((lo : Int) + (hi : Int)) / 2 = (q : Int) := by omega
      have HLT := Aside0.mk hlt
      clear hq hlt
      cases hc : decide (rd l (q : Int) < k)
      · have hge : ¬ rd l (q : Int) < k := of_decide_eq_false hc
        have H3 := Aside0.mk (show p ≤ q from Nat.le_of_not_lt (fun g => hge (H1.out _ g)))
        clear hge
        go_wp2
        go_roundg (q - lo)
        case measure => have := HK.out; have := HQ.out; have := HLT.out; omega
        case rel => exact ⟨lo, q, rfl, rfl, ⟨HK.out.1, H3.out, by omega, Nat.le_refl _⟩, by repeat (first | exact Drawn0.refl _ | apply Drawn0.step)⟩
      · have hlt' : rd l (q : Int) < k := of_decide_eq_true hc
        have H3 := Aside0.mk (show q < p from Nat.lt_of_not_le (fun g => by have := H2.out _ g q1; omega))
        clear hlt'
        go_wp2
        go_roundg (hi - (q + 1))
        case measure => have := HK.out; have := HQ.out; have := HLT.out; omega
        case rel => exact ⟨q + 1, hi, by go_num, rfl, ⟨H3.out, HK.out.2.1, HK.out.2.2.1, Nat.le_refl _⟩, by repeat (first | exact Drawn0.refl _ | apply Drawn0.step)⟩
    · have ep : p = lo := by have := HK.out; omega
      subst ep
      have e3 : decide ((p : Int) < (hi : Int)) = false := decide_eq_false (by have := HK.out; omega)
      have e3n : decide (p < hi) = false := decide_eq_false (by have := HK.out; omega)
      clear hlt
      by_cases hpn : p < l.length
      · have q2 : ((p : Int) < (l.length : Int)) = True := eq_true (by omega)
        have e4 : decide ((p : Int) < (l.length : Int)) = true := decide_eq_true (by omega)
        have e4n : decide (p < l.length) = true := decide_eq_true hpn
        obtain ⟨ad, e, hx⟩ := at_IntC HL.out (p : Int) (by omega) (by omega)
        cases e
        simp only [Int.toNat_natCast] at hx
        cases hc : (rd l (p : Int) == k)
        · have hb : b = false := by
            cases b with
            | false => rfl
            | true => exact absurd ((HB.out.1 rfl).2) (by simpa using hc)
          subst hb
          clear HB
          go_wp2
          refine bodyPost_ret (results_tmp2 rfl _ _ _) rfl ?_
          exact ⟨by first | rfl | simp, by repeat (first | exact Drawn0.refl _ | apply Drawn0.step)⟩
        · have hb : b = true := HB.out.2 ⟨hpn, by simpa using hc⟩
          subst hb
          clear HB
          go_wp2
          refine bodyPost_ret (results_tmp2 rfl _ _ _) rfl ?_
          exact ⟨by first | rfl | simp, by repeat (first | exact Drawn0.refl _ | apply Drawn0.step)⟩
      · have e4 : decide ((p : Int) < (l.length : Int)) = false := decide_eq_false (by omega)
        have e4n : decide (p < l.length) = false := decide_eq_false hpn
        have hb : b = false := by
          cases b with
          | false => rfl
          | true => exact absurd ((HB.out.1 rfl).1) hpn
        subst hb
        clear HB
        go_wp2
        refine bodyPost_ret (results_tmp2 rfl _ _ _) rfl ?_
        exact ⟨by first | rfl | simp, by repeat (first | exact Drawn0.refl _ | apply Drawn0.step)⟩
end Go.Proofs.Ytggbjokhniigkaa.Bs
namespace Go.Proofs.Ytggbjokhniigkaa.Mx
end Go.Proofs.Ytggbjokhniigkaa.Mx
namespace Go.Proofs.Ytggbjokhniigkaa.Mx
open Go.RowKit YtggbjokhniigkaaW.PrintWords YtggbjokhniigkaaW.PrintLast YtggbjokhniigkaaW.PrintMore
/-- A kind whose elements are their cells alone. -/
structure Flat {α : Type} (d : Kd α) (enc : α → List Value) : Prop where
  out_ : ∀ {w : World} {base : Nat} {ok : Nat → Prop} {x : α} {cs : List Value}, d.M w base ok x cs → cs = enc x
  mk_ : ∀ (w : World) (base : Nat) (ok : Nat → Prop) (x : α), d.M w base ok x (enc x)
  rd_ : ∀ {w : World} {x : α} {cs : List Value}, d.K w x cs → cs = enc x
theorem Flat.len {α : Type} {d : Kd α} {enc : α → List Value} (h : Flat d enc) (w : World) (x : α) : (enc x).length = d.sz := d.K_len (d.K_of_M (h.mk_ w 0 (fun _ => True) x))
theorem Flat.one {α : Type} {d : Kd α} {enc : α → List Value} (h : Flat d enc) (w : World) (x : α) : ∀ u ∈ enc x, u.oneCell' = true := d.K_one (d.K_of_M (h.mk_ w 0 (fun _ => True) x))
theorem flat_len {α : Type} {enc : α → List Value} {sz : Nat} (hl : ∀ x, (enc x).length = sz) : ∀ (xs : List α), (xs.flatMap enc).length = xs.length * sz
  | [] => by simp
  | x :: xs => by rw [List.flatMap_cons, List.length_append, flat_len hl xs, hl, List.length_cons, Nat.succ_mul, Nat.add_comm]
theorem flat_take {α : Type} {enc : α → List Value} {sz : Nat} (hl : ∀ x, (enc x).length = sz) (xs : List α) (k : Nat) : (xs.flatMap enc).take (k * sz) = (xs.take k).flatMap enc := by
  induction xs generalizing k with
  | nil => simp
  | cons x xs ih =>
    cases k with
    | zero => simp
    | succ k =>
      rw [List.flatMap_cons, List.take_succ_cons, List.flatMap_cons, ← ih k, List.take_append, hl, Nat.succ_mul, Nat.add_sub_cancel, List.take_of_length_le (by rw [hl]; omega)]
theorem flat_drop {α : Type} {enc : α → List Value} {sz : Nat} (hl : ∀ x, (enc x).length = sz) (xs : List α) (k : Nat) : (xs.flatMap enc).drop (k * sz) = (xs.drop k).flatMap enc := by
  induction xs generalizing k with
  | nil => simp
  | cons x xs ih =>
    cases k with
    | zero => simp
    | succ k =>
      rw [List.flatMap_cons, List.drop_succ_cons, ← ih k, List.drop_append, hl, Nat.succ_mul, Nat.add_sub_cancel, List.drop_eq_nil_of_le (by rw [hl]; omega), List.nil_append]
theorem reps_flat {α : Type} {R : α → List Value → Prop} {enc : α → List Value} {sz : Nat} (hl : ∀ x, (enc x).length = sz) (hR : ∀ x cs, R x cs → cs = enc x) : ∀ (xs : List α) (inner : List Value), Reps R sz xs inner → inner = xs.flatMap enc
  | [], inner, h => by
    have := h.1
    simp at this
    rw [this]
    simp
  | x :: xs, inner, h => by
    have h0 := hR x _ (by have := h.2 0 x rfl; rwa [Nat.zero_mul, List.drop_zero] at this)
    have h1 : Reps R sz xs (inner.drop sz) := by
      refine ⟨by rw [List.length_drop, h.1, List.length_cons, Nat.succ_mul, Nat.add_sub_cancel], fun j p hj => ?_⟩
      have := h.2 (j + 1) p (by simpa using hj)
      rw [Nat.succ_mul, Nat.add_comm] at this
      rwa [List.drop_drop]
    rw [List.flatMap_cons, ← h0, ← reps_flat hl hR xs _ h1, List.take_append_drop]
theorem flat_reps {α : Type} {R : α → List Value → Prop} {enc : α → List Value} {sz : Nat} (hl : ∀ x, (enc x).length = sz) (hR : ∀ x, R x (enc x)) : ∀ (xs : List α), Reps R sz xs (xs.flatMap enc)
  | [] => by simpa using Reps.none R sz
  | x :: xs => Reps.front (hR x) (hl x) (flat_reps hl hR xs) (by rw [List.flatMap_cons])
section
variable {α : Type} {d : Kd α} {enc : α → List Value} {w0 w : World} {rs : List Res}
/-- A row, known whole. -/
theorem Mem.row_blk (hF : Flat d enc) (h : Mem w0 w rs) (i : Nat) {e g n c : Nat} {xs : List α} (hi : rs[i]? = some (Mx.row d e (.slice (some ⟨g, 0, none⟩) n c) xs)) :
    ∃ cs : Array Value, cs.size = c * d.sz ∧ cs.toList.take (n * d.sz) = xs.flatMap enc ∧ n = xs.length ∧ n ≤ c ∧ c ≤ maxLen ∧ Mem w0 w (rs.set i (Mx.blk g e cs)) := by
  have hh := h.hold hi
  have hnx := (Kd.R_reads' hh).1
  obtain ⟨hok, inner, hown, hr⟩ := hh
  rcases hown.2 with ⟨hv, _⟩ | ⟨g', cap', cur, hv, hb, hheap, hl, hcm, hcs, htake⟩
  · cases hv
  injection hv with ha _ hc
  injection ha with ha
  injection ha with hg
  subst hg; subst hc
  refine ⟨cur, hcs, ?_, hnx, by omega, hcm, h.imp hi _ (fun f hf => ⟨hheap, hf.1 g (by simp [Value.ownBlock])⟩)⟩
  have e1 := reps_flat (hF.len w) (fun x cs hx => hF.out_ hx) xs inner hr
  rw [← e1, ← htake, hnx]
/-- A block that holds a row's cells is the row. -/
theorem Mem.blk_row (hF : Flat d enc) (h : Mem w0 w rs) (i : Nat) {e g c : Nat} {cs : Array Value} (xs : List α) (hi : rs[i]? = some (Mx.blk g e cs)) (hs : cs.size = c * d.sz) (ht : cs.toList.take (xs.length * d.sz) = xs.flatMap enc) (hn : xs.length ≤ c) (hc : c ≤ maxLen) :
    Mem w0 w (rs.set i (Mx.row d e (.slice (some ⟨g, 0, none⟩) xs.length c) xs)) := by
  refine h.imp hi _ (fun f hf => ⟨fun k hk => ?_, xs.flatMap enc, ⟨flat_len (hF.len w) xs, .inr ⟨g, c, cs, rfl, Nat.zero_le _, hf.1, hn, hc, hs, ?_⟩⟩, flat_reps (hF.len w) (fun x => hF.mk_ _ _ _ x) xs⟩)
  · have : g = k := by simpa [Value.ownBlock] using hk
    subst this
    exact hf.2
  · exact ht
/-- Some of a block's cells are set. -/
theorem Mem.setRange (h : Mem w0 w rs) (i : Nat) {g T : Nat} {cs : Array Value} (hi : rs[i]? = some (Mx.blk g T cs)) (o : Nat) (vs : List Value) (hfit : o + vs.length ≤ cs.size) :
    ∃ cs' : Array Value, cs'.toList = cs.toList.take o ++ vs ++ cs.toList.drop (o + vs.length) ∧ cs'.size = cs.size ∧ Mem w0 (w.setCells g o vs) (rs.set i (Mx.blk g T cs')) := by
  obtain ⟨cur', g1, g2, g3⟩ := setCells_row vs o w cs (h.blk_at i hi) hfit
  obtain ⟨f, h1, h2, h3⟩ := h.take1 hi
  obtain ⟨e1, e2, e3, e4⟩ := setCells_same g vs o w
  exact ⟨cur', g3, g2, h3 _ _ e1 e2 e3 (Nat.le_of_eq e4.symm) (fun k _ hf => setCells_far vs o k (fun e => hf (e ▸ h1.2))) ⟨g1, .inl h1.2⟩⟩
end
/-- 'copy': all is read ahead of what is written; elements of k cells. -/
theorem run_copyK {P : Program} (w : World) (dT sT ty elem : TypeId) (b o dLen dCap : Nat) (a : Addr) (sLen sCap k m : Nat) (cs : List Value)
    (hu : P.underlying dT = some (.slice elem)) (hs : (P.info? elem).map (·.size) = some k) (hm : Nat.min sLen dLen = m) (hn : cs.length = m * k)
    (hsrc : ∀ j v, cs[j]? = some v → w.cell? (a.add j) = some v) (hc : ∀ j, j < cs.length → (w.cell? ⟨b, o + j, none⟩).isSome = true) (hf : ∀ j, j < cs.length → w.frozen? ⟨b, o + j, none⟩ = false) (h1 : ∀ v ∈ cs, v.oneCell' = true) :
    (Builtin.copy_ #[dT, sT] ty #[.slice (some ⟨b, o, none⟩) dLen dCap, .slice (some a) sLen sCap]).run P w = .ok (goInt m) (w.setCells b o cs) := by
  have hl := run_loadCells_list (P := P) w a cs hsrc
  have hst := run_storeCells_cells (P := P) b o cs 0 w (by simpa using hc) (by simpa using hf) h1
  cases hq : P.info? elem with
  | none => simp [hq] at hs
  | some i =>
    have hi : i.size = k := by simpa [hq] using hs
    simp [Builtin.copy_, run_underlying hu, Builtin.lenOf, Builtin.firstCells, sizeOf, typeInfo, hq, hi, hm, ← hn, hl, hst]
end Go.Proofs.Ytggbjokhniigkaa.Mx
