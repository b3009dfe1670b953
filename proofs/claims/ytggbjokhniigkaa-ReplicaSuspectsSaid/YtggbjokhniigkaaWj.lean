/- What the printed contracts say, in the replica's own words; New; the document's example. -/
import Derived.Test.YtggbjokhniigkaaWf
import Derived.Test.YtggbjokhniigkaaWh0
import Derived.Test.YtggbjokhniigkaaPr2
namespace Go.Proofs.Ytggbjokhniigkaa.Wj
open Go.Proofs.Ytggbjokhniigkaa.Ty Go.RowKit Go.Proofs.YtggbjokhniigkaaW.PrintWords Go.Proofs.YtggbjokhniigkaaW.PrintLast Go.Proofs.YtggbjokhniigkaaW.PrintMore Go.Proofs.Ytggbjokhniigkaa.Mx Go.Proofs.Ytggbjokhniigkaa.Kx Go.Proofs.Ytggbjokhniigkaa.Wa Go.Proofs.Ytggbjokhniigkaa.Wb Go.Proofs.Ytggbjokhniigkaa.Wc Go.Proofs.Ytggbjokhniigkaa.Wd Go.Proofs.Ytggbjokhniigkaa.We Go.Proofs.Ytggbjokhniigkaa.Wf Go.Proofs.Ytggbjokhniigkaa.PReplicaProposes
set_option linter.unusedVariables false
set_option linter.unusedSimpArgs false
abbrev SE := S102
def toS (e : Entry) : SE := ⟨e.f0, e.f1⟩
theorem C_toS {w : World} {A : Option Addr} {n : Nat} {l : List Entry} (h : Kd.C kE w A n l) : Kd.C k102 w A n (l.map toS) := by
  obtain ⟨h1, h2, h3⟩ := h
  refine ⟨by rw [List.length_map]; exact h1, by first | exact h2 | (rw [List.length_map]; exact h2), fun hp => ?_⟩
  obtain ⟨ad, e, hc⟩ := h3 hp
  refine ⟨ad, e, fun j p hj => ?_⟩
  rw [List.getElem?_map] at hj
  cases hl : l[j]? with
  | none => rw [hl] at hj; cases hj
  | some x =>
    rw [hl] at hj
    obtain rfl : toS x = p := by simpa using hj
    obtain ⟨c, g1, g2, g3⟩ := hc j x hl
    refine ⟨c, g1, ?_, g3⟩
    obtain rfl := kE_open g2
    exact k102_mk w (toS x)
theorem C_zero {α : Type} {w : World} {A : Option Addr} (d : Kd α) : Kd.C d w A 0 [] := ⟨rfl, by decide, fun h => absurd h (by decide)⟩
theorem R_form {α : Type} {d : Kd α} {e : Nat} {w w' : World} {v : Value} {xs : List α} {ok : Nat → Prop} (hb : Below w.heap.size w w') (h : d.R e w' w.heap.size ok v xs) : ∃ A c, v = .slice A xs.length c ∧ xs.length ≤ c ∧ d.C w' A xs.length xs :=
  ((Mem.nil w).fresh hb h).row_at 0 rfl
theorem wrap64_id {x : Int} (h : -9000000000000000000 ≤ x) (h2 : x ≤ 9000000000000000000) : wrap64 x = x := by
  unfold wrap64
  go_num
theorem wrap1 (j : Nat) (h : j ≤ 100000000) : wrap64 ((j : Int) + 1) = ((j + 1 : Nat) : Int) := by
  rw [wrap64_id (by omega) (by omega)]
  push_cast
  rfl
theorem ints_same (l : List Int) : ∀ (n j : Nat), n = l.length - j → j ≤ l.length → l.length ≤ 1000000 → falseworkref11_ints.l0 (n + 1) l l j = some true
  | 0, j, h, hj, hl => by
    unfold falseworkref11_ints.l0
    rw [if_neg (by omega)]
  | n + 1, j, h, hj, hl => by
    unfold falseworkref11_ints.l0
    have e : wrap64 ((j : Int) + 1) = ((j + 1 : Nat) : Int) := wrap1 j (by omega)
    rw [if_pos (by omega), if_pos (by omega), if_pos (by omega), if_pos rfl, e]
    exact ints_same l n (j + 1) (by omega) (by omega) hl
theorem ints_f (l : List Int) (k : Nat) (hk : l.length < k) (hl : l.length ≤ 1000000) : falseworkref11_ints.f k l l = some true := by
  have hm : ∀ d, falseworkref11_ints.f (l.length + 1 + d) l l = some true := by
    intro d
    induction d with
    | zero =>
      have q := ints_same l l.length 0 (by omega) (by omega) hl
      unfold falseworkref11_ints.f
      rw [if_pos rfl]
      exact q
    | succ d ih => exact falseworkref11_ints.mono l l (l.length + 1 + d) true ih
  obtain ⟨d, rfl⟩ : ∃ d, k = l.length + 1 + d := ⟨k - (l.length + 1), by omega⟩
  exact hm d
theorem Logs_same (l : List SE) : ∀ (n j : Nat), n = l.length - j → j ≤ l.length → l.length ≤ 1000000 → falseworkref11_Logs.l0 (n + 1) l l j = some true
  | 0, j, h, hj, hl => by
    unfold falseworkref11_Logs.l0
    rw [if_neg (by omega)]
  | n + 1, j, h, hj, hl => by
    unfold falseworkref11_Logs.l0
    have e : wrap64 ((j : Int) + 1) = ((j + 1 : Nat) : Int) := wrap1 j (by omega)
    rw [if_pos (by omega), if_pos (by omega), if_pos (by omega), if_neg (by simp), e]
    exact Logs_same l n (j + 1) (by omega) (by omega) hl
theorem Logs_f (l : List SE) (k : Nat) (hk : l.length < k) (hl : l.length ≤ 1000000) : falseworkref11_Logs.f k l l = some true := by
  have hm : ∀ d, falseworkref11_Logs.f (l.length + 1 + d) l l = some true := by
    intro d
    induction d with
    | zero =>
      have q := Logs_same l l.length 0 (by omega) (by omega) hl
      unfold falseworkref11_Logs.f
      rw [if_pos rfl]
      exact q
    | succ d ih => exact falseworkref11_Logs.mono l l (l.length + 1 + d) true ih
  obtain ⟨d, rfl⟩ : ∃ d, k = l.length + 1 + d := ⟨k - (l.length + 1), by omega⟩
  exact hm d
theorem Same_f (a0 a1 a2 a3 a4 : Int) (l5 : List SE) (a6 : Int) (l7 l8 l9 : List Int) (l10 : List SE) (a11 a12 : Int) (k : Nat) (h5 : l5.length < k) (h7 : l7.length < k) (h8 : l8.length < k) (h9 : l9.length < k) (h10 : l10.length < k) (hk : k ≤ 1000000) :
    falseworkref11_Same.f k a0 a1 a2 a3 a4 l5 a6 l7 l8 l9 l10 a11 a12 a0 a1 a2 a3 a4 l5 a6 l7 l8 l9 l10 a11 a12 = some true := by
  unfold falseworkref11_Same.f
  rw [Logs_f l5 k h5 (by omega), Logs_f l10 k h10 (by omega), ints_f l7 k h7 (by omega), ints_f l8 k h8 (by omega), ints_f l9 k h9 (by omega)]
  simp
/-- Two replicas alike: found the same. -/
theorem Same_calls (r : Rep) (A5 A7 A8 A9 A10 B5 B7 B8 B9 B10 : Option Addr) (c5 c7 c8 c9 c10 d5 d7 d8 d9 d10 : Nat) (w : World) (h : RdRep w r A5 A7 A8 A9 A10) (g : RdRep w r B5 B7 B8 B9 B10)
    (hc5 : r.f5.length ≤ c5) (hc7 : r.f7.length ≤ c7) (hc8 : r.f8.length ≤ c8) (hc9 : r.f9.length ≤ c9) (hc10 : r.f10.length ≤ c10) (hd5 : r.f5.length ≤ d5) (hd7 : r.f7.length ≤ d7) (hd8 : r.f8.length ≤ d8) (hd9 : r.f9.length ≤ d9) (hd10 : r.f10.length ≤ d10)
    (hn : r.f5.length < 1000000 ∧ r.f7.length < 1000000 ∧ r.f8.length < 1000000 ∧ r.f9.length < 1000000 ∧ r.f10.length < 1000000) :
    Calls Try.prog 27 #[.agg (rc r (.slice A5 r.f5.length c5) (.slice A7 r.f7.length c7) (.slice A8 r.f8.length c8) (.slice A9 r.f9.length c9) (.slice A10 r.f10.length c10)), .agg (rc r (.slice B5 r.f5.length d5) (.slice B7 r.f7.length d7) (.slice B8 r.f8.length d8) (.slice B9 r.f9.length d9) (.slice B10 r.f10.length d10))] w fun e w' => e = .returned (.bool true) ∧ Below w.heap.size w w' := by
  have m5 : (r.f5.map toS).length = r.f5.length := List.length_map ..
  have m10 : (r.f10.map toS).length = r.f10.length := List.length_map ..
  have q := falseworkref11_Same.calls (k := 1000000) (r := true) (w := w) (hr0_5 := m5.symm ▸ C_toS h.h5) (hc0_5 := m5.symm ▸ hc5) (hr0_7 := h.h7) (hc0_7 := hc7) (hr0_8 := h.h8) (hc0_8 := hc8) (hr0_9 := h.h9) (hc0_9 := hc9) (hr0_10 := m10.symm ▸ C_toS h.h10) (hc0_10 := m10.symm ▸ hc10)
    (hr1_5 := m5.symm ▸ C_toS g.h5) (hc1_5 := m5.symm ▸ hd5) (hr1_7 := g.h7) (hc1_7 := hd7) (hr1_8 := g.h8) (hc1_8 := hd8) (hr1_9 := g.h9) (hc1_9 := hd9) (hr1_10 := m10.symm ▸ C_toS g.h10) (hc1_10 := m10.symm ▸ hd10)
    (h := Same_f r.f0 r.f1 r.f2 r.f3 r.f4 (r.f5.map toS) r.f6 r.f7 r.f8 r.f9 (r.f10.map toS) r.f11 r.f12 1000000 (by omega) (by omega) (by omega) (by omega) (by omega) (by omega))
  rw [m5, m10] at q
  exact q
end Go.Proofs.Ytggbjokhniigkaa.Wj
