/- Texts laid together: Cx, Bs, Del, Fl. No condition. -/
import Derived.Deep.LoopGhost
import Derived.Lib.SliceRun
import Derived.Laws.IdiomCopy
import Derived.Shelf.Spec.SlicesInsert
import Derived.Test.YtggbjokhniigkaaGreatY4z19
namespace Go.Proofs.YtggbjokhniigkaaGreat.Cx
open Go.Proofs.YtggbjokhniigkaaGreat.Ty Go.Proofs.YtggbjokhniigkaaGreat.Tk
structure Fine (r : Rep) : Prop where
  i0 : 0 ≤ r.f0
  i1 : r.f0 < r.f1
  n5 : r.f1 ≤ 5
  w0 : 0 ≤ r.f2
  w1 : r.f2 ≤ 4611686018427387904
  l5 : r.f5.length ≤ 1200
  p9 : r.f9.Pairwise (fun a b => a < b)
  l9 : r.f9.length ≤ 20
  l10 : r.f10.length ≤ 1200
theorem all_len (id n view : Int) (m : Msg) : ∀ (k : Nat) (i : Int), (allFrom id n view m k i).length ≤ k
  | 0, _ => Nat.le_refl _
  | k + 1, i => by
    simp only [allFrom]
    have := all_len id n view m k (i + 1)
    split
    · split
      · omega
      · rw [List.length_cons]
        omega
    · exact Nat.zero_le _
theorem all_f7 (id n view : Int) (m : Msg) : ∀ (k : Nat) (i : Int), ∀ x ∈ allFrom id n view m k i, x.f7 = m.f7
  | 0, _, _, h => by cases h
  | k + 1, i, x, h => by
    simp only [allFrom] at h
    split at h
    · split at h
      · exact all_f7 id n view m k (i + 1) x h
      · rcases List.mem_cons.1 h with rfl | h
        · rfl
        · exact all_f7 id n view m k (i + 1) x h
    · cases h
theorem upTo_no {r : Rep} {v : Int} (h : ¬ r.f2 < v) : upTo r v = (r, []) := if_neg h
theorem upTo_yes {r : Rep} {v : Int} (h : r.f2 < v) : upTo r v = (change r v, toAll (change r v) ⟨4, 0, 0, 0, 0, 0, 0, []⟩) := if_pos h
theorem upTo_fine {r s : Rep} {v : Int} {o : List Msg} (h : Fine r) (hv : 0 ≤ v) (hv2 : v ≤ 4611686018427387904) (e : upTo r v = (s, o)) : Fine s ∧ s.f5 = r.f5 ∧ o.length ≤ 5 ∧ (∀ x ∈ o, x.f7 = []) := by
  by_cases g : r.f2 < v
  · rw [upTo_yes g] at e
    injection e with e1 e2
    subst e1
    subst e2
    refine ⟨⟨h.i0, h.i1, h.n5, hv, hv2, h.l5, List.Pairwise.nil, Nat.zero_le _, Nat.zero_le _⟩, rfl, ?_, fun x hx => all_f7 _ _ _ _ _ _ x hx⟩
    have h1 := all_len (change r v).f0 (change r v).f1 (change r v).f2 ⟨4, 0, 0, 0, 0, 0, 0, []⟩ (change r v).f1.toNat 0
    have h2 : (change r v).f1.toNat ≤ 5 := by
      show r.f1.toNat ≤ 5
      have := h.n5
      omega
    exact Nat.le_trans h1 h2
  · rw [upTo_no g] at e
    injection e with e1 e2
    subst e1
    subst e2
    exact ⟨h, rfl, Nat.zero_le _, fun _ h => by cases h⟩
/-- The votes. -/
theorem upTo_votes {r s : Rep} {v : Int} {o : List Msg} (h : r.f8.Pairwise (fun a b => a < b) ∧ r.f8.length ≤ 20) (e : upTo r v = (s, o)) : s.f8.Pairwise (fun a b => a < b) ∧ s.f8.length ≤ 20 := by
  by_cases g : r.f2 < v
  · rw [upTo_yes g] at e
    injection e with e1 e2
    subst e1
    exact ⟨List.pairwise_singleton _ _, Nat.le_trans (Nat.le_refl 1) (by decide)⟩
  · rw [upTo_no g] at e
    injection e with e1 e2
    subst e1
    exact h
def bests (r : Rep) (was : Int) (lg : List Entry) : List Entry × Int := if better r was lg then (lg, was) else (r.f10, r.f11)
theorem bests_yes {r : Rep} {was : Int} {lg : List Entry} (h : better r was lg) : bests r was lg = (lg, was) := if_pos h
theorem bests_no {r : Rep} {was : Int} {lg : List Entry} (h : ¬ better r was lg) : bests r was lg = (r.f10, r.f11) := if_neg h
section
variable {r : Rep} {frm was commit : Int} {lg : List Entry} {zs : List Int} {bl : List Entry} {bv bd : Int}
theorem counted_is (h1 : insertId r.f9 frm = zs) (h2 : bests r was lg = (bl, bv)) (h3 : min (max r.f12 commit) (bl.length : Int) = bd) : counted r frm was commit lg = { r with f9 := zs, f10 := bl, f11 := bv, f12 := bd } := by
  subst h1
  subst h3
  unfold bests at h2
  unfold counted
  by_cases g : better r was lg
  · rw [if_pos g] at h2
    injection h2 with e1 e2
    subst e1
    subst e2
    simp only [if_pos g]
  · rw [if_neg g] at h2
    injection h2 with e1 e2
    subst e1
    subst e2
    simp only [if_neg g]
theorem states_in (h : frm ∈ r.f9) : states r frm was commit lg = (r, []) := if_pos h
theorem states_few (h : ¬ frm ∈ r.f9) (h1 : insertId r.f9 frm = zs) (h2 : bests r was lg = (bl, bv)) (h3 : min (max r.f12 commit) (bl.length : Int) = bd) (h4 : ¬ (zs.length : Int) = most r.f1) :
    states r frm was commit lg = ({ r with f9 := zs, f10 := bl, f11 := bv, f12 := bd }, []) := by
  unfold states
  rw [if_neg h, counted_is h1 h2 h3]
  exact if_neg h4
theorem states_most (h : ¬ frm ∈ r.f9) (h1 : insertId r.f9 frm = zs) (h2 : bests r was lg = (bl, bv)) (h3 : min (max r.f12 commit) (bl.length : Int) = bd) (h4 : (zs.length : Int) = most r.f1) :
    states r frm was commit lg = (normal r r.f2 bl bd, toAll (normal r r.f2 bl bd) ⟨6, 0, 0, 0, 0, (normal r r.f2 bl bd).f6, 0, bl⟩) := by
  unfold states
  rw [if_neg h, counted_is h1 h2 h3]
  exact if_pos h4
end
section
variable {r s t : Rep} {m : Msg} {o ms : List Msg} {zs : List Int}
theorem tState_low (h : m.f3 < r.f2) : tState r m = (r, []) := if_pos (.inl h)
theorem tState_not (h : ¬ m.f3 % r.f1 = r.f0) : tState r m = (r, []) := if_pos (.inr h)
theorem tState_idle (h1 : ¬ m.f3 < r.f2) (h2 : m.f3 % r.f1 = r.f0) (e : upTo r m.f3 = (s, o)) (h : ¬ s.f4 = 1) : tState r m = (s, o) := by
  unfold tState
  rw [if_neg (fun h3 => h3.elim h1 (fun h => h h2)), e]
  exact if_neg h
theorem tState_on (h1 : ¬ m.f3 < r.f2) (h2 : m.f3 % r.f1 = r.f0) (e : upTo r m.f3 = (s, o)) (h : s.f4 = 1) (e2 : states s m.f1 m.f6 m.f5 m.f7 = (t, ms)) : tState r m = (t, o ++ ms) := by
  unfold tState
  rw [if_neg (fun h3 => h3.elim h1 (fun h => h h2)), e]
  refine (if_pos h).trans ?_
  rw [e2]
theorem tChange_low (h : m.f3 < r.f2) : tChange r m = (r, []) := if_pos h
theorem tChange_idle (h1 : ¬ m.f3 < r.f2) (e : upTo r m.f3 = (s, o)) (h : ¬ s.f4 = 1) : tChange r m = (s, o) := by
  unfold tChange
  rw [if_neg h1, e]
  exact if_neg h
theorem tChange_in (h1 : ¬ m.f3 < r.f2) (e : upTo r m.f3 = (s, o)) (h : s.f4 = 1) (h2 : m.f1 ∈ s.f8) : tChange r m = (s, o) := by
  unfold tChange
  rw [if_neg h1, e]
  exact (if_pos h).trans (if_pos h2)
theorem tChange_few (h1 : ¬ m.f3 < r.f2) (e : upTo r m.f3 = (s, o)) (h : s.f4 = 1) (h2 : ¬ m.f1 ∈ s.f8) (hz : insertId s.f8 m.f1 = zs) (h4 : ¬ (zs.length : Int) = most s.f1) : tChange r m = ({ s with f8 := zs }, o) := by
  unfold tChange
  rw [if_neg h1, e]
  subst hz
  exact (if_pos h).trans ((if_neg h2).trans (if_neg h4))
theorem tChange_self (h1 : ¬ m.f3 < r.f2) (e : upTo r m.f3 = (s, o)) (h : s.f4 = 1) (h2 : ¬ m.f1 ∈ s.f8) (hz : insertId s.f8 m.f1 = zs) (h4 : (zs.length : Int) = most s.f1) (h5 : s.f2 % s.f1 = s.f0) (e2 : states { s with f8 := zs } s.f0 s.f3 s.f6 s.f5 = (t, ms)) : tChange r m = (t, o ++ ms) := by
  unfold tChange
  rw [if_neg h1, e]
  subst hz
  refine (if_pos h).trans ((if_neg h2).trans ((if_pos h4).trans ((if_pos h5).trans ?_)))
  show ((states { s with f8 := insertId s.f8 m.f1 } s.f0 s.f3 s.f6 s.f5).1, o ++ (states { s with f8 := insertId s.f8 m.f1 } s.f0 s.f3 s.f6 s.f5).2) = _
  rw [e2]
theorem tChange_other (h1 : ¬ m.f3 < r.f2) (e : upTo r m.f3 = (s, o)) (h : s.f4 = 1) (h2 : ¬ m.f1 ∈ s.f8) (hz : insertId s.f8 m.f1 = zs) (h4 : (zs.length : Int) = most s.f1) (h5 : ¬ s.f2 % s.f1 = s.f0) :
    tChange r m = ({ s with f8 := zs }, o ++ [⟨5, s.f0, s.f2 % s.f1, s.f2, 0, s.f6, s.f3, s.f5⟩]) := by
  unfold tChange
  rw [if_neg h1, e]
  subst hz
  exact (if_pos h).trans ((if_neg h2).trans ((if_pos h4).trans (if_neg h5)))
/-- A state of its own. -/
theorem tState_own (h : s.f4 = 1) (h5 : s.f2 % s.f1 = s.f0) (e2 : states s m.f1 m.f6 m.f5 m.f7 = (t, ms)) (h3 : m.f3 = s.f2) : tState s m = (t, ms) := by
  have e : upTo s m.f3 = (s, []) := upTo_no (by omega)
  rw [tState_on (by omega) (by rw [h3]; exact h5) e h e2]
  rfl
end
/-! ### sizes -/
structure Lim (s : Rep) (ms : List Msg) : Prop where
  l5 : s.f5.length ≤ 1200
  l7 : s.f7.length ≤ 20
  l8 : s.f8.length ≤ 30
  l9 : s.f9.length ≤ 30
  l10 : s.f10.length ≤ 1200
  lm : ms.length ≤ 20
  lx : ∀ x ∈ ms, x.f7.length ≤ 1200
theorem upTo_lim {r s : Rep} {v : Int} {o : List Msg} (h : Fine r) (h7 : r.f7.length ≤ 20) (h8 : r.f8.length ≤ 20) (hv : 0 ≤ v) (hv2 : v ≤ 4611686018427387904) (e : upTo r v = (s, o)) : Lim s o ∧ o.length ≤ 5 ∧ s.f8.length ≤ 20 := by
  have q := upTo_fine h hv hv2 e
  have q7 : s.f7 = r.f7 ∧ s.f8.length ≤ 20 := by
    by_cases g : r.f2 < v
    · rw [upTo_yes g] at e
      injection e with e1 e2
      subst e1
      exact ⟨rfl, Nat.le_trans (Nat.le_refl 1) (by decide)⟩
    · rw [upTo_no g] at e
      injection e with e1 e2
      subst e1
      exact ⟨rfl, h8⟩
  refine ⟨⟨q.1.l5, by rw [q7.1]; exact h7, Nat.le_trans q7.2 (by decide), Nat.le_trans q.1.l9 (by decide), q.1.l10, Nat.le_trans q.2.2.1 (by decide), fun x hx => ?_⟩, q.2.2.1, q7.2⟩
  rw [q.2.2.2 x hx]
  exact Nat.zero_le _
theorem normal_lim {r : Rep} (v : Int) (l : List Entry) (c : Int) (hn : r.f1 ≤ 5) (hl : l.length ≤ 1200) : (normal r v l c).f5.length ≤ 1200 ∧ (normal r v l c).f7.length ≤ 20 ∧ (normal r v l c).f8.length ≤ 30 ∧ (normal r v l c).f9.length ≤ 30 ∧ (normal r v l c).f10.length ≤ 1200 := by
  refine ⟨hl, ?_, Nat.zero_le _, Nat.zero_le _, Nat.zero_le _⟩
  show ((List.replicate r.f1.toNat (0 : Int)).set _ _).length ≤ _
  rw [List.length_set, List.length_replicate]
  omega
theorem states_lim {r s : Rep} {ms : List Msg} {frm was commit : Int} {lg : List Entry} (h : Fine r) (h7 : r.f7.length ≤ 20) (h8 : r.f8.length ≤ 30) (hl : lg.length ≤ 1200) (e : states r frm was commit lg = (s, ms)) : Lim s ms ∧ ms.length ≤ 5 := by
  by_cases g : frm ∈ r.f9
  · rw [states_in g] at e
    injection e with e1 e2
    subst e1
    subst e2
    exact ⟨⟨h.l5, h7, h8, Nat.le_trans h.l9 (by decide), h.l10, Nat.zero_le _, fun x hx => by cases hx⟩, Nat.zero_le _⟩
  · obtain ⟨⟨bl, bv⟩, hb⟩ : ∃ b, bests r was lg = b := ⟨_, rfl⟩
    have hbl : bl.length ≤ 1200 := by
      by_cases g2 : better r was lg
      · rw [bests_yes g2] at hb
        injection hb with e1 e2
        rw [← e1]
        exact hl
      · rw [bests_no g2] at hb
        injection hb with e1 e2
        rw [← e1]
        exact h.l10
    by_cases g3 : ((insertId r.f9 frm).length : Int) = most r.f1
    · rw [states_most g rfl hb rfl g3] at e
      injection e with e1 e2
      subst e1
      subst e2
      have q := normal_lim (r := r) r.f2 bl (min (max r.f12 commit) (bl.length : Int)) h.n5 hbl
      have q2 : (toAll (normal r r.f2 bl (min (max r.f12 commit) (bl.length : Int))) ⟨6, 0, 0, 0, 0, (normal r r.f2 bl (min (max r.f12 commit) (bl.length : Int))).f6, 0, bl⟩).length ≤ 5 := by
        refine Nat.le_trans (all_len _ _ _ _ _ _) ?_
        show r.f1.toNat ≤ 5
        have := h.n5
        omega
      refine ⟨⟨q.1, q.2.1, q.2.2.1, q.2.2.2.1, q.2.2.2.2, Nat.le_trans q2 (by decide), fun x hx => ?_⟩, q2⟩
      rw [all_f7 _ _ _ _ _ _ x hx]
      exact hbl
    · rw [states_few g rfl hb rfl g3] at e
      injection e with e1 e2
      subst e1
      subst e2
      refine ⟨⟨h.l5, h7, h8, ?_, hbl, Nat.zero_le _, fun x hx => by cases hx⟩, Nat.zero_le _⟩
      show (insertId r.f9 frm).length ≤ 30
      rw [Tq.insertId_len]
      have := h.l9
      omega
theorem Lim.join {s t : Rep} {o ms : List Msg} (h1 : Lim s o) (h2 : Lim t ms) (l1 : o.length ≤ 5) (l2 : ms.length ≤ 5) : Lim t (o ++ ms) := by
  refine ⟨h2.l5, h2.l7, h2.l8, h2.l9, h2.l10, by rw [List.length_append]; omega, fun x hx => ?_⟩
  exact (List.mem_append.1 hx).elim (h1.lx x) (h2.lx x)
theorem tChange_lim {r : Rep} {m : Msg} (h : Fine r) (h7 : r.f7.length ≤ 20) (h8 : r.f8.length ≤ 20) (hv : 0 ≤ m.f3) (hv2 : m.f3 ≤ 4611686018427387904) : Lim (tChange r m).1 (tChange r m).2 := by
  have same : Lim r [] := ⟨h.l5, h7, Nat.le_trans h8 (by decide), Nat.le_trans h.l9 (by decide), h.l10, Nat.zero_le _, fun x hx => by cases hx⟩
  by_cases g1 : m.f3 < r.f2
  · rw [tChange_low g1]
    exact same
  obtain ⟨⟨s, o⟩, e⟩ : ∃ b, upTo r m.f3 = b := ⟨_, rfl⟩
  have q := upTo_lim h h7 h8 hv hv2 e
  have qf := (upTo_fine h hv hv2 e).1
  by_cases g3 : s.f4 = 1
  case neg =>
    rw [tChange_idle g1 e g3]
    exact q.1
  by_cases g4 : m.f1 ∈ s.f8
  · rw [tChange_in g1 e g3 g4]
    exact q.1
  obtain ⟨zs, hz⟩ : ∃ zs, insertId s.f8 m.f1 = zs := ⟨_, rfl⟩
  have hzl : zs.length ≤ 30 := by
    rw [← hz, Tq.insertId_len]
    have := q.2.2
    omega
  by_cases g5 : (zs.length : Int) = most s.f1
  case neg =>
    rw [tChange_few g1 e g3 g4 hz g5]
    exact ⟨q.1.l5, q.1.l7, hzl, q.1.l9, q.1.l10, q.1.lm, q.1.lx⟩
  by_cases g6 : s.f2 % s.f1 = s.f0
  · obtain ⟨⟨t, ms⟩, e2⟩ : ∃ b, states { s with f8 := zs } s.f0 s.f3 s.f6 s.f5 = b := ⟨_, rfl⟩
    have q2 := states_lim (r := { s with f8 := zs }) ⟨qf.i0, qf.i1, qf.n5, qf.w0, qf.w1, qf.l5, qf.p9, qf.l9, qf.l10⟩ q.1.l7 hzl qf.l5 e2
    rw [tChange_self g1 e g3 g4 hz g5 g6 e2]
    exact q.1.join q2.1 q.2.1 q2.2
  · rw [tChange_other g1 e g3 g4 hz g5 g6]
    refine ⟨q.1.l5, q.1.l7, hzl, q.1.l9, q.1.l10, ?_, fun x hx => ?_⟩
    · rw [List.length_append, List.length_singleton]
      have := q.2.1
      omega
    · rcases List.mem_append.1 hx with hx | hx
      · exact q.1.lx x hx
      · rw [List.mem_singleton.1 hx]
        exact qf.l5
end Go.Proofs.YtggbjokhniigkaaGreat.Cx
namespace Go.Proofs.YtggbjokhniigkaaGreat.Bs
open Go.Proofs.YtggbjokhniigkaaGreat.Ty Go.RowKit Go.Proofs.YtggbjokhniigkaaGreatW.PrintWords Go.Proofs.YtggbjokhniigkaaGreatW.PrintLast Go.Proofs.YtggbjokhniigkaaGreatW.PrintMore Go.Proofs.YtggbjokhniigkaaGreat.Mx Go.Proofs.YtggbjokhniigkaaGreat.Kx Go.Proofs.YtggbjokhniigkaaGreat.Wa Go.Proofs.YtggbjokhniigkaaGreat.Wd Go.Proofs.YtggbjokhniigkaaGreat.Sm
set_option linter.unusedVariables false
set_option linter.unusedSimpArgs false
set_option maxRecDepth 100000 in
set_option maxHeartbeats 4000000 in
theorem search_calls (A : Option Addr) (c : Nat) (l : List Int) (k : Int) (w : World) (hl : Kd.C (Kd.int .i64) w A l.length l) (hn : l.length ≤ 1000000) (p : Nat) (hp : p ≤ l.length)
    (h1 : ∀ t : Nat, t < p → rd l (t : Int) < k) (h2 : ∀ t : Nat, p ≤ t → t < l.length → k ≤ rd l (t : Int)) (b : Bool) (hb : b = true ↔ p < l.length ∧ rd l (p : Int) = k) :
    Calls Tryz.prog 138 #[.slice A l.length c, .int .i64 k] w fun e w' => e = .returned (.tuple #[.int .i64 (p : Int), .bool b]) ∧ Drawn0 w w' := by
  have HL := Aside0.mk hl
  have HN := Aside0.mk hn
  have H1 := Aside0.mk h1
  have H2 := Aside0.mk h2
  have HB := Aside0.mk hb
  clear hl h1 h2 hb
  go_enter Tryz.func138, Tryz.ntmps138
  go_wp2
  go_loopg [7, 8] l.length (fun kx s7 s8 wr => ∃ (lo hi : Nat), s7 = .int .i64 lo ∧ s8 = .int .i64 hi ∧ Aside0 (lo ≤ p ∧ p ≤ hi ∧ hi ≤ l.length ∧ hi - lo ≤ kx) ∧ Drawn0 w wr)
  case atStart => exact ⟨0, l.length, rfl, rfl, ⟨Nat.zero_le _, hp, Nat.le_refl _, by omega⟩, by repeat (first | exact Drawn0.refl _ | apply Drawn0.step)⟩
  case round =>
    obtain ⟨lo, hi, rfl, rfl, HK, ⟨m1, rfl⟩⟩ := hrel
    by_cases hlt : lo < hi
    · obtain ⟨q, hq⟩ : ∃ q : Nat, (lo + hi) / 2 = q := ⟨_, rfl⟩
      have e3 : decide ((lo : Int) < (hi : Int)) = true := decide_eq_true (by omega)
      have e3n : decide (lo < hi) = true := decide_eq_true hlt
      have q1 : q < l.length := by have := HK.out; omega
      have q2 : ((q : Int) < (l.length : Int)) = True := eq_true (by omega)
      obtain ⟨ad, e, hx⟩ := at_IntC HL.out (q : Int) (by omega) (by omega)
      cases e
      simp only [Int.toNat_natCast] at hx
      have HQ := Aside0.mk hq
      have em : ((lo : Int) + (hi : Int)) / 2 = (q : Int) := by omega
      have HLT := Aside0.mk hlt
      clear hq hlt
      cases hc : decide (rd l (q : Int) < k)
      · have hge : ¬ rd l (q : Int) < k := of_decide_eq_false hc
        have H3 := Aside0.mk (show p ≤ q from Nat.le_of_not_lt (fun g => hge (H1.out _ g)))
        clear hge
        go_wp2
        go_roundg (q - lo)
        case measure => have := HK.out; have := HQ.out; have := HLT.out; omega
        case rel => exact ⟨lo, q, rfl, rfl, ⟨HK.out.1, H3.out, by omega, Nat.le_refl _⟩, by repeat (first | exact Drawn0.refl _ | apply Drawn0.step)⟩
      · have hlt' : rd l (q : Int) < k := of_decide_eq_true hc
        have H3 := Aside0.mk (show q < p from Nat.lt_of_not_le (fun g => by have := H2.out _ g q1; omega))
        clear hlt'
        go_wp2
        go_roundg (hi - (q + 1))
        case measure => have := HK.out; have := HQ.out; have := HLT.out; omega
        case rel => exact ⟨q + 1, hi, by go_num, rfl, ⟨H3.out, HK.out.2.1, HK.out.2.2.1, Nat.le_refl _⟩, by repeat (first | exact Drawn0.refl _ | apply Drawn0.step)⟩
    · have ep : p = lo := by have := HK.out; omega
      subst ep
      have e3 : decide ((p : Int) < (hi : Int)) = false := decide_eq_false (by have := HK.out; omega)
      have e3n : decide (p < hi) = false := decide_eq_false (by have := HK.out; omega)
      clear hlt
      by_cases hpn : p < l.length
      · have q2 : ((p : Int) < (l.length : Int)) = True := eq_true (by omega)
        have e4 : decide ((p : Int) < (l.length : Int)) = true := decide_eq_true (by omega)
        have e4n : decide (p < l.length) = true := decide_eq_true hpn
        obtain ⟨ad, e, hx⟩ := at_IntC HL.out (p : Int) (by omega) (by omega)
        cases e
        simp only [Int.toNat_natCast] at hx
        cases hc : (rd l (p : Int) == k)
        · have hb : b = false := by
            cases b with
            | false => rfl
            | true => exact absurd ((HB.out.1 rfl).2) (by simpa using hc)
          subst hb
          clear HB
          go_wp2
          refine bodyPost_ret (results_tmp2 rfl _ _ _) rfl ?_
          exact ⟨by first | rfl | simp, by repeat (first | exact Drawn0.refl _ | apply Drawn0.step)⟩
        · have hb : b = true := HB.out.2 ⟨hpn, by simpa using hc⟩
          subst hb
          clear HB
          go_wp2
          refine bodyPost_ret (results_tmp2 rfl _ _ _) rfl ?_
          exact ⟨by first | rfl | simp, by repeat (first | exact Drawn0.refl _ | apply Drawn0.step)⟩
      · have e4 : decide ((p : Int) < (l.length : Int)) = false := decide_eq_false (by omega)
        have e4n : decide (p < l.length) = false := decide_eq_false hpn
        have hb : b = false := by
          cases b with
          | false => rfl
          | true => exact absurd ((HB.out.1 rfl).1) hpn
        subst hb
        clear HB
        go_wp2
        refine bodyPost_ret (results_tmp2 rfl _ _ _) rfl ?_
        exact ⟨by first | rfl | simp, by repeat (first | exact Drawn0.refl _ | apply Drawn0.step)⟩
end Go.Proofs.YtggbjokhniigkaaGreat.Bs
namespace Go.Proofs.YtggbjokhniigkaaGreat.Mx
end Go.Proofs.YtggbjokhniigkaaGreat.Mx
namespace Go.Proofs.YtggbjokhniigkaaGreat.Mx
open Go.RowKit Go.Proofs.YtggbjokhniigkaaGreatW.PrintWords Go.Proofs.YtggbjokhniigkaaGreatW.PrintLast Go.Proofs.YtggbjokhniigkaaGreatW.PrintMore
set_option linter.unusedVariables false
/-- A kind whose elements are their cells alone. -/
structure Flat {α : Type} (d : Kd α) (enc : α → List Value) : Prop where
  out_ : ∀ {w : World} {base : Nat} {ok : Nat → Prop} {x : α} {cs : List Value}, d.M w base ok x cs → cs = enc x
  mk_ : ∀ (w : World) (base : Nat) (ok : Nat → Prop) (x : α), d.M w base ok x (enc x)
  rd_ : ∀ {w : World} {x : α} {cs : List Value}, d.K w x cs → cs = enc x
theorem Flat.len {α : Type} {d : Kd α} {enc : α → List Value} (h : Flat d enc) (w : World) (x : α) : (enc x).length = d.sz := d.K_len (d.K_of_M (h.mk_ w 0 (fun _ => True) x))
theorem Flat.one {α : Type} {d : Kd α} {enc : α → List Value} (h : Flat d enc) (w : World) (x : α) : ∀ u ∈ enc x, u.oneCell' = true := d.K_one (d.K_of_M (h.mk_ w 0 (fun _ => True) x))
theorem flat_len {α : Type} {enc : α → List Value} {sz : Nat} (hl : ∀ x, (enc x).length = sz) : ∀ (xs : List α), (xs.flatMap enc).length = xs.length * sz
  | [] => by simp
  | x :: xs => by rw [List.flatMap_cons, List.length_append, flat_len hl xs, hl, List.length_cons, Nat.succ_mul, Nat.add_comm]
theorem flat_take {α : Type} {enc : α → List Value} {sz : Nat} (hl : ∀ x, (enc x).length = sz) (xs : List α) (k : Nat) : (xs.flatMap enc).take (k * sz) = (xs.take k).flatMap enc := by
  induction xs generalizing k with
  | nil => simp
  | cons x xs ih =>
    cases k with
    | zero => simp
    | succ k =>
      rw [List.flatMap_cons, List.take_succ_cons, List.flatMap_cons, ← ih k, List.take_append, hl, Nat.succ_mul, Nat.add_sub_cancel, List.take_of_length_le (by rw [hl]; omega)]
theorem flat_drop {α : Type} {enc : α → List Value} {sz : Nat} (hl : ∀ x, (enc x).length = sz) (xs : List α) (k : Nat) : (xs.flatMap enc).drop (k * sz) = (xs.drop k).flatMap enc := by
  induction xs generalizing k with
  | nil => simp
  | cons x xs ih =>
    cases k with
    | zero => simp
    | succ k =>
      rw [List.flatMap_cons, List.drop_succ_cons, ← ih k, List.drop_append, hl, Nat.succ_mul, Nat.add_sub_cancel, List.drop_eq_nil_of_le (by rw [hl]; omega), List.nil_append]
theorem reps_flat {α : Type} {R : α → List Value → Prop} {enc : α → List Value} {sz : Nat} (hl : ∀ x, (enc x).length = sz) (hR : ∀ x cs, R x cs → cs = enc x) : ∀ (xs : List α) (inner : List Value), Reps R sz xs inner → inner = xs.flatMap enc
  | [], inner, h => by
    have := h.1
    simp at this
    rw [this]
    simp
  | x :: xs, inner, h => by
    have h0 := hR x _ (by have := h.2 0 x rfl; rwa [Nat.zero_mul, List.drop_zero] at this)
    have h1 : Reps R sz xs (inner.drop sz) := by
      refine ⟨by rw [List.length_drop, h.1, List.length_cons, Nat.succ_mul, Nat.add_sub_cancel], fun j p hj => ?_⟩
      have := h.2 (j + 1) p (by simpa using hj)
      rw [Nat.succ_mul, Nat.add_comm] at this
      rwa [List.drop_drop]
    rw [List.flatMap_cons, ← h0, ← reps_flat hl hR xs _ h1, List.take_append_drop]
theorem flat_reps {α : Type} {R : α → List Value → Prop} {enc : α → List Value} {sz : Nat} (hl : ∀ x, (enc x).length = sz) (hR : ∀ x, R x (enc x)) : ∀ (xs : List α), Reps R sz xs (xs.flatMap enc)
  | [] => by simpa using Reps.none R sz
  | x :: xs => Reps.front (hR x) (hl x) (flat_reps hl hR xs) (by rw [List.flatMap_cons])
section
variable {α : Type} {d : Kd α} {enc : α → List Value} {w0 w : World} {rs : List Res}
/-- A row, known whole. -/
theorem Mem.row_blk (hF : Flat d enc) (h : Mem w0 w rs) (i : Nat) {e g n c : Nat} {xs : List α} (hi : rs[i]? = some (Mx.row d e (.slice (some ⟨g, 0, none⟩) n c) xs)) :
    ∃ cs : Array Value, cs.size = c * d.sz ∧ cs.toList.take (n * d.sz) = xs.flatMap enc ∧ n = xs.length ∧ n ≤ c ∧ c ≤ maxLen ∧ Mem w0 w (rs.set i (Mx.blk g e cs)) := by
  have hh := h.hold hi
  have hnx := (Kd.R_reads' hh).1
  obtain ⟨hok, inner, hown, hr⟩ := hh
  rcases hown.2 with ⟨hv, _⟩ | ⟨g', cap', cur, hv, hb, hheap, hl, hcm, hcs, htake⟩
  · cases hv
  injection hv with ha _ hc
  injection ha with ha
  injection ha with hg
  subst hg; subst hc
  refine ⟨cur, hcs, ?_, hnx, by omega, hcm, h.imp hi _ (fun f hf => ⟨hheap, hf.1 g (by simp [Value.ownBlock])⟩)⟩
  have e1 := reps_flat (hF.len w) (fun x cs hx => hF.out_ hx) xs inner hr
  rw [← e1, ← htake, hnx]
/-- A block that holds a row's cells is the row. -/
theorem Mem.blk_row (hF : Flat d enc) (h : Mem w0 w rs) (i : Nat) {e g c : Nat} {cs : Array Value} (xs : List α) (hi : rs[i]? = some (Mx.blk g e cs)) (hs : cs.size = c * d.sz) (ht : cs.toList.take (xs.length * d.sz) = xs.flatMap enc) (hn : xs.length ≤ c) (hc : c ≤ maxLen) :
    Mem w0 w (rs.set i (Mx.row d e (.slice (some ⟨g, 0, none⟩) xs.length c) xs)) := by
  refine h.imp hi _ (fun f hf => ⟨fun k hk => ?_, xs.flatMap enc, ⟨flat_len (hF.len w) xs, .inr ⟨g, c, cs, rfl, Nat.zero_le _, hf.1, hn, hc, hs, ?_⟩⟩, flat_reps (hF.len w) (fun x => hF.mk_ _ _ _ x) xs⟩)
  · have : g = k := by simpa [Value.ownBlock] using hk
    subst this
    exact hf.2
  · exact ht
/-- Some of a block's cells are set. -/
theorem Mem.setRange (h : Mem w0 w rs) (i : Nat) {g T : Nat} {cs : Array Value} (hi : rs[i]? = some (Mx.blk g T cs)) (o : Nat) (vs : List Value) (hfit : o + vs.length ≤ cs.size) :
    ∃ cs' : Array Value, cs'.toList = cs.toList.take o ++ vs ++ cs.toList.drop (o + vs.length) ∧ cs'.size = cs.size ∧ Mem w0 (w.setCells g o vs) (rs.set i (Mx.blk g T cs')) := by
  obtain ⟨cur', g1, g2, g3⟩ := setCells_row vs o w cs (h.blk_at i hi) hfit
  obtain ⟨f, h1, h2, h3⟩ := h.take1 hi
  obtain ⟨e1, e2, e3, e4⟩ := setCells_same g vs o w
  exact ⟨cur', g3, g2, h3 _ _ e1 e2 e3 (Nat.le_of_eq e4.symm) (fun k _ hf => setCells_far vs o k (fun e => hf (e ▸ h1.2))) ⟨g1, .inl h1.2⟩⟩
end
/-- 'copy': all is read ahead of what is written; elements of k cells. -/
theorem run_copyK {P : Program} (w : World) (dT sT ty elem : TypeId) (b o dLen dCap : Nat) (a : Addr) (sLen sCap k m : Nat) (cs : List Value)
    (hu : P.underlying dT = some (.slice elem)) (hs : (P.info? elem).map (·.size) = some k) (hm : Nat.min sLen dLen = m) (hn : cs.length = m * k)
    (hsrc : ∀ j v, cs[j]? = some v → w.cell? (a.add j) = some v) (hc : ∀ j, j < cs.length → (w.cell? ⟨b, o + j, none⟩).isSome = true) (hf : ∀ j, j < cs.length → w.frozen? ⟨b, o + j, none⟩ = false) (h1 : ∀ v ∈ cs, v.oneCell' = true) :
    (Builtin.copy_ #[dT, sT] ty #[.slice (some ⟨b, o, none⟩) dLen dCap, .slice (some a) sLen sCap]).run P w = .ok (goInt m) (w.setCells b o cs) := by
  have hl := run_loadCells_list (P := P) w a cs hsrc
  have hst := run_storeCells_cells (P := P) b o cs 0 w (by simpa using hc) (by simpa using hf) h1
  cases hq : P.info? elem with
  | none => simp [hq] at hs
  | some i =>
    have hi : i.size = k := by simpa [hq] using hs
    simp [Builtin.copy_, run_underlying hu, Builtin.lenOf, Builtin.firstCells, sizeOf, typeInfo, hq, hi, hm, ← hn, hl, hst]
end Go.Proofs.YtggbjokhniigkaaGreat.Mx
