/- Pages in plain words: which are right; what the printed functions that tell it compute. No condition. -/
import Derived.Test.YtookpmdgoednfaaPgA0
namespace Go.Proofs.Ytookpmdgoednfaa.Py
open Go.RowKit Go.Proofs.YtookpmdgoednfaaW.PrintWords Go.Proofs.YtookpmdgoednfaaW.PrintLast Go.Proofs.YtookpmdgoednfaaW.PrintMore Go.Proofs.Ytookpmdgoednfaa.PPagePuts
set_option linter.unusedVariables false
abbrev SP := S41
def kof (x : SP) : List UInt8 := x.f0.toList
/-- Keys rise, from one on. -/
def asc : Option (List UInt8) → List SP → Bool
  | _, [] => true
  | o, x :: l => (match o with | none => true | some k => Op.bytesLess k (kof x)) && asc (some (kof x)) l
def fits (p : List SP) : Bool := decide (1 ≤ p.length) && decide (p.length ≤ 8)
def sizes (ps : List (List SP)) : Bool := ps.all fits
def R (o : Option (List UInt8)) (ps : List (List SP)) : Bool := sizes ps && asc o ps.flatten
def right (ps : List (List SP)) : Bool := R none ps
theorem wrap_one {j n : Nat} (h : j < n) (hn : n ≤ 9223372036854775807) : wrap64 ((j : Int) + 1) = ((j + 1 : Nat) : Int) := by
  unfold wrap64
  push_cast
  omega
theorem rdL {ps : List (List SP)} {i : Nat} (h : i < ps.length) : rd_L2 ps (i : Int) = ps[i] := by unfold rd_L2; simp [List.getD, h]
theorem rdT {p : List SP} {j : Nat} (h : j < p.length) : rd_T41 p (j : Int) = p[j] := by unfold rd_T41; simp [List.getD, h]
/-! ### the program's -/
theorem right_l1 (ps : List (List SP)) (hn : ps.length ≤ 9223372036854775807) (i : Nat) (hi : i < ps.length) (p : List SP) (hp : p.length ≤ 8)
    (H : ∀ last : ByteArray, Ev (fun k => page_Right.l0 k last true ps ps.length ((i + 1 : Nat) : Int)) (R (some last.toList) (ps.drop (i + 1)))) :
    ∀ (d j : Nat) (last : ByteArray) (sm : Bool), p.length - j = d → j ≤ p.length → (j = p.length → sm = true) →
      Ev (fun k => page_Right.l1 k last sm ps ps.length i p p.length j) (sizes (ps.drop (i + 1)) && asc (if sm = true then some last.toList else none) (p.drop j ++ (ps.drop (i + 1)).flatten)) := by
  intro d
  induction d with
  | zero =>
    intro j last sm hd hj hs
    obtain rfl : j = p.length := by omega
    obtain rfl := hs rfl
    refine Ev.step (f := fun k => page_Right.l0 k last true ps ps.length ((i + 1 : Nat) : Int)) (fun k => ?_) ?_
    · simp only [page_Right.l1]
      rw [if_neg (by omega), wrap_one hi hn]
    · rw [List.drop_length, List.nil_append, if_pos rfl]
      exact H last
  | succ d ih =>
    intro j last sm hd hj hs
    have hlt : j < p.length := by omega
    have ih' := ih (j + 1) p[j].f0 true (by omega) (by omega) (fun _ => rfl)
    rw [if_pos rfl] at ih'
    have e1 : p.drop j ++ (ps.drop (i + 1)).flatten = p[j] :: (p.drop (j + 1) ++ (ps.drop (i + 1)).flatten) := by rw [List.drop_eq_getElem_cons hlt, List.cons_append]
    rw [e1]
    have hw : wrap64 ((j : Int) + 1) = ((j + 1 : Nat) : Int) := wrap_one hlt (by omega)
    cases sm with
    | false =>
      refine Ev.step (f := fun k => page_Right.l1 k p[j].f0 true ps ps.length i p p.length ((j + 1 : Nat) : Int)) (fun k => ?_) ?_
      · simp only [page_Right.l1]
        rw [if_pos (by omega), if_pos (by omega), if_pos (by omega), rdT hlt, hw]
        simp
      · rw [if_neg (by simp)]
        simpa [asc, kof] using ih'
    | true =>
      rw [if_pos rfl]
      cases hb : Op.bytesLess last.toList p[j].f0.toList with
      | true =>
        refine Ev.step (f := fun k => page_Right.l1 k p[j].f0 true ps ps.length i p p.length ((j + 1 : Nat) : Int)) (fun k => ?_) ?_
        · simp only [page_Right.l1]
          rw [if_pos (by omega), if_pos (by omega), if_pos (by omega), rdT hlt, hw, if_pos trivial, if_pos hb]
        · have e2 : asc (some last.toList) (p[j] :: (p.drop (j + 1) ++ (ps.drop (i + 1)).flatten)) = asc (some p[j].f0.toList) (p.drop (j + 1) ++ (ps.drop (i + 1)).flatten) := by
            show (Op.bytesLess last.toList (kof p[j]) && _) = _
            unfold kof
            rw [hb, Bool.true_and]
          rw [e2]
          exact ih'
      | false =>
        refine Ev.step (f := fun k => some false) (fun k => ?_) ?_
        · simp only [page_Right.l1]
          rw [if_pos (by omega), if_pos (by omega), if_pos (by omega), rdT hlt, if_pos trivial, if_neg (by rw [hb]; simp)]
        · have e2 : asc (some last.toList) (p[j] :: (p.drop (j + 1) ++ (ps.drop (i + 1)).flatten)) = false := by
            show (Op.bytesLess last.toList (kof p[j]) && _) = _
            unfold kof
            rw [hb, Bool.false_and]
          rw [e2, Bool.and_false]
          exact Ev.now false
theorem right_l0 (ps : List (List SP)) (hn : ps.length ≤ 9223372036854775807) : ∀ (d i : Nat) (last : ByteArray) (sm : Bool), ps.length - i = d → i ≤ ps.length → Ev (fun k => page_Right.l0 k last sm ps ps.length i) (R (if sm = true then some last.toList else none) (ps.drop i)) := by
  intro d
  induction d with
  | zero =>
    intro i last sm hd hi
    obtain rfl : i = ps.length := by omega
    refine Ev.step (f := fun k => some true) (fun k => ?_) ?_
    · simp only [page_Right.l0]
      rw [if_neg (by omega)]
    · rw [List.drop_length]
      exact Ev.now true
  | succ d ih =>
    intro i last sm hd hi
    have hlt : i < ps.length := by omega
    have e0 : ps.drop i = ps[i] :: ps.drop (i + 1) := List.drop_eq_getElem_cons hlt
    have e1 : R (if sm = true then some last.toList else none) (ps.drop i) = (fits ps[i] && (sizes (ps.drop (i + 1)) && asc (if sm = true then some last.toList else none) (ps[i] ++ (ps.drop (i + 1)).flatten))) := by
      rw [e0]
      unfold R sizes
      rw [List.all_cons, List.flatten_cons, Bool.and_assoc]
    rw [e1]
    by_cases h1 : ps[i].length < 1
    · have hf : fits ps[i] = false := by unfold fits; simp; omega
      rw [hf, Bool.false_and]
      refine Ev.step (f := fun k => page_Right.j1 k last sm ps[i] ps ps.length i true) (fun k => ?_) (Ev.step (f := fun k => some false) (fun k => ?_) (Ev.now false))
      · simp only [page_Right.l0]
        rw [if_pos (by omega), if_pos (by omega), if_pos (by omega), rdL hlt, if_pos (by omega)]
      · simp only [page_Right.j1]
        rw [if_pos trivial]
    · by_cases h8 : ps[i].length > 8
      · have hf : fits ps[i] = false := by unfold fits; simp; omega
        rw [hf, Bool.false_and]
        refine Ev.step (f := fun k => page_Right.j1 k last sm ps[i] ps ps.length i true) (fun k => ?_) (Ev.step (f := fun k => some false) (fun k => ?_) (Ev.now false))
        · simp only [page_Right.l0]
          rw [if_pos (by omega), if_pos (by omega), if_pos (by omega), rdL hlt, if_neg (by omega), decide_eq_true (by omega)]
        · simp only [page_Right.j1]
          rw [if_pos trivial]
      · have hf : fits ps[i] = true := by unfold fits; simp; omega
        rw [hf, Bool.true_and]
        refine Ev.step (f := fun k => page_Right.j1 k last sm ps[i] ps ps.length i false) (fun k => ?_) (Ev.step (f := fun k => page_Right.l1 k last sm ps ps.length i ps[i] ps[i].length 0) (fun k => ?_) ?_)
        · simp only [page_Right.l0]
          rw [if_pos (by omega), if_pos (by omega), if_pos (by omega), rdL hlt, if_neg (by omega), decide_eq_false (by omega)]
        · simp only [page_Right.j1]
          rw [if_neg (by simp)]
        · have h := right_l1 ps hn i hlt ps[i] (by omega) (fun l => by have h2 := ih (i + 1) l true (by omega) (by omega); rw [if_pos rfl] at h2; exact h2) ps[i].length 0 last sm (by omega) (by omega) (fun h => by omega)
          rw [List.drop_zero] at h
          exact h
theorem page_right (ps : List (List SP)) (hn : ps.length ≤ 9223372036854775807) : Ev (fun k => page_Right.f k ps) (right ps) := by
  have h := right_l0 ps hn ps.length 0 ⟨#[]⟩ false (by omega) (by omega)
  exact h
/-! ### the reference's -/
theorem right7_l1 (ps : List (List SP)) (hn : ps.length ≤ 9223372036854775807) (i : Nat) (hi : i < ps.length) (hp0 : 1 ≤ ps[i].length) (hp : ps[i].length ≤ 8)
    (H : ∀ last : ByteArray, Ev (fun k => falseworkref7_Right.l0 k ps last ((i + 1 : Nat) : Int)) (R (some last.toList) (ps.drop (i + 1)))) :
    ∀ (d j : Nat) (last : ByteArray), ps[i].length - j = d → j ≤ ps[i].length →
      Ev (fun k => falseworkref7_Right.l1 k ps last i j) (sizes (ps.drop (i + 1)) && asc (if 0 < i ∨ 0 < j then some last.toList else none) (ps[i].drop j ++ (ps.drop (i + 1)).flatten)) := by
  intro d
  induction d with
  | zero =>
    intro j last hd hj
    obtain rfl : j = ps[i].length := by omega
    refine Ev.step (f := fun k => falseworkref7_Right.l0 k ps last ((i + 1 : Nat) : Int)) (fun k => ?_) ?_
    · simp only [falseworkref7_Right.l1]
      rw [if_pos (by omega), if_pos (by omega), rdL hi, if_neg (by omega), wrap_one hi hn]
    · rw [List.drop_length, List.nil_append, if_pos (by omega)]
      exact H last
  | succ d ih =>
    intro j last hd hj
    have hlt : j < ps[i].length := by omega
    have ih' := ih (j + 1) ps[i][j].f0 (by omega) (by omega)
    rw [if_pos (by omega)] at ih'
    have e1 : ps[i].drop j ++ (ps.drop (i + 1)).flatten = ps[i][j] :: (ps[i].drop (j + 1) ++ (ps.drop (i + 1)).flatten) := by rw [List.drop_eq_getElem_cons hlt, List.cons_append]
    rw [e1]
    have hw : wrap64 ((j : Int) + 1) = ((j + 1 : Nat) : Int) := wrap_one hlt (by omega)
    by_cases hc : 0 < i ∨ 0 < j
    · rw [if_pos hc]
      cases hb : Op.bytesLess last.toList ps[i][j].f0.toList with
      | true =>
        refine Ev.step (f := fun k => falseworkref7_Right.l1 k ps ps[i][j].f0 i ((j + 1 : Nat) : Int)) (fun k => ?_) ?_
        · simp only [falseworkref7_Right.l1]
          rw [if_pos (by omega), if_pos (by omega), rdL hi, if_pos (by omega), rdT hlt, hw]
          by_cases hi0 : 0 < i
          · rw [if_pos (by omega), if_pos (by omega), if_pos hb]
          · rw [if_neg (by omega), if_pos (by omega), if_pos (by omega), if_pos hb]
        · have e2 : asc (some last.toList) (ps[i][j] :: (ps[i].drop (j + 1) ++ (ps.drop (i + 1)).flatten)) = asc (some ps[i][j].f0.toList) (ps[i].drop (j + 1) ++ (ps.drop (i + 1)).flatten) := by
            show (Op.bytesLess last.toList (kof ps[i][j]) && _) = _
            unfold kof
            rw [hb, Bool.true_and]
          rw [e2]
          exact ih'
      | false =>
        refine Ev.step (f := fun k => some false) (fun k => ?_) ?_
        · simp only [falseworkref7_Right.l1]
          rw [if_pos (by omega), if_pos (by omega), rdL hi, if_pos (by omega), rdT hlt]
          by_cases hi0 : 0 < i
          · rw [if_pos (by omega), if_pos (by omega), if_neg (by rw [hb]; simp)]
          · rw [if_neg (by omega), if_pos (by omega), if_pos (by omega), if_neg (by rw [hb]; simp)]
        · have e2 : asc (some last.toList) (ps[i][j] :: (ps[i].drop (j + 1) ++ (ps.drop (i + 1)).flatten)) = false := by
            show (Op.bytesLess last.toList (kof ps[i][j]) && _) = _
            unfold kof
            rw [hb, Bool.false_and]
          rw [e2, Bool.and_false]
          exact Ev.now false
    · rw [if_neg hc]
      refine Ev.step (f := fun k => falseworkref7_Right.l1 k ps ps[i][j].f0 i ((j + 1 : Nat) : Int)) (fun k => ?_) ?_
      · simp only [falseworkref7_Right.l1]
        rw [if_pos (by omega), if_pos (by omega), rdL hi, if_pos (by omega), rdT hlt, hw, if_neg (by omega), if_neg (by omega), if_pos (by omega)]
      · simpa [asc, kof] using ih'
theorem right7_l0 (ps : List (List SP)) (hn : ps.length ≤ 9223372036854775807) : ∀ (d i : Nat) (last : ByteArray), ps.length - i = d → i ≤ ps.length → Ev (fun k => falseworkref7_Right.l0 k ps last i) (R (if 0 < i then some last.toList else none) (ps.drop i)) := by
  intro d
  induction d with
  | zero =>
    intro i last hd hi
    obtain rfl : i = ps.length := by omega
    refine Ev.step (f := fun k => some true) (fun k => ?_) ?_
    · simp only [falseworkref7_Right.l0]
      rw [if_neg (by omega)]
    · rw [List.drop_length]
      exact Ev.now true
  | succ d ih =>
    intro i last hd hi
    have hlt : i < ps.length := by omega
    have e0 : ps.drop i = ps[i] :: ps.drop (i + 1) := List.drop_eq_getElem_cons hlt
    have e1 : R (if 0 < i then some last.toList else none) (ps.drop i) = (fits ps[i] && (sizes (ps.drop (i + 1)) && asc (if 0 < i then some last.toList else none) (ps[i] ++ (ps.drop (i + 1)).flatten))) := by
      rw [e0]
      unfold R sizes
      rw [List.all_cons, List.flatten_cons, Bool.and_assoc]
    rw [e1]
    by_cases h1 : ps[i].length = 0
    · have hf : fits ps[i] = false := by unfold fits; simp; omega
      rw [hf, Bool.false_and]
      refine Ev.step (f := fun k => falseworkref7_Right.j1 k ps last i true) (fun k => ?_) (Ev.step (f := fun k => some false) (fun k => ?_) (Ev.now false))
      · simp only [falseworkref7_Right.l0]
        rw [if_pos (by omega), if_pos (by omega), rdL hlt, if_pos (by omega)]
      · simp only [falseworkref7_Right.j1]
        rw [if_pos trivial]
    · by_cases h8 : ps[i].length > 8
      · have hf : fits ps[i] = false := by unfold fits; simp; omega
        rw [hf, Bool.false_and]
        refine Ev.step (f := fun k => falseworkref7_Right.j1 k ps last i true) (fun k => ?_) (Ev.step (f := fun k => some false) (fun k => ?_) (Ev.now false))
        · simp only [falseworkref7_Right.l0]
          rw [if_pos (by omega), if_pos (by omega), rdL hlt, if_neg (by omega), decide_eq_true (by omega)]
        · simp only [falseworkref7_Right.j1]
          rw [if_pos trivial]
      · have hf : fits ps[i] = true := by unfold fits; simp; omega
        rw [hf, Bool.true_and]
        refine Ev.step (f := fun k => falseworkref7_Right.j1 k ps last i false) (fun k => ?_) (Ev.step (f := fun k => falseworkref7_Right.l1 k ps last i 0) (fun k => ?_) ?_)
        · simp only [falseworkref7_Right.l0]
          rw [if_pos (by omega), if_pos (by omega), rdL hlt, if_neg (by omega), decide_eq_false (by omega)]
        · simp only [falseworkref7_Right.j1]
          rw [if_neg (by simp)]
        · have h := right7_l1 ps hn i hlt (by omega) (by omega) (fun l => by have h2 := ih (i + 1) l (by omega) (by omega); rw [if_pos (by omega)] at h2; exact h2) ps[i].length 0 last (by omega) (by omega)
          rw [List.drop_zero] at h
          simpa using h
theorem ref_right (ps : List (List SP)) (hn : ps.length ≤ 9223372036854775807) : Ev (fun k => falseworkref7_Right.f k ps) (right ps) := by
  have h := right7_l0 ps hn ps.length 0 ⟨#[]⟩ (by omega) (by omega)
  exact h
end Go.Proofs.Ytookpmdgoednfaa.Py
