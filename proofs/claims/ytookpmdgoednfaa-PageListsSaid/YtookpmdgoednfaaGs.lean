/- What the reference's Scan computes, in plain words: the first pairs between two keys. No condition. -/
import Derived.Test.YtookpmdgoednfaaGq
import Derived.Test.YtookpmdgoednfaaPgC0
namespace Go.Proofs.Ytookpmdgoednfaa.Gs
open Go.RowKit Go.Proofs.YtookpmdgoednfaaW.PrintWords Go.Proofs.YtookpmdgoednfaaW.PrintLast Go.Proofs.YtookpmdgoednfaaW.PrintMore Go.Proofs.Ytookpmdgoednfaa.PPagePuts Go.Proofs.Ytookpmdgoednfaa.Py Go.Proofs.Ytookpmdgoednfaa.Gq
open Go.Proofs.Ytookpmdgoednfaa.Px (lt Bef Rt)
set_option linter.unusedVariables false
theorem within_f (x : SP) (lo hi : ByteArray) : falseworkref7_Within.f x.f0 lo hi = some (within lo hi x) := by
  unfold falseworkref7_Within.f within
  cases h1 : lt (kof x) lo.toList with
  | true =>
    rw [if_pos (show Op.bytesLess x.f0.toList lo.toList = true from h1)]
    rfl
  | false =>
    rw [if_neg (by rw [show Op.bytesLess x.f0.toList lo.toList = false from h1]; simp)]
    by_cases h2 : hi.toList = []
    · rw [if_pos h2, h2]
      rfl
    · rw [if_neg h2]
      have e : hi.toList.isEmpty = false := by simpa using h2
      rw [e]
      rfl
theorem rmore_full {n : Int} {lo hi : ByteArray} {out : List SP} (h : n ≤ (out.length : Int)) (l : List SP) : rmore n lo hi out l = out := by
  unfold rmore
  rw [show n.toNat - out.length = 0 by omega, List.take_zero, List.append_nil]
theorem rmore_in {n : Int} {lo hi : ByteArray} {out : List SP} (h : (out.length : Int) < n) {x : SP} (hx : within lo hi x = true) (l : List SP) : rmore n lo hi out (x :: l) = rmore n lo hi (out ++ [x]) l := by
  unfold rmore
  rw [List.filter_cons_of_pos hx, List.length_append, List.length_singleton, show n.toNat - out.length = (n.toNat - (out.length + 1)) + 1 by omega, List.take_succ_cons, List.append_assoc, List.singleton_append]
theorem rmore_out {n : Int} {lo hi : ByteArray} {out : List SP} {x : SP} (hx : within lo hi x = false) (l : List SP) : rmore n lo hi out (x :: l) = rmore n lo hi out l := by
  unfold rmore
  rw [List.filter_cons_of_neg (by rw [hx]; simp)]
theorem scan_l1 (ps : List (List SP)) (lo hi : ByteArray) (n : Int) (i : Nat) (hil : i < ps.length) (hn : ps.length ≤ 100000) (hp : ps[i].length ≤ 8) (rest : List SP)
    (H : ∀ out : List SP, out.length ≤ 8 * (i + 1) → Ev (fun k => falseworkref7_Scan.l0 k ps lo hi n out ((i + 1 : Nat) : Int)) (rmore n lo hi out rest)) :
    ∀ (d j : Nat) (out : List SP), ps[i].length - j = d → j ≤ ps[i].length → out.length ≤ 8 * i + j → Ev (fun k => falseworkref7_Scan.l1 k ps lo hi n out i j) (rmore n lo hi out (ps[i].drop j ++ rest)) := by
  intro d
  induction d with
  | zero =>
    intro j out hd hj ho
    rw [show ps[i].drop j = [] by simp; omega, List.nil_append]
    refine Ev.step (f := fun k => falseworkref7_Scan.j3 k ps lo hi n out i j false) (fun k => ?_) (Ev.step (f := fun k => falseworkref7_Scan.l0 k ps lo hi n out ((i + 1 : Nat) : Int)) (fun k => ?_) (H out (by omega)))
    · simp only [falseworkref7_Scan.l1]
      rw [if_pos (by omega), if_pos (by omega), rdL hil, if_neg (by omega)]
    · simp only [falseworkref7_Scan.j3]
      rw [if_neg (by simp), wrap_one hil (by omega)]
  | succ d ih =>
    intro j out hd hj ho
    have hlt : j < ps[i].length := by omega
    rw [List.drop_eq_getElem_cons hlt, List.cons_append]
    refine Ev.step (f := fun k => falseworkref7_Scan.j3 k ps lo hi n out i j (decide ((out.length : Int) < n))) (fun k => by
      simp only [falseworkref7_Scan.l1]
      rw [if_pos (by omega), if_pos (by omega), rdL hil, if_pos (by omega)]) ?_
    by_cases hf : (out.length : Int) < n
    · rw [decide_eq_true hf]
      cases hw : within lo hi ps[i][j] with
      | true =>
        rw [rmore_in hf hw]
        refine Ev.step (f := fun k => falseworkref7_Scan.l1 k ps lo hi n (out ++ [ps[i][j]]) i ((j + 1 : Nat) : Int)) (fun k => ?_) (ih (j + 1) (out ++ [ps[i][j]]) (by omega) (by omega) (by rw [List.length_append, List.length_singleton]; omega))
        simp only [falseworkref7_Scan.j3]
        rw [if_pos trivial, if_pos (by omega), if_pos (by omega), if_pos (by omega), rdL hil, if_pos (by omega), rdT hlt, within_f, hw]
        simp only [Option.bind_some]
        rw [if_pos trivial, if_pos (by omega), wrap_one hlt (by omega)]
      | false =>
        rw [rmore_out hw]
        refine Ev.step (f := fun k => falseworkref7_Scan.l1 k ps lo hi n out i ((j + 1 : Nat) : Int)) (fun k => ?_) (ih (j + 1) _ (by omega) (by omega) (by omega))
        simp only [falseworkref7_Scan.j3]
        rw [if_pos trivial, if_pos (by omega), if_pos (by omega), if_pos (by omega), rdL hil, if_pos (by omega), rdT hlt, within_f, hw]
        simp only [Option.bind_some]
        rw [if_neg (by simp), wrap_one hlt (by omega)]
    · rw [decide_eq_false hf, rmore_full (by omega)]
      have h := H out (by omega)
      rw [rmore_full (by omega)] at h
      refine Ev.step (f := fun k => falseworkref7_Scan.l0 k ps lo hi n out ((i + 1 : Nat) : Int)) (fun k => ?_) h
      simp only [falseworkref7_Scan.j3]
      rw [if_neg (by simp), wrap_one hil (by omega)]
theorem scan_l0 (ps : List (List SP)) (lo hi : ByteArray) (n : Int) (hn : ps.length ≤ 100000) (hp : ∀ p ∈ ps, p.length ≤ 8) (hr : right ps = true) : ∀ (d i : Nat) (out : List SP), ps.length - i = d → i ≤ ps.length → out.length ≤ 8 * i → Ev (fun k => falseworkref7_Scan.l0 k ps lo hi n out i) (rmore n lo hi out (ps.drop i).flatten) := by
  have hR := ref_right ps (by omega)
  rw [hr] at hR
  intro d
  induction d with
  | zero =>
    intro i out hd hi' ho
    rw [show ps.drop i = [] by simp; omega]
    refine Ev.step (f := fun k => (falseworkref7_Right.f k ps).bind fun t => if t = true then falseworkref7_Scan.j1 k ps lo hi n out i (decide ((i : Int) < (ps.length : Int))) else falseworkref7_Scan.j1 k ps lo hi n out i false) (fun k => by simp only [falseworkref7_Scan.l0]) (Ev.bind hR ?_)
    refine Ev.step (f := fun _ => some out) (fun k => ?_) (by simpa [rmore] using Ev.now out)
    rw [if_pos rfl, decide_eq_false (by omega)]
    simp [falseworkref7_Scan.j1]
  | succ d ih =>
    intro i out hd hi' ho
    have hlt : i < ps.length := by omega
    rw [List.drop_eq_getElem_cons hlt, List.flatten_cons]
    have h1 := scan_l1 ps lo hi n i hlt hn (hp _ (List.getElem_mem hlt)) _ (fun out' ho' => ih (i + 1) out' (by omega) (by omega) ho') ps[i].length 0 out (by omega) (by omega) (by omega)
    rw [List.drop_zero] at h1
    refine Ev.step (f := fun k => (falseworkref7_Right.f k ps).bind fun t => if t = true then falseworkref7_Scan.j1 k ps lo hi n out i (decide ((i : Int) < (ps.length : Int))) else falseworkref7_Scan.j1 k ps lo hi n out i false) (fun k => by simp only [falseworkref7_Scan.l0]) (Ev.bind hR ?_)
    refine Ev.step (f := fun k => falseworkref7_Scan.l1 k ps lo hi n out i 0) (fun k => ?_) h1
    rw [if_pos rfl, decide_eq_true (by omega)]
    simp [falseworkref7_Scan.j1]
theorem refscan (ps : List (List SP)) (lo hi : ByteArray) (n : Int) (hn : ps.length ≤ 100000) (hp : ∀ p ∈ ps, p.length ≤ 8) (hr : right ps = true) : Ev (fun k => falseworkref7_Scan.f k ps lo hi n) (rmore n lo hi [] ps.flatten) := by
  have h := scan_l0 ps lo hi n hn hp hr ps.length 0 [] (by omega) (by omega) (by simp)
  rwa [List.drop_zero] at h
theorem refscan_not (ps : List (List SP)) (lo hi : ByteArray) (n : Int) (hn : ps.length ≤ 100000) (hr : right ps = false) : Ev (fun k => falseworkref7_Scan.f k ps lo hi n) [] := by
  have hR := ref_right ps (by omega)
  rw [hr] at hR
  refine Ev.step (f := fun k => (falseworkref7_Right.f k ps).bind fun t => if t = true then falseworkref7_Scan.j1 k ps lo hi n [] 0 (decide ((0 : Int) < (ps.length : Int))) else falseworkref7_Scan.j1 k ps lo hi n [] 0 false) (fun k => by simp only [falseworkref7_Scan.f, falseworkref7_Scan.l0]) (Ev.bind hR ?_)
  refine Ev.step (f := fun _ => some []) (fun k => ?_) (Ev.now _)
  rw [if_neg (by simp)]
  simp [falseworkref7_Scan.j1]
end Go.Proofs.Ytookpmdgoednfaa.Gs
