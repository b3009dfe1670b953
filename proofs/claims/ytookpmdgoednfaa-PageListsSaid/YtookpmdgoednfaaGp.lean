/- What the reference's Get computes, in plain words: the first pair with the key. No condition. -/
import Derived.Test.YtookpmdgoednfaaPz
import Derived.Test.YtookpmdgoednfaaPgC0
namespace Go.Proofs.Ytookpmdgoednfaa.Gp
open Go.RowKit Go.Proofs.YtookpmdgoednfaaW.PrintWords Go.Proofs.YtookpmdgoednfaaW.PrintLast Go.Proofs.YtookpmdgoednfaaW.PrintMore Go.Proofs.Ytookpmdgoednfaa.PPagePuts Go.Proofs.Ytookpmdgoednfaa.Py
set_option linter.unusedVariables false
def look (key : ByteArray) : List SP → ByteArray × Bool
  | [] => (⟨#[]⟩, false)
  | x :: l => if x.f0.toList = key.toList then (x.f1, true) else look key l
theorem get_l1 (ps : List (List SP)) (key : ByteArray) (i : Nat) (hi : i < ps.length) (hn : ps.length ≤ 100000) (hp : ps[i].length ≤ 8) (rest : List SP) (H : Ev (fun k => falseworkref7_Get.l0 k ps key ((i + 1 : Nat) : Int)) (look key rest)) :
    ∀ (d j : Nat), ps[i].length - j = d → j ≤ ps[i].length → Ev (fun k => falseworkref7_Get.l1 k ps key i j) (look key (ps[i].drop j ++ rest)) := by
  intro d
  induction d with
  | zero =>
    intro j hd hj
    rw [show ps[i].drop j = [] by simp; omega, List.nil_append]
    refine Ev.step (f := fun k => falseworkref7_Get.l0 k ps key ((i + 1 : Nat) : Int)) (fun k => ?_) H
    simp only [falseworkref7_Get.l1]
    rw [if_pos (by omega), if_pos (by omega), rdL hi, if_neg (by omega), wrap_one hi (by omega)]
  | succ d ih =>
    intro j hd hj
    have hlt : j < ps[i].length := by omega
    rw [List.drop_eq_getElem_cons hlt, List.cons_append]
    have e1 : ∀ k, falseworkref7_Get.l1 (k + 1) ps key i j = if (ps[i][j].f0).toList = key.toList then some (ps[i][j].f1, true) else falseworkref7_Get.l1 k ps key i ((j + 1 : Nat) : Int) := fun k => by
      simp only [falseworkref7_Get.l1]
      rw [if_pos (by omega), if_pos (by omega), rdL hi, if_pos (by omega), if_pos (by omega), rdT hlt, wrap_one hlt (by omega)]
    unfold look
    by_cases he : (ps[i][j].f0).toList = key.toList
    · rw [if_pos he]
      refine Ev.step (f := fun _ => some (ps[i][j].f1, true)) (fun k => by rw [e1, if_pos he]) (Ev.now _)
    · rw [if_neg he]
      exact Ev.step (f := fun k => falseworkref7_Get.l1 k ps key i ((j + 1 : Nat) : Int)) (fun k => by rw [e1, if_neg he]) (ih (j + 1) (by omega) (by omega))
theorem get_l0 (ps : List (List SP)) (key : ByteArray) (hn : ps.length ≤ 100000) (hp : ∀ p ∈ ps, p.length ≤ 8) (hr : right ps = true) : ∀ (d i : Nat), ps.length - i = d → i ≤ ps.length → Ev (fun k => falseworkref7_Get.l0 k ps key i) (look key (ps.drop i).flatten) := by
  have hR := ref_right ps (by omega)
  rw [hr] at hR
  intro d
  induction d with
  | zero =>
    intro i hd hi
    rw [show ps.drop i = [] by simp; omega]
    refine Ev.step (f := fun k => (falseworkref7_Right.f k ps).bind fun t => if t = true then falseworkref7_Get.j1 k ps key i (decide ((i : Int) < (ps.length : Int))) else falseworkref7_Get.j1 k ps key i false) (fun k => by simp only [falseworkref7_Get.l0]) (Ev.bind hR ?_)
    refine Ev.step (f := fun _ => some (⟨#[]⟩, false)) (fun k => ?_) (Ev.now _)
    rw [if_pos rfl, decide_eq_false (by omega)]
    simp [falseworkref7_Get.j1]
  | succ d ih =>
    intro i hd hi
    have hlt : i < ps.length := by omega
    rw [List.drop_eq_getElem_cons hlt, List.flatten_cons]
    have h1 := get_l1 ps key i hlt hn (hp _ (List.getElem_mem hlt)) _ (ih (i + 1) (by omega) (by omega)) ps[i].length 0 (by omega) (by omega)
    rw [List.drop_zero] at h1
    refine Ev.step (f := fun k => (falseworkref7_Right.f k ps).bind fun t => if t = true then falseworkref7_Get.j1 k ps key i (decide ((i : Int) < (ps.length : Int))) else falseworkref7_Get.j1 k ps key i false) (fun k => by simp only [falseworkref7_Get.l0]) (Ev.bind hR ?_)
    refine Ev.step (f := fun k => falseworkref7_Get.l1 k ps key i 0) (fun k => ?_) h1
    rw [if_pos rfl, decide_eq_true (by omega)]
    simp [falseworkref7_Get.j1]
theorem refget (ps : List (List SP)) (key : ByteArray) (hn : ps.length ≤ 100000) (hp : ∀ p ∈ ps, p.length ≤ 8) (hr : right ps = true) : Ev (fun k => falseworkref7_Get.f k ps key) (look key ps.flatten) := by
  have h := get_l0 ps key hn hp hr ps.length 0 (by omega) (by omega)
  rwa [List.drop_zero] at h
theorem look_away {key : ByteArray} : ∀ {l : List SP}, (∀ y ∈ l, ¬ y.f0.toList = key.toList) → look key l = (⟨#[]⟩, false)
  | [], _ => rfl
  | x :: l, h => by
    unfold look
    rw [if_neg (h x (List.mem_cons_self ..)), look_away fun y hy => h y (List.mem_cons_of_mem _ hy)]
theorem look_there {key : ByteArray} {x : SP} (hx : x.f0.toList = key.toList) {l2 : List SP} : ∀ {l : List SP}, (∀ y ∈ l, ¬ y.f0.toList = key.toList) → look key (l ++ x :: l2) = (x.f1, true)
  | [], _ => by rw [List.nil_append]; unfold look; rw [if_pos hx]
  | z :: l, h => by
    rw [List.cons_append]
    unfold look
    rw [if_neg (h z (List.mem_cons_self ..)), look_there hx fun y hy => h y (List.mem_cons_of_mem _ hy)]
theorem refget_not (ps : List (List SP)) (key : ByteArray) (hn : ps.length ≤ 100000) (hr : right ps = false) : Ev (fun k => falseworkref7_Get.f k ps key) (⟨#[]⟩, false) := by
  have hR := ref_right ps (by omega)
  rw [hr] at hR
  refine Ev.step (f := fun k => (falseworkref7_Right.f k ps).bind fun t => if t = true then falseworkref7_Get.j1 k ps key 0 (decide ((0 : Int) < (ps.length : Int))) else falseworkref7_Get.j1 k ps key 0 false) (fun k => by simp only [falseworkref7_Get.f, falseworkref7_Get.l0]) (Ev.bind hR ?_)
  refine Ev.step (f := fun _ => some (⟨#[]⟩, false)) (fun k => ?_) (Ev.now _)
  rw [if_neg (by simp)]
  simp [falseworkref7_Get.j1]
end Go.Proofs.Ytookpmdgoednfaa.Gp
