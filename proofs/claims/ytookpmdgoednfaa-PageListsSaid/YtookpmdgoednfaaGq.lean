/- Pairs between two keys, in plain words: what the program's Scan gathers, page by page, is what stands between. No condition. -/
import Derived.Test.YtookpmdgoednfaaPz
namespace Go.Proofs.Ytookpmdgoednfaa.Gq
open Go.RowKit Go.Proofs.YtookpmdgoednfaaW.PrintWords Go.Proofs.YtookpmdgoednfaaW.PrintLast Go.Proofs.YtookpmdgoednfaaW.PrintMore Go.Proofs.Ytookpmdgoednfaa.PPagePuts Go.Proofs.Ytookpmdgoednfaa.Py Go.Proofs.Ytookpmdgoednfaa.Px
set_option linter.unusedVariables false
def within (lo hi : ByteArray) (x : SP) : Bool := !lt (kof x) lo.toList && (hi.toList.isEmpty || lt (kof x) hi.toList)
/-- What the reference gathers. -/
def rmore (n : Int) (lo hi : ByteArray) (out l : List SP) : List SP := out ++ (l.filter (within lo hi)).take (n.toNat - out.length)
/-- What the program gathers. -/
def pmore (n : Int) (lo hi : ByteArray) : List SP → List SP → List SP
  | out, [] => out
  | out, x :: l => if n ≤ (out.length : Int) then out else if (!hi.toList.isEmpty && !lt (kof x) hi.toList) = true then out else if lt (kof x) lo.toList = true then pmore n lo hi out l else pmore n lo hi (out ++ [x]) l
theorem pmore_eq (n : Int) (lo hi : ByteArray) : ∀ (l out : List SP), l.Pairwise Bef → pmore n lo hi out l = rmore n lo hi out l
  | [], out, _ => by simp [pmore, rmore]
  | x :: l, out, h => by
    obtain ⟨hx, hl⟩ := List.pairwise_cons.1 h
    unfold pmore
    split
    · rename_i h1
      unfold rmore
      rw [show n.toNat - out.length = 0 by omega, List.take_zero, List.append_nil]
    · rename_i h1
      split
      · rename_i h2
        rw [Bool.and_eq_true] at h2
        obtain ⟨h2, h3⟩ := h2
        have e1 : hi.toList.isEmpty = false := by simpa using h2
        have e2 : lt (kof x) hi.toList = false := by simpa using h3
        have e3 : (x :: l).filter (within lo hi) = [] := by
          rw [List.filter_eq_nil_iff]
          intro y hy
          have e4 : lt (kof y) hi.toList = false := by
            rcases List.mem_cons.1 hy with rfl | hy
            · exact e2
            · cases e5 : lt (kof y) hi.toList with
              | false => rfl
              | true => rw [lt_trans (hx y hy) e5] at e2; cases e2
          unfold within
          rw [e1, e4]
          simp
        unfold rmore
        rw [e3, List.take_nil, List.append_nil]
      · rename_i h2
        have e0 : (hi.toList.isEmpty || lt (kof x) hi.toList) = true := by
          cases e1 : hi.toList.isEmpty <;> cases e2 : lt (kof x) hi.toList <;> simp [e1, e2] at h2 ⊢
        split
        · rename_i h3
          rw [pmore_eq n lo hi l out hl]
          unfold rmore
          rw [List.filter_cons_of_neg (by unfold within; rw [h3]; simp)]
        · rename_i h3
          rw [pmore_eq n lo hi l (out ++ [x]) hl]
          unfold rmore
          have h4 : lt (kof x) lo.toList = false := by simpa using h3
          rw [List.filter_cons_of_pos (by unfold within; rw [h4, e0]; rfl), List.length_append, List.length_singleton, show n.toNat - out.length = (n.toNat - (out.length + 1)) + 1 by omega, List.take_succ_cons, List.append_assoc, List.singleton_append]
theorem pm_full {n : Int} {lo hi : ByteArray} {out : List SP} (h : n ≤ (out.length : Int)) (l : List SP) : pmore n lo hi out l = out := by
  cases l with
  | nil => rfl
  | cons x l => unfold pmore; rw [if_pos h]
theorem pm_end {n : Int} {lo hi : ByteArray} {out : List SP} (h : ¬ n ≤ (out.length : Int)) {x : SP} (h1 : hi.toList.isEmpty = false) (h2 : lt x.f0.toList hi.toList = false) (l : List SP) : pmore n lo hi out (x :: l) = out := by
  unfold pmore
  rw [if_neg h, if_pos (by rw [h1, show lt (kof x) hi.toList = false from h2]; rfl)]
theorem pm_skip {n : Int} {lo hi : ByteArray} {out : List SP} (h : ¬ n ≤ (out.length : Int)) {x : SP} (h1 : (hi.toList.isEmpty || lt x.f0.toList hi.toList) = true) (h2 : lt x.f0.toList lo.toList = true) (l : List SP) : pmore n lo hi out (x :: l) = pmore n lo hi out l := by
  have h3 : (hi.toList.isEmpty || lt (kof x) hi.toList) = true := h1
  conv => lhs; unfold pmore
  rw [if_neg h, if_neg (by revert h3; cases hi.toList.isEmpty <;> cases lt (kof x) hi.toList <;> simp), if_pos (show lt (kof x) lo.toList = true from h2)]
theorem pm_take {n : Int} {lo hi : ByteArray} {out : List SP} (h : ¬ n ≤ (out.length : Int)) {x : SP} (h1 : (hi.toList.isEmpty || lt x.f0.toList hi.toList) = true) (h2 : lt x.f0.toList lo.toList = false) (l : List SP) : pmore n lo hi out (x :: l) = pmore n lo hi (out ++ [x]) l := by
  have h3 : (hi.toList.isEmpty || lt (kof x) hi.toList) = true := h1
  conv => lhs; unfold pmore
  rw [if_neg h, if_neg (by revert h3; cases hi.toList.isEmpty <;> cases lt (kof x) hi.toList <;> simp), if_neg (by rw [show lt (kof x) lo.toList = false from h2]; simp)]
theorem flat_pair {ps : List (List SP)} (h : Rt ps) : ps.flatten.Pairwise Bef := List.pairwise_flatten.2 ⟨h.page, h.pages⟩
theorem drop_rt {ps : List (List SP)} (h : Rt ps) (m : Nat) : Rt (ps.drop m) := ⟨fun p hp => h.len p (List.mem_of_mem_drop hp), fun p hp => h.page p (List.mem_of_mem_drop hp), h.pages.sublist (List.drop_sublist _ _)⟩
theorem not_below {x y : SP} {lo : List UInt8} (h : Bef x y) (hy : lt lo (kof y) = false) : lt (kof x) lo = true := by
  cases hx : lt (kof x) lo with
  | true => rfl
  | false =>
    by_cases he : kof x = lo
    · unfold Bef at h
      rw [he] at h
      rw [h] at hy
      cases hy
    · have := lt_trans (lt_of_not hx he) h
      rw [this] at hy
      cases hy
/-- Ahead of a key's page nothing stands from that key on. -/
theorem drop_sel {ps : List (List SP)} (h : Rt ps) (lo hi : ByteArray) (k : Nat) (hk : k ≤ ps.length) (h1 : ∀ t : Nat, t < k → lt lo.toList (fk (rd_L2 ps t)) = false) : (ps.drop (k - 1)).flatten.filter (within lo hi) = ps.flatten.filter (within lo hi) := by
  have e : ps.flatten = (ps.take (k - 1)).flatten ++ (ps.drop (k - 1)).flatten := by rw [← List.flatten_append, List.take_append_drop]
  rw [e, List.filter_append]
  have e2 : (ps.take (k - 1)).flatten.filter (within lo hi) = [] := by
    rw [List.filter_eq_nil_iff]
    intro x hx
    obtain ⟨p, hp, hxp⟩ := List.mem_flatten.1 hx
    obtain ⟨t, ht, hpt⟩ := List.mem_iff_getElem.1 hp
    rw [List.length_take] at ht
    rw [List.getElem_take] at hpt
    have hkl : k - 1 < ps.length := by omega
    obtain ⟨y, hy, ey⟩ := fk_mem (h.len _ (List.getElem_mem hkl)).1
    have hb := (List.pairwise_iff_getElem.1 h.pages) t (k - 1) (by omega) hkl (by omega) x (by rw [hpt]; exact hxp) y hy
    have h2 := h1 (k - 1) (by omega)
    rw [rdL hkl, ey] at h2
    unfold within
    rw [not_below hb h2]
    simp
  rw [e2, List.nil_append]
/-- What both gather. -/
theorem both_sel {ps : List (List SP)} (h : Rt ps) (n : Int) (lo hi : ByteArray) (k : Nat) (hk : k ≤ ps.length) (h1 : ∀ t : Nat, t < k → lt lo.toList (fk (rd_L2 ps t)) = false) : pmore n lo hi [] (ps.drop (k - 1)).flatten = rmore n lo hi [] ps.flatten := by
  rw [pmore_eq n lo hi _ _ (flat_pair (drop_rt h (k - 1)))]
  unfold rmore
  rw [drop_sel h lo hi k hk h1]
end Go.Proofs.Ytookpmdgoednfaa.Gq
