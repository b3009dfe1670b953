/- One page among pages: taken out of them, and put back. -/
import Derived.Test.YtookpmdgoednfaaPa
namespace Go.Proofs.Ytookpmdgoednfaa.Pa
open Go.RowKit Go.Proofs.YtookpmdgoednfaaW.PrintWords Go.Proofs.YtookpmdgoednfaaW.PrintLast Go.Proofs.YtookpmdgoednfaaW.PrintMore Go.Proofs.Ytookpmdgoednfaa.Mx Go.Proofs.Ytookpmdgoednfaa.PPagePuts
set_option linter.unusedVariables false
def hz : Hd := ⟨none, 0, 0⟩
theorem Mem.hd_cell {w0 w : World} {rs : List Res} {e g cap : Nat} {hs : List Hd} (h : Mem w0 w rs) (i : Nat) (hi : rs[i]? = some (row kH e (.slice (some ⟨g, 0, none⟩) hs.length cap) hs)) (j : Nat) (hj : j < hs.length) : w.cell? ⟨g, j, none⟩ = some (hs.getD j hz).v ∧ w.frozen? ⟨g, j, none⟩ = false := by
  have := Kd.R_cell hz (h.hold hi) (j : Int) (by omega) (by omega)
  rw [Int.toNat_natCast] at this
  exact this
theorem Mem.hd_put {w0 w : World} {rs : List Res} {e g cap : Nat} {hs : List Hd} (h : Mem w0 w rs) (i : Nat) (hi : rs[i]? = some (row kH e (.slice (some ⟨g, 0, none⟩) hs.length cap) hs)) (j : Nat) (x : Hd) : Mem w0 (w.setCell ⟨g, j, none⟩ x.v) (rs.set i (row kH e (.slice (some ⟨g, 0, none⟩) hs.length cap) (hs.set j x))) := by
  refine h.grown1 hi (v1 := .slice (some ⟨g, 0, none⟩) hs.length cap) ?_ (fun f hf => ?_)
  · exact (Kd.R_put (h.hold hi) (j : Int) x).2
  · exact Kd.R_mono (Kd.R_put hf (j : Int) x).1 (fun _ hk => .inl hk)
theorem Mem.hd_cell' {w0 w : World} {rs : List Res} {e g n cap : Nat} {hs : List Hd} (h : Mem w0 w rs) (i : Nat) (hi : rs[i]? = some (row kH e (.slice (some ⟨g, 0, none⟩) n cap) hs)) (j : Nat) (hj : j < n) : (w.cell? ⟨g, j, none⟩).isSome = true ∧ w.frozen? ⟨g, j, none⟩ = false ∧ g < w.heap.size ∧ ∀ x : Hd, Mem w0 (w.setCell ⟨g, j, none⟩ x.v) (rs.set i (row kH e (.slice (some ⟨g, 0, none⟩) n cap) (hs.set j x))) := by
  obtain rfl : n = hs.length := (Kd.R_reads' (h.hold hi)).1
  obtain ⟨h1, h2⟩ := Mem.hd_cell h i hi j hj
  exact ⟨by rw [h1]; rfl, h2, World.block_lt_of_cell? w _ h1, fun x => Mem.hd_put h i hi j x⟩
theorem inner_app {hs1 hs2 : List Hd} {ps1 ps2 : List (List SP)} (hl : hs1.length = ps1.length) : inner (hs1 ++ hs2) (ps1 ++ ps2) = inner hs1 ps1 ++ inner hs2 ps2 := by
  unfold inner
  exact List.zipWith_append hl
theorem inner_cons (h : Hd) (hs : List Hd) (p : List SP) (ps : List (List SP)) : inner (h :: hs) (p :: ps) = row kP 41 h.v p :: inner hs ps := rfl
theorem list_split {α : Type} {l : List α} {n : Nat} {x : α} (h : l[n]? = some x) : l = l.take n ++ x :: l.drop (n + 1) := by
  obtain ⟨hn, rfl⟩ := List.getElem?_eq_some_iff.1 h
  rw [← List.drop_eq_getElem_cons hn, List.take_append_drop]
theorem list_set {α : Type} {l : List α} {n : Nat} (x : α) (h : n < l.length) : l.set n x = l.take n ++ x :: l.drop (n + 1) := List.set_eq_take_append_cons_drop.trans (if_pos h)
theorem inner_split {hs : List Hd} {ps : List (List SP)} {n : Nat} {h : Hd} {p : List SP} (hl : hs.length = ps.length) (h1 : hs[n]? = some h) (h2 : ps[n]? = some p) : inner hs ps = inner (hs.take n) (ps.take n) ++ row kP 41 h.v p :: inner (hs.drop (n + 1)) (ps.drop (n + 1)) := by
  have e : inner hs ps = inner (hs.take n ++ h :: hs.drop (n + 1)) (ps.take n ++ p :: ps.drop (n + 1)) := by rw [← list_split h1, ← list_split h2]
  rw [e, inner_app (by rw [List.length_take, List.length_take, hl]), inner_cons]
theorem PgM.open_ {w0 w : World} {v : Value} {hs : List Hd} {ps : List (List SP)} {F : List Res} (h : PgM w0 w v hs ps F) (n : Nat) (hn : n < ps.length) :
    ∃ (g cap : Nat) (hd : Hd), v = .slice (some ⟨g, 0, none⟩) ps.length cap ∧ hs[n]? = some hd ∧ w.cell? ⟨g, n, none⟩ = some hd.v ∧ w.frozen? ⟨g, n, none⟩ = false ∧ g < w.heap.size ∧
      Mem w0 w (row kH 32 v hs :: row kP 41 hd.v (ps.getD n []) :: (inner (hs.take n) (ps.take n) ++ (inner (hs.drop (n + 1)) (ps.drop (n + 1)) ++ F))) := by
  obtain ⟨g, cap, rfl, _, hg, _⟩ := Kd.R_form (h.mem.hold (i := 0) rfl) (by rw [h.len]; omega)
  have hnh : n < hs.length := by rw [h.len]; exact hn
  have h1 : hs[n]? = some hs[n] := List.getElem?_eq_getElem hnh
  have h2 : ps[n]? = some ps[n] := List.getElem?_eq_getElem hn
  have hc := Mem.hd_cell h.mem 0 rfl n hnh
  have e1 : hs.getD n hz = hs[n] := by simp [List.getD, hnh]
  have e2 : ps.getD n [] = ps[n] := by simp [List.getD, hn]
  rw [e1] at hc
  rw [e2]
  refine ⟨g, cap, hs[n], by rw [h.len], h1, hc.1, hc.2, hg, ?_⟩
  have hm := h.mem
  rw [inner_split h.len h1 h2, List.append_assoc] at hm
  exact Mem.from_mid hm
theorem PgM.shut_ {w0 w : World} {v : Value} {hs : List Hd} {ps : List (List SP)} {F : List Res} {n : Nat} (hl : hs.length = ps.length) (hn : n < ps.length) (hd : Hd) (p : List SP)
    (h : Mem w0 w (row kH 32 v (hs.set n hd) :: row kP 41 hd.v p :: (inner (hs.take n) (ps.take n) ++ (inner (hs.drop (n + 1)) (ps.drop (n + 1)) ++ F)))) : PgM w0 w v (hs.set n hd) (ps.set n p) F := by
  refine ⟨by rw [List.length_set, List.length_set, hl], ?_⟩
  have h2 := Mem.to_mid h
  rw [show inner (hs.take n) (ps.take n) ++ row kP 41 hd.v p :: (inner (hs.drop (n + 1)) (ps.drop (n + 1)) ++ F) = inner (hs.set n hd) (ps.set n p) ++ F from ?_] at h2
  · exact h2
  · rw [list_set hd (by rw [hl]; exact hn), list_set p hn, inner_app (by rw [List.length_take, List.length_take, hl]), inner_cons]
    simp
/-- A pair's value is set. -/
theorem flat_val (xs : List SP) (i : Nat) (hi : i < xs.length) (val : ByteArray) : (xs.flatMap encP).set (i * 2 + 1) (.string val) = (xs.set i ⟨(rd_T41 xs i).f0, val⟩).flatMap encP := by
  induction xs generalizing i with
  | nil => simp at hi
  | cons x xs ih =>
    cases i with
    | zero => rfl
    | succ i =>
      have h := ih i (by simpa using hi)
      have e : rd_T41 (x :: xs) ((i + 1 : Nat) : Int) = rd_T41 xs (i : Int) := by unfold rd_T41; simp
      rw [e, List.set_cons_succ, List.flatMap_cons, List.flatMap_cons, ← h]
      show ([Value.string x.f0, Value.string x.f1] ++ xs.flatMap encP).set ((i + 1) * 2 + 1) _ = [Value.string x.f0, Value.string x.f1] ++ _
      rw [show (i + 1) * 2 + 1 = (i * 2 + 1) + 1 + 1 by omega]
      rfl
theorem Mem.val_put {w0 w : World} {rs : List Res} {g n c : Nat} {xs : List SP} (h : Mem w0 w rs) (k : Nat) (hk : rs[k]? = some (row kP 41 (.slice (some ⟨g, 0, none⟩) n c) xs)) (i : Nat) (hi : i < xs.length) (val : ByteArray) :
    (w.cell? ⟨g, i * 2 + 1, none⟩).isSome = true ∧ w.frozen? ⟨g, i * 2 + 1, none⟩ = false ∧ g < w.heap.size ∧ Mem w0 (w.setCell ⟨g, i * 2 + 1, none⟩ (.string val)) (rs.set k (row kP 41 (.slice (some ⟨g, 0, none⟩) n c) (xs.set i ⟨(rd_T41 xs i).f0, val⟩))) := by
  obtain ⟨cs, hsz, htk, hnx, hnc, hcm, hB⟩ := Mem.row_blk flatP h k hk
  change cs.size = c * 2 at hsz
  change cs.toList.take (n * 2) = _ at htk
  have hkl : k < rs.length := (List.getElem?_eq_some_iff.1 hk).1
  have hB0 : (rs.set k (blk g 41 cs))[k]? = some (blk g 41 cs) := List.getElem?_set_self hkl
  have hb := hB.blk_at k hB0
  have hcell : w.cell? ⟨g, i * 2 + 1, none⟩ = cs[i * 2 + 1]? := blk_cell hb _
  refine ⟨by rw [hcell, Array.getElem?_eq_getElem (by omega)]; rfl, blk_frozen hb _, blk_lt hb, ?_⟩
  have hS := hB.set k hB0 (i * 2 + 1) (.string val)
  rw [List.set_set] at hS
  have h3 := Mem.blk_row (c := c) flatP hS k (xs.set i ⟨(rd_T41 xs i).f0, val⟩) (List.getElem?_set_self hkl) (by rw [Array.size_setIfInBounds]; exact hsz) (by
    rw [Array.toList_setIfInBounds, ← flat_val xs i hi val, ← htk, List.length_set, ← hnx]
    exact (List.take_set ..)) (by rw [List.length_set, ← hnx]; exact hnc) hcm
  rw [List.set_set, List.length_set, ← hnx] at h3
  exact h3
theorem PgM.nil (w : World) : PgM w w (.slice none 0 0) [] [] [] := ⟨rfl, Mem.row_nil (Mem.nil w) kH 32⟩
theorem PgM.grow {w0 w w1 : World} {v : Value} {hs : List Hd} {ps : List (List SP)} {F : List Res} (h : PgM w0 w v hs ps F) (hb : Below w.heap.size w w1) : PgM w0 w1 v hs ps F := ⟨h.len, h.mem.grow hb⟩
theorem PgM.strip {w0 w : World} {v : Value} {hs : List Hd} {ps : List (List SP)} {F : List Res} (h : PgM w0 w v hs ps F) : PgM w0 w v hs ps [] := ⟨h.len, by
  have := h.mem
  refine this.reindex id id (fun i r hi => ⟨?_, rfl⟩)
  rw [List.append_nil] at hi
  cases i with
  | zero => exact hi
  | succ i =>
    rw [List.getElem?_cons_succ] at hi
    show (_ :: _)[i + 1]? = _
    rw [List.getElem?_cons_succ, List.getElem?_append_left (List.getElem?_eq_some_iff.1 hi).1]
    exact hi⟩
end Go.Proofs.Ytookpmdgoednfaa.Pa
