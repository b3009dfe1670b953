/- An element is taken out of a row: 'append(s[:k], s[k+1:]...)', and 'clear' of the one place that is left over. -/
import Derived.Test.YtookpmdgoednfaaMem
import Derived.Lib.SliceRun
namespace Go.Proofs.Ytookpmdgoednfaa.Mx
open Go.RowKit Go.Proofs.YtookpmdgoednfaaW.PrintWords Go.Proofs.YtookpmdgoednfaaW.PrintLast Go.Proofs.YtookpmdgoednfaaW.PrintMore
variable {P : Program}
theorem zeroCells_one (z : Value) : (Builtin.zeroCells z.cells 1).toList = z.cells.toList := by
  unfold Builtin.zeroCells
  apply List.ext_getElem?
  intro i
  by_cases h : i < z.cells.size
  · simp [h, Nat.mod_eq_of_lt h]
  · simp [h]
theorem run_clear_one (w : World) (t e ty : TypeId) (z : Value) (ht : P.underlying t = some (.slice e)) (hv : ∀ w, (zeroValue e).run P w = .ok z w) (h1 : ∀ v ∈ z.cells.toList, v.oneCell' = true) (b o c : Nat)
    (hc : ∀ j, j < z.cells.size → (w.cell? ⟨b, o + j, none⟩).isSome = true) (hf : ∀ j, j < z.cells.size → w.frozen? ⟨b, o + j, none⟩ = false) :
    (Builtin.clear_ #[t] ty #[.slice (some ⟨b, o, none⟩) 1 c]).run P w = .ok (.tuple #[]) (w.setCells b o z.cells.toList) := by
  have hst := run_storeCells_cells (P := P) b o z.cells.toList 0 w (by simpa using hc) (by simpa using hf) h1
  simp only [Nat.add_zero] at hst
  simp [Builtin.clear_, run_underlying ht, hv, zeroCells_one, hst]
/-- What lies behind a row's elements may be set. -/
theorem R_tail {α : Type} (d : Kd α) {W : World} {base e g n c : Nat} {ok : Nat → Prop} {xs : List α} (HO : d.R e W base ok (.slice (some ⟨g, 0, none⟩) n c) xs) (hn : n < c) (zs : List Value) (hz : zs.length = d.sz) :
    (∀ j, j < d.sz → (W.cell? ⟨g, n * d.sz + j, none⟩).isSome = true ∧ W.frozen? ⟨g, n * d.sz + j, none⟩ = false) ∧
    d.R e (W.setCells g (n * d.sz) zs) base ok (.slice (some ⟨g, 0, none⟩) n c) xs ∧ W.grownBy (W.setCells g (n * d.sz) zs) (some g) := by
  obtain ⟨hnx, hnc, _⟩ := Kd.R_reads' HO
  obtain ⟨hok, inner, hown, hr⟩ := HO
  have hin : inner.length = n * d.sz := by rw [hr.1, hnx]
  rcases hown.2 with ⟨hv, _⟩ | ⟨g', cap', cur, hv, hb, hh, hl, hcm, hcs, htake⟩
  · cases hv
  injection hv with ha _ hc
  injection ha with ha
  injection ha with hg
  subst hg; subst hc
  have hsz : (n + 1) * d.sz ≤ c * d.sz := Nat.mul_le_mul_right _ hn
  have hsz2 : (n + 1) * d.sz = n * d.sz + d.sz := Nat.succ_mul _ _
  have hfit : n * d.sz + zs.length ≤ cur.size := by omega
  obtain ⟨cur', h3, h4, h5⟩ := setCells_row zs (n * d.sz) W cur hh hfit
  obtain ⟨s1, s2, s3, s4⟩ := setCells_same g zs (n * d.sz) W
  have hfar : ∀ k', k' ≠ g → (W.setCells g (n * d.sz) zs).heap[k']? = W.heap[k']? := fun k' hk' => setCells_far zs _ k' hk'
  have hgo : some g = (Value.slice (some ⟨g, 0, none⟩) n c).ownBlock := by simp [Value.ownBlock]
  refine ⟨fun j hj => ⟨?_, blk_frozen hh _⟩, ⟨hok, inner, ⟨hown.1, .inr ⟨g, c, cur', by rw [hnx], hb, h3, hl, hcm, by rw [h4, hcs], ?_⟩⟩, ?_⟩, ⟨s1, s2, s3, by rw [s4]; exact Nat.le_refl _, fun k' _ hk' => hfar k' (fun he => hk' (by rw [he]))⟩⟩
  · rw [cell_of_row W g _ cur e (0, 0) hh]
    simp
    omega
  · rw [h5, ← htake, ← hnx, List.append_assoc, List.take_append_of_le_length (by rw [List.length_take, Array.length_toList]; omega), List.take_take, Nat.min_self]
  · exact hr.imp_ (fun p q hp => d.M_move (fun k' hk' => hfar k' (fun he => hk'.2 (by rw [← hgo, he]))) hp)
section
variable {ops : Array Oper} {rest : List Oper} {o : Oper} {a : Act} {Q : Exit → Act → World → Prop} {Kc : Act → World → Prop}
theorem Mem.delete_step {α : Type} (d : Kd α) {w0 W : World} {rs : List Res} (hM : Mem w0 W rs) (i : Nat) (hw : Region.wanted o (yielded ops a.tmps) = true) (s x : Operand) (t e : TypeId) (ho : o.op = .call { callee := .builtin .append, args := #[s, x], argTypes := #[t, t] })
    (ht : P.underlying t = some (.slice e)) (hinfo : (P.info? e).map (·.size) = some d.sz) {g n c k m c2 : Nat} {A : Option Addr} {xs : List α}
    (hs : a.eval s = .slice (some ⟨g, 0, none⟩) k c) (hx : a.eval x = .slice A m c2) (hA : A = if c = k + 1 then some ⟨g, 0, none⟩ else (some (⟨g, 0, none⟩ : Addr)).map (·.add ((k + 1) * d.sz))) (hm : m = n - (k + 1))
    (hi : rs[i]? = some (Mx.row d e (.slice (some ⟨g, 0, none⟩) n c) xs)) (hk : k < n)
    (h : ∀ w1, Mem w0 w1 (rs.set i (Mx.row d e (.slice (some ⟨g, 0, none⟩) (n - 1) c) (xs.eraseIdx k))) → Kc (a.put o.dst (.slice (some ⟨g, 0, none⟩) (n - 1) c)) w1) :
    if Region.wanted o (yielded ops a.tmps) = true then Oper.wp P o a W Kc Q else Kc (a.put o.dst undef) W := by
  obtain ⟨f, h1, h2, h3⟩ := hM.take1 hi
  refine Kd.R_delete_step d (w0 := W) 0 hw s x t e ho ht hinfo hs hx hA hm h1 hk (Below.refl _ _) (Nat.zero_le _) ?_
  intro w1 hr _ hg
  refine h w1 (h3 w1 _ hg.os hg.tape hg.output hg.size (fun k hk hf => hg.block k hk (fun he => hf (h1.1 k (by simpa [Value.ownBlock] using he.symm)))) ?_)
  exact Kd.R_mono hr (fun _ hk => .inl hk)
theorem Mem.clear_run {α : Type} (d : Kd α) {w0 W : World} {rs : List Res} (hM : Mem w0 W rs) (i : Nat) (t e ty : TypeId) (z : Value) (ht : P.underlying t = some (.slice e)) (hv : ∀ w, (zeroValue e).run P w = .ok z w) (h1 : ∀ v ∈ z.cells.toList, v.oneCell' = true) (hz : z.cells.size = d.sz) {g n c c2 : Nat} {xs : List α}
    (hi : rs[i]? = some (Mx.row d e (.slice (some ⟨g, 0, none⟩) n c) xs)) (hn : n < c) (off : Nat) (ho : off = n * d.sz) :
    ∃ w1, (Builtin.clear_ #[t] ty #[.slice (some ⟨g, off, none⟩) 1 c2]).run P W = .ok (.tuple #[]) w1 ∧ Mem w0 w1 rs := by
  subst ho
  obtain ⟨hc, _, hg⟩ := R_tail d (hM.hold hi) hn z.cells.toList (by simpa using hz)
  refine ⟨_, run_clear_one W t e ty z ht hv h1 g _ c2 (fun j hj => (hc j (by omega)).1) (fun j hj => (hc j (by omega)).2), ?_⟩
  have := hM.grown1 hi (v1 := .slice (some ⟨g, 0, none⟩) n c) (xs1 := xs) (w1 := W.setCells g (n * d.sz) z.cells.toList) (by simpa [Value.ownBlock] using hg) (fun f hf => Kd.R_mono (R_tail d hf hn z.cells.toList (by simpa using hz)).2.1 (fun _ hk => .inl hk))
  have e : rs.set i (Mx.row d e (.slice (some ⟨g, 0, none⟩) n c) xs) = rs := by
    apply List.ext_getElem?
    intro j
    by_cases h : j = i
    · subst h
      rw [List.getElem?_set_self (List.getElem?_eq_some_iff.1 hi).1, hi]
    · rw [List.getElem?_set_ne (fun he => h he.symm)]
  rw [e] at this
  exact this
end
end Go.Proofs.Ytookpmdgoednfaa.Mx
