/- A resource that tells, too, how a row within it reads; and the append of one element that holds such a row. -/
import Derived.Test.YtggbjokhniigkaaMem
namespace Go.Proofs.Ytggbjokhniigkaa.Ra
open Go.RowKit Go.Proofs.YtggbjokhniigkaaW.PrintWords Go.Proofs.YtggbjokhniigkaaW.PrintLast Go.Proofs.YtggbjokhniigkaaW.PrintMore Go.Proofs.Ytggbjokhniigkaa.Mx
set_option linter.unusedVariables false
theorem lt_kept {w w' : World} {k : Nat} (h : w'.heap[k]? = w.heap[k]?) (hk : k < w.heap.size) : k < w'.heap.size := by
  rcases Nat.lt_or_ge k w'.heap.size with g | g
  · exact g
  · rw [Array.getElem?_eq_none g, Array.getElem?_eq_getElem hk] at h
    cases h
def andF {β : Type} (r : Res) (d : Kd β) (A : Option Addr) (n : Nat) (ys : List β) : Res where
  holds w fp := r.holds w fp ∧ Kd.F d w fp A n ys
  move hm h := ⟨r.move hm h.1, fun W' hW => h.2 W' (fun k hk hl => (hW k hk (lt_kept (hm k hk) hl)).trans (hm k hk))⟩
  mono hm h := ⟨r.mono hm h.1, fun W' hW => h.2 W' (fun k hk hl => hW k (hm k hk) hl)⟩
theorem F_row {β : Type} {d : Kd β} {e : Nat} {A : Option Addr} {n c : Nat} {ys : List β} {w : World} {f : Nat → Prop} (h : (row d e (.slice A n c) ys).holds w f) : Kd.F d w f A ys.length ys :=
  fun W' hW => (Kd.R_reads' (Kd.R_move (Kd.R_bound h) (fun k hk => hW k hk.1 hk.2.2.1))).2.2
theorem Mem.andF_C {w0 w : World} {rs : List Res} {β : Type} {r : Res} {d : Kd β} {A : Option Addr} {n : Nat} {ys : List β} (h : Mem w0 w rs) (i : Nat) (hi : rs[i]? = some (andF r d A n ys)) : d.C w A n ys :=
  (h.hold hi).2 w (fun _ _ _ => rfl)
section
variable {P : Program} {ops : Array Oper} {rest : List Oper} {o : Oper} {a : Act} {Q : Exit → Act → World → Prop} {Kc : Act → World → Prop} {α β : Type}
theorem app1F (d : Kd α) (dd : Kd β) {w0 W : World} {rs : List Res} (hM : Mem w0 W rs) (i j b : Nat) (v : Value) (xs : List α) (p : α) (cs : List Value) (A : Option Addr) (n : Nat) (ys : List β) (g c : Nat) (hij : i ≠ j) (hgd : o.guard = none) (s x : Operand) (t e : TypeId) (z : Value) (bytes : Nat)
    (ho : o.op = .call { callee := .builtin .append, args := #[s, x], argTypes := #[t, t] })
    (ht : P.underlying t = some (.slice e)) (hinfo : (P.info? e).map (fun i => (i.zero, i.size, i.bytes)) = some (some z, d.sz, bytes)) (hz : z.cells.size = d.sz) (hs0 : 0 < d.sz) (hb0 : 0 < bytes)
    (hs : a.eval s = v) (hx : a.eval x = .slice (some ⟨g, 0, none⟩) 1 c)
    (hi : rs[i]? = some (Mx.row d e v xs)) (hj : rs[j]? = some (andF (Mx.el d p cs) dd A n ys)) (hb : rs[b]? = some (Mx.blk g e cs.toArray)) (hl : (xs.length + 1) * bytes ≤ 140737488355328)
    (h : ∀ v1 w1, Mem w0 w1 ((rs.set i (andF (Mx.row d e v1 (xs ++ [p])) dd A n ys)).set j emp) → wpList P ops Q rest (a.put o.dst v1) w1) : wpList P ops Q (o :: rest) a W := by
  have hblk := hM.blk_at b hb
  obtain ⟨f, q, h1, ⟨hq, hF⟩, h2, h2q, hd, h3⟩ := hM.take2 hi hj hij
  have hK := d.K_of_M hq
  refine Kd.R_append_rows d (w0 := W) 0 hgd s x t e z bytes ho ht hinfo hz hs0 hb0 v xs [p] (some ⟨g, 0, none⟩) 1 c (fun k => f k ∨ q k ∨ W.heap.size ≤ k) q hs hx (Kd.R_mono h1 (fun _ hk => .inl hk)) (reads_one p hblk (d.K_len hK)) (fun x' cs' hx' => by obtain ⟨rfl, rfl⟩ := hx'; exact hq) (fun k hk => ⟨.inr (.inl hk), fun he => hd k (h1.1 k he.symm) hk⟩) (fun _ hk => .inr (.inr hk)) (Below.refl _ _) (Nat.zero_le _) hl ?_
  intro v1 w1 hr hb1 hg _
  refine h v1 w1 (h3 w1 _ hg.os hg.tape hg.output hg.size (fun k hk hf _ => hg.block k hk (fun he => hf (h1.1 k he.symm))) ⟨?_, ?_⟩)
  · exact Kd.R_mono (Kd.R_bound hr) (fun k hk => hk.1.imp id (fun hh => hh.imp id (fun hh => ⟨hh, hk.2.2.1⟩)))
  · intro W' hW
    have hk1 := fun k hk => hg.block k (h2q k hk).2 (fun he => hd k (h1.1 k he.symm) hk)
    exact hF W' (fun k hk hlt => (hW k (.inr (.inl hk)) (lt_kept (hk1 k hk) hlt)).trans (hk1 k hk))
end
end Go.Proofs.Ytggbjokhniigkaa.Ra
