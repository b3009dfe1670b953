/- Whatever is put and let go, PageLists answers true, and what was handed in reads as it did. No condition. -/
import Derived.Test.YtookpmdgoednfaaRows
import Derived.Test.YtookpmdgoednfaaOl
import Derived.Test.YtookpmdgoednfaaLw
import Derived.ChangeMaps
import Derived.ChangeMaps5
import Derived.Deep.Slices
namespace Go.Proofs.Ytookpmdgoednfaa.LawLists
open Go.ChangeShapes Go.WideShapes Go.ChangeAt Go.RowKit Go.Proofs.YtookpmdgoednfaaW.PrintWords Go.Proofs.Ytookpmdgoednfaa.Ol Go.Proofs.Ytookpmdgoednfaa.Lw Go.Proofs.Ytookpmdgoednfaa.Mx
set_option linter.unusedVariables false
theorem own : ownKnob Try.prog.godebug = none := by kernel_rfl
theorem laidOut : laidOutB Try.prog = true := by kernel_rfl
set_option maxRecDepth 100000 in
theorem lifted (os : Os) (started : os.Started) (H : Type) (enc : TypeId × Value → H) :
    ReturnsInHanded {} Try.checked os 7 .any (Rows.pageListsSpec.pre6 enc Try.prog Try.f7 Rows.pageListsRow.domain false) (Rows.pageListsSpec.post enc Try.prog Try.f7 false true false false) := by
  refine returnsInHanded_of_change (C := Try.checked) own started (by kernel_rfl) Try.func7
    (ChangeSpec.witness6 (enc := enc) (C := Try.checked) false ⟨#[], #[.slice none 0 0], []⟩ 8 (by kernel_rfl) (by kernel_rfl) (by kernel_rfl) (by kernel_rfl)) ?_
  intro W base args ds gs before hval0 hW hcnd _
  have hval : ∀ (j : Nat) t v, Try.f7.params[j]? = some t → args[j]? = some v → Value.okWide Try.prog W .any base t v := hval0
  have hW' := hW
  obtain ⟨p, q, hA0, hV, rfl, hfz, hnd⟩ := hW
  have hA : DataW.TrodAll enc Try.prog W 0 (fun _ => true) true Try.f7.params.toList args.toList ds p := hA0
  rw [Try.params7] at hA hval
  obtain ⟨v0, d0, rfl, rfl, h0⟩ := trodAll_one hA
  obtain ⟨rfl, rfl⟩ := trodVars_none hV
  have k0 := h0
  have lt0 : ∀ x ∈ p, x.block < W.heap.size := by obtain ⟨m, hm⟩ := k0; exact DataW.trod_lt m _ _ _ hm
  obtain ⟨A0, c0, l0, rfl, hc0, hl0⟩ := open_acts (hval 0 37 v0 rfl rfl) h0
  clear hA0 hval0
  refine (lists_calls A0 c0 l0 W hl0 hc0).mono fun e W' ⟨he, hM⟩ => ?_
  subst he
  have bel := hM.below
  exact ⟨_, rfl, _, _, _, [], _, [], hW', trodAll_mk1 (shut_bool Try.underlying4 _), (trodAll_cons_mk (Below.trod laidOut (by kernel_rfl) (of_decide_eq_true (by kernel_rfl)) k0 bel lt0) trodAll_mk0), rfl, bel.frame _, fun h => by cases h⟩
theorem over : Rows.pageListsRow.holds Try.pinned (OpenSpec.ofChange Rows.pageListsSpec) :=
  OpenClaim.holds_of_wide 7 Try.f7 rfl rfl rfl rfl rfl rfl rfl ⟨rfl, rfl, rfl, rfl, rfl⟩ rfl rfl rfl rfl rfl (by kernel_rfl) Try.func7 (by kernel_rfl)
    (of_decide_eq_true (by kernel_rfl)) (by unfold Func.isWrapper; first | (rw [if_pos (by decide +kernel)]; kernel_rfl) | (rw [if_neg (by decide +kernel)]; exact ⟨rfl, rfl⟩))
    (fun os started H enc _ => lifted os started H enc)
theorem proved : Rows.PageListsSaid := over
#print axioms proved
end Go.Proofs.Ytookpmdgoednfaa.LawLists
namespace Go.Proofs.Ytookpmdgoednfaa
theorem pageLists_holds : Rows.PageListsSaid := LawLists.proved
end Go.Proofs.Ytookpmdgoednfaa
