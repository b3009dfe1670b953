/-
  No cell of these rows narrows 'for every input' (looked for: loops, veiled, ifaces, maps, wideKeys, modest, calm, conditions, laid).
  DERIVED. THE GIVEN ROWS OF THIS SEAT. 4 by the template 'for every input the law returns true; each argument reads behind the call as it read before'; 0 by the template 'total and deterministic' (their statements: YtlmbdcgciieikaaTotals.lean).
  GIVEN WITH THE SEED: the statements are not yours to turn. If you find one false, say at which input.
  Laid BY PROGRAM, IN A SANDBOX (cutbox-rows.mjs): the forced cells as the released guide's own fill.sh prints them over the translation d0b3e3b252fd8947… (all of the seat's roots in one cut). By AI agents, Wed Nov 11 2026. No macro, syntax, notation, axiom, sorry.
-/
import Derived.Test.YtlmbdcgciieikaaChecked
import GoSem.Claim
import GoSem.ClaimJoined
import GoSem.ClaimMapViews
import Derived.JoinedTies
import Derived.KernelRfl
namespace Go.Proofs.Ytlmbdcgciieikaa
/- THE CELL 'sum', in the pinned program and in every row, IS THE sha256 OF THE DUMP (.gsa) THAT YtlmbdcgciieikaaProg.lean LOADS. Nothing in Lean hashes anything: it is a label: what it is worth is what the hold of that sum in a sandbox is worth. -/
noncomputable def Try.pinned : Pinned := { name := "ytlmbdcgciieikaa", sum := "d0b3e3b252fd894727162645535934e53094e6bdd0f46165f352be8493baa4d5", checked := Try.checked }
namespace Rows
def none {H : Type} : Left H := { results := [], args := [] }

/-- 'falseworklaw9.PostAdds': WHATEVER THE INPUT: true; the input reads as it did. -/
def postAddsSpec : ChangeSpec := { name := "postAdds", fn := fun _ => fun
  | [d1, d2] => { results := [.lit (.bool true)], args := [d1, d2] }
  | _ => none }
def postAddsRow : OpenClaim := { program := "ytlmbdcgciieikaa", sum := "d0b3e3b252fd894727162645535934e53094e6bdd0f46165f352be8493baa4d5", func := "falsework/falseworklaw9.PostAdds", spec := "postAdds", apart := false }
def PostAddsSaid : Prop := postAddsRow.holds Try.pinned (OpenSpec.ofChange postAddsSpec)

/-- ITS FALSE NEIGHBOUR: 'it returns false'. Refute it at one input. -/
def postAddsWrong : ChangeSpec := { name := "postAdds", fn := fun _ => fun
  | [d1, d2] => { results := [.lit (.bool false)], args := [d1, d2] }
  | _ => none }
def PostAddsWrongFalsely : Prop := postAddsRow.holds Try.pinned (OpenSpec.ofChange postAddsWrong)

/-- 'falseworklaw9.PostTakes': WHATEVER THE INPUT: true; the input reads as it did. -/
def postTakesSpec : ChangeSpec := { name := "postTakes", fn := fun _ => fun
  | [d1, d2] => { results := [.lit (.bool true)], args := [d1, d2] }
  | _ => none }
def postTakesRow : OpenClaim := { program := "ytlmbdcgciieikaa", sum := "d0b3e3b252fd894727162645535934e53094e6bdd0f46165f352be8493baa4d5", func := "falsework/falseworklaw9.PostTakes", spec := "postTakes", apart := false }
def PostTakesSaid : Prop := postTakesRow.holds Try.pinned (OpenSpec.ofChange postTakesSpec)

/-- ITS FALSE NEIGHBOUR: 'it returns false'. Refute it at one input. -/
def postTakesWrong : ChangeSpec := { name := "postTakes", fn := fun _ => fun
  | [d1, d2] => { results := [.lit (.bool false)], args := [d1, d2] }
  | _ => none }
def PostTakesWrongFalsely : Prop := postTakesRow.holds Try.pinned (OpenSpec.ofChange postTakesWrong)

/-- 'falseworklaw9.PostKeeps': WHATEVER THE INPUT: true; the input reads as it did. -/
def postKeepsSpec : ChangeSpec := { name := "postKeeps", fn := fun _ => fun
  | [d1, d2, d3] => { results := [.lit (.bool true)], args := [d1, d2, d3] }
  | _ => none }
def postKeepsRow : OpenClaim := { program := "ytlmbdcgciieikaa", sum := "d0b3e3b252fd894727162645535934e53094e6bdd0f46165f352be8493baa4d5", func := "falsework/falseworklaw9.PostKeeps", spec := "postKeeps", apart := false }
def PostKeepsSaid : Prop := postKeepsRow.holds Try.pinned (OpenSpec.ofChange postKeepsSpec)

/-- ITS FALSE NEIGHBOUR: 'it returns false'. Refute it at one input. -/
def postKeepsWrong : ChangeSpec := { name := "postKeeps", fn := fun _ => fun
  | [d1, d2, d3] => { results := [.lit (.bool false)], args := [d1, d2, d3] }
  | _ => none }
def PostKeepsWrongFalsely : Prop := postKeepsRow.holds Try.pinned (OpenSpec.ofChange postKeepsWrong)

/-- 'falseworklaw9.PostDoubles': WHATEVER THE INPUT: true; the input reads as it did. -/
def postDoublesSpec : ChangeSpec := { name := "postDoubles", fn := fun _ => fun
  | [d1, d2] => { results := [.lit (.bool true)], args := [d1, d2] }
  | _ => none }
def postDoublesRow : OpenClaim := { program := "ytlmbdcgciieikaa", sum := "d0b3e3b252fd894727162645535934e53094e6bdd0f46165f352be8493baa4d5", func := "falsework/falseworklaw9.PostDoubles", spec := "postDoubles", apart := false }
def PostDoublesSaid : Prop := postDoublesRow.holds Try.pinned (OpenSpec.ofChange postDoublesSpec)

/-- ITS FALSE NEIGHBOUR: 'it returns false'. Refute it at one input. -/
def postDoublesWrong : ChangeSpec := { name := "postDoubles", fn := fun _ => fun
  | [d1, d2] => { results := [.lit (.bool false)], args := [d1, d2] }
  | _ => none }
def PostDoublesWrongFalsely : Prop := postDoublesRow.holds Try.pinned (OpenSpec.ofChange postDoublesWrong)

/- THE SECOND FORM. 'bulk': how many values and letters a reading holds, each counted each time it is reached (what is shared counts as often as it is met; a slice's spare places count too). A statement '..UptoSaid' is the law's where the arguments, and the package variables that the reading takes, are together of bulk at most 1048576: NARROWER than '..Said'. Prove '..Said' where nothing that the law and all that it calls make is longer than what came in: it says more and counts as full. Else prove '..UptoSaid'. A law counts once. -/
mutual
def uptoBulk {H : Type} : DataW H → Nat
  | .lit (.string bytes) => bytes.length + 1
  | .lit _ => 1
  | .nil => 1
  | .ptr d => uptoBulk d + 1
  | .slice elems spare => uptoBulkAll elems + uptoBulkAll spare + 1
  | .agg parts => uptoBulkAll parts + 1
  | .iface _ d => uptoBulk d + 1
  | .map entries => uptoBulkEntries entries + 1
  | .held _ => 1
def uptoBulkAll {H : Type} : List (DataW H) → Nat
  | [] => 0
  | d :: r => uptoBulk d + uptoBulkAll r
def uptoBulkEntries {H : Type} : List (Lit × DataW H) → Nat
  | [] => 0
  | x :: r => uptoBulkEntry x + uptoBulkEntries r
def uptoBulkEntry {H : Type} : Lit × DataW H → Nat
  | (.string bytes, d) => bytes.length + uptoBulk d + 1
  | (_, d) => uptoBulk d + 1
 end
def uptoSmall : (H : Type) → List (DataW H) → Bool := fun _ ds => decide (uptoBulkAll ds ≤ 1048576)
def OpenSpec.upto (s : _root_.Go.ChangeSpec) : _root_.Go.OpenSpec := { _root_.Go.OpenSpec.ofChange s with cond := some uptoSmall }

/-- 'falseworklaw9.PostAdds', WHERE WHAT IT READS IS OF BULK AT MOST 1048576: true; the input reads as it did. -/
def postAddsUptoRow : OpenClaim := { program := "ytlmbdcgciieikaa", sum := "d0b3e3b252fd894727162645535934e53094e6bdd0f46165f352be8493baa4d5", func := "falsework/falseworklaw9.PostAdds", spec := "postAdds", apart := false, narrowed := true }
def PostAddsUptoSaid : Prop := postAddsUptoRow.holds Try.pinned (OpenSpec.upto postAddsSpec)

/-- 'falseworklaw9.PostTakes', WHERE WHAT IT READS IS OF BULK AT MOST 1048576: true; the input reads as it did. -/
def postTakesUptoRow : OpenClaim := { program := "ytlmbdcgciieikaa", sum := "d0b3e3b252fd894727162645535934e53094e6bdd0f46165f352be8493baa4d5", func := "falsework/falseworklaw9.PostTakes", spec := "postTakes", apart := false, narrowed := true }
def PostTakesUptoSaid : Prop := postTakesUptoRow.holds Try.pinned (OpenSpec.upto postTakesSpec)

/-- 'falseworklaw9.PostKeeps', WHERE WHAT IT READS IS OF BULK AT MOST 1048576: true; the input reads as it did. -/
def postKeepsUptoRow : OpenClaim := { program := "ytlmbdcgciieikaa", sum := "d0b3e3b252fd894727162645535934e53094e6bdd0f46165f352be8493baa4d5", func := "falsework/falseworklaw9.PostKeeps", spec := "postKeeps", apart := false, narrowed := true }
def PostKeepsUptoSaid : Prop := postKeepsUptoRow.holds Try.pinned (OpenSpec.upto postKeepsSpec)

/-- 'falseworklaw9.PostDoubles', WHERE WHAT IT READS IS OF BULK AT MOST 1048576: true; the input reads as it did. -/
def postDoublesUptoRow : OpenClaim := { program := "ytlmbdcgciieikaa", sum := "d0b3e3b252fd894727162645535934e53094e6bdd0f46165f352be8493baa4d5", func := "falsework/falseworklaw9.PostDoubles", spec := "postDoubles", apart := false, narrowed := true }
def PostDoublesUptoSaid : Prop := postDoublesUptoRow.holds Try.pinned (OpenSpec.upto postDoublesSpec)

end Rows
end Go.Proofs.Ytlmbdcgciieikaa
