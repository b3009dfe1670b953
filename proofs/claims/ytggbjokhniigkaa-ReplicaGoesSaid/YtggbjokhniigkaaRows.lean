/-
  No cell of these rows narrows 'for every input' (looked for: loops, veiled, ifaces, maps, wideKeys, modest, calm, conditions, laid).
  DERIVED. THE GIVEN ROWS OF THIS SEAT. 12 by the template 'for every input the law returns true; each argument reads behind the call as it read before'; 0 by the template 'total and deterministic' (their statements: YtggbjokhniigkaaTotals.lean).
  GIVEN WITH THE SEED: the statements are not yours to turn. If you find one false, say at which input.
  Laid BY PROGRAM, IN A SANDBOX (cutbox-rows.mjs): the forced cells as the released guide's own fill.sh prints them over the translation a15c105d59560173… (all of the seat's roots in one cut). By AI agents, Wed Nov 11 2026. No macro, syntax, notation, axiom, sorry.
-/
import Derived.Test.YtggbjokhniigkaaChecked
import GoSem.Claim
import GoSem.ClaimJoined
import GoSem.ClaimMapViews
import Derived.JoinedTies
import Derived.KernelRfl
namespace Go.Proofs.Ytggbjokhniigkaa
/- THE CELL 'sum', in the pinned program and in every row, IS THE sha256 OF THE DUMP (.gsa) THAT YtggbjokhniigkaaProg.lean LOADS. Nothing in Lean hashes anything: it is a label: what it is worth is what the hold of that sum in a sandbox is worth. -/
noncomputable def Try.pinned : Pinned := { name := "ytggbjokhniigkaa", sum := "a15c105d59560173cd7b2578602664577e6a123b6a5f542f2bef72bc2a48467c", checked := Try.checked }
namespace Rows
def none {H : Type} : Left H := { results := [], args := [] }

/-- 'falseworklaw9.PostAdds': WHATEVER THE INPUT: true; the input reads as it did. -/
def postAddsSpec : ChangeSpec := { name := "postAdds", fn := fun _ => fun
  | [d1, d2] => { results := [.lit (.bool true)], args := [d1, d2] }
  | _ => none }
def postAddsRow : OpenClaim := { program := "ytggbjokhniigkaa", sum := "a15c105d59560173cd7b2578602664577e6a123b6a5f542f2bef72bc2a48467c", func := "falsework/falseworklaw9.PostAdds", spec := "postAdds", apart := false }
def PostAddsSaid : Prop := postAddsRow.holds Try.pinned (OpenSpec.ofChange postAddsSpec)

/-- ITS FALSE NEIGHBOUR: 'it returns false'. Refute it at one input. -/
def postAddsWrong : ChangeSpec := { name := "postAdds", fn := fun _ => fun
  | [d1, d2] => { results := [.lit (.bool false)], args := [d1, d2] }
  | _ => none }
def PostAddsWrongFalsely : Prop := postAddsRow.holds Try.pinned (OpenSpec.ofChange postAddsWrong)

/-- 'falseworklaw9.PostTakes': WHATEVER THE INPUT: true; the input reads as it did. -/
def postTakesSpec : ChangeSpec := { name := "postTakes", fn := fun _ => fun
  | [d1, d2] => { results := [.lit (.bool true)], args := [d1, d2] }
  | _ => none }
def postTakesRow : OpenClaim := { program := "ytggbjokhniigkaa", sum := "a15c105d59560173cd7b2578602664577e6a123b6a5f542f2bef72bc2a48467c", func := "falsework/falseworklaw9.PostTakes", spec := "postTakes", apart := false }
def PostTakesSaid : Prop := postTakesRow.holds Try.pinned (OpenSpec.ofChange postTakesSpec)

/-- ITS FALSE NEIGHBOUR: 'it returns false'. Refute it at one input. -/
def postTakesWrong : ChangeSpec := { name := "postTakes", fn := fun _ => fun
  | [d1, d2] => { results := [.lit (.bool false)], args := [d1, d2] }
  | _ => none }
def PostTakesWrongFalsely : Prop := postTakesRow.holds Try.pinned (OpenSpec.ofChange postTakesWrong)

/-- 'falseworklaw9.PostKeeps': WHATEVER THE INPUT: true; the input reads as it did. -/
def postKeepsSpec : ChangeSpec := { name := "postKeeps", fn := fun _ => fun
  | [d1, d2, d3] => { results := [.lit (.bool true)], args := [d1, d2, d3] }
  | _ => none }
def postKeepsRow : OpenClaim := { program := "ytggbjokhniigkaa", sum := "a15c105d59560173cd7b2578602664577e6a123b6a5f542f2bef72bc2a48467c", func := "falsework/falseworklaw9.PostKeeps", spec := "postKeeps", apart := false }
def PostKeepsSaid : Prop := postKeepsRow.holds Try.pinned (OpenSpec.ofChange postKeepsSpec)

/-- ITS FALSE NEIGHBOUR: 'it returns false'. Refute it at one input. -/
def postKeepsWrong : ChangeSpec := { name := "postKeeps", fn := fun _ => fun
  | [d1, d2, d3] => { results := [.lit (.bool false)], args := [d1, d2, d3] }
  | _ => none }
def PostKeepsWrongFalsely : Prop := postKeepsRow.holds Try.pinned (OpenSpec.ofChange postKeepsWrong)

/-- 'falseworklaw9.PostDoubles': WHATEVER THE INPUT: true; the input reads as it did. -/
def postDoublesSpec : ChangeSpec := { name := "postDoubles", fn := fun _ => fun
  | [d1, d2] => { results := [.lit (.bool true)], args := [d1, d2] }
  | _ => none }
def postDoublesRow : OpenClaim := { program := "ytggbjokhniigkaa", sum := "a15c105d59560173cd7b2578602664577e6a123b6a5f542f2bef72bc2a48467c", func := "falsework/falseworklaw9.PostDoubles", spec := "postDoubles", apart := false }
def PostDoublesSaid : Prop := postDoublesRow.holds Try.pinned (OpenSpec.ofChange postDoublesSpec)

/-- ITS FALSE NEIGHBOUR: 'it returns false'. Refute it at one input. -/
def postDoublesWrong : ChangeSpec := { name := "postDoubles", fn := fun _ => fun
  | [d1, d2] => { results := [.lit (.bool false)], args := [d1, d2] }
  | _ => none }
def PostDoublesWrongFalsely : Prop := postDoublesRow.holds Try.pinned (OpenSpec.ofChange postDoublesWrong)

/-- 'falseworklaw11.ReplicaNews': WHATEVER THE INPUT: true; the input reads as it did. -/
def replicaNewsSpec : ChangeSpec := { name := "replicaNews", fn := fun _ => fun
  | [d1, d2] => { results := [.lit (.bool true)], args := [d1, d2] }
  | _ => none }
def replicaNewsRow : OpenClaim := { program := "ytggbjokhniigkaa", sum := "a15c105d59560173cd7b2578602664577e6a123b6a5f542f2bef72bc2a48467c", func := "falsework/falseworklaw11.ReplicaNews", spec := "replicaNews", apart := false }
def ReplicaNewsSaid : Prop := replicaNewsRow.holds Try.pinned (OpenSpec.ofChange replicaNewsSpec)

/-- ITS FALSE NEIGHBOUR: 'it returns false'. Refute it at one input. -/
def replicaNewsWrong : ChangeSpec := { name := "replicaNews", fn := fun _ => fun
  | [d1, d2] => { results := [.lit (.bool false)], args := [d1, d2] }
  | _ => none }
def ReplicaNewsWrongFalsely : Prop := replicaNewsRow.holds Try.pinned (OpenSpec.ofChange replicaNewsWrong)

/-- 'falseworklaw11.ReplicaMays': WHATEVER THE INPUT: true; the input reads as it did. -/
def replicaMaysSpec : ChangeSpec := { name := "replicaMays", fn := fun _ => fun
  | [d] => { results := [.lit (.bool true)], args := [d] }
  | _ => none }
def replicaMaysRow : OpenClaim := { program := "ytggbjokhniigkaa", sum := "a15c105d59560173cd7b2578602664577e6a123b6a5f542f2bef72bc2a48467c", func := "falsework/falseworklaw11.ReplicaMays", spec := "replicaMays", apart := false }
def ReplicaMaysSaid : Prop := replicaMaysRow.holds Try.pinned (OpenSpec.ofChange replicaMaysSpec)

/-- ITS FALSE NEIGHBOUR: 'it returns false'. Refute it at one input. -/
def replicaMaysWrong : ChangeSpec := { name := "replicaMays", fn := fun _ => fun
  | [d] => { results := [.lit (.bool false)], args := [d] }
  | _ => none }
def ReplicaMaysWrongFalsely : Prop := replicaMaysRow.holds Try.pinned (OpenSpec.ofChange replicaMaysWrong)

/-- 'falseworklaw11.ReplicaProposes': WHATEVER THE INPUT: true; the input reads as it did. -/
def replicaProposesSpec : ChangeSpec := { name := "replicaProposes", fn := fun _ => fun
  | [d1, d2, d3] => { results := [.lit (.bool true)], args := [d1, d2, d3] }
  | _ => none }
def replicaProposesRow : OpenClaim := { program := "ytggbjokhniigkaa", sum := "a15c105d59560173cd7b2578602664577e6a123b6a5f542f2bef72bc2a48467c", func := "falsework/falseworklaw11.ReplicaProposes", spec := "replicaProposes", apart := false }
def ReplicaProposesSaid : Prop := replicaProposesRow.holds Try.pinned (OpenSpec.ofChange replicaProposesSpec)

/-- ITS FALSE NEIGHBOUR: 'it returns false'. Refute it at one input. -/
def replicaProposesWrong : ChangeSpec := { name := "replicaProposes", fn := fun _ => fun
  | [d1, d2, d3] => { results := [.lit (.bool false)], args := [d1, d2, d3] }
  | _ => none }
def ReplicaProposesWrongFalsely : Prop := replicaProposesRow.holds Try.pinned (OpenSpec.ofChange replicaProposesWrong)

/-- 'falseworklaw11.ReplicaSuspects': WHATEVER THE INPUT: true; the input reads as it did. -/
def replicaSuspectsSpec : ChangeSpec := { name := "replicaSuspects", fn := fun _ => fun
  | [d] => { results := [.lit (.bool true)], args := [d] }
  | _ => none }
def replicaSuspectsRow : OpenClaim := { program := "ytggbjokhniigkaa", sum := "a15c105d59560173cd7b2578602664577e6a123b6a5f542f2bef72bc2a48467c", func := "falsework/falseworklaw11.ReplicaSuspects", spec := "replicaSuspects", apart := false }
def ReplicaSuspectsSaid : Prop := replicaSuspectsRow.holds Try.pinned (OpenSpec.ofChange replicaSuspectsSpec)

/-- ITS FALSE NEIGHBOUR: 'it returns false'. Refute it at one input. -/
def replicaSuspectsWrong : ChangeSpec := { name := "replicaSuspects", fn := fun _ => fun
  | [d] => { results := [.lit (.bool false)], args := [d] }
  | _ => none }
def ReplicaSuspectsWrongFalsely : Prop := replicaSuspectsRow.holds Try.pinned (OpenSpec.ofChange replicaSuspectsWrong)

/-- 'falseworklaw11.ReplicaGoes': WHATEVER THE INPUT: true; the input reads as it did. -/
def replicaGoesSpec : ChangeSpec := { name := "replicaGoes", fn := fun _ => fun
  | [d1, d2] => { results := [.lit (.bool true)], args := [d1, d2] }
  | _ => none }
def replicaGoesRow : OpenClaim := { program := "ytggbjokhniigkaa", sum := "a15c105d59560173cd7b2578602664577e6a123b6a5f542f2bef72bc2a48467c", func := "falsework/falseworklaw11.ReplicaGoes", spec := "replicaGoes", inPlace := ["slices.overlaps[int]"], unfollowed := true, recurses := true, apart := false }
def ReplicaGoesSaid : Prop := replicaGoesRow.holds Try.pinned (OpenSpec.ofChange replicaGoesSpec)

/-- ITS FALSE NEIGHBOUR: 'it returns false'. Refute it at one input. -/
def replicaGoesWrong : ChangeSpec := { name := "replicaGoes", fn := fun _ => fun
  | [d1, d2] => { results := [.lit (.bool false)], args := [d1, d2] }
  | _ => none }
def ReplicaGoesWrongFalsely : Prop := replicaGoesRow.holds Try.pinned (OpenSpec.ofChange replicaGoesWrong)

/-- 'falseworklaw12.GroupCalm': WHATEVER THE INPUT: true; the input reads as it did. -/
def groupCalmSpec : ChangeSpec := { name := "groupCalm", fn := fun _ => fun
  | [d1, d2] => { results := [.lit (.bool true)], args := [d1, d2] }
  | _ => none }
def groupCalmRow : OpenClaim := { program := "ytggbjokhniigkaa", sum := "a15c105d59560173cd7b2578602664577e6a123b6a5f542f2bef72bc2a48467c", func := "falsework/falseworklaw12.GroupCalm", spec := "groupCalm", inPlace := ["slices.overlaps[int]"], unfollowed := true, recurses := true, apart := false }
def GroupCalmSaid : Prop := groupCalmRow.holds Try.pinned (OpenSpec.ofChange groupCalmSpec)

/-- ITS FALSE NEIGHBOUR: 'it returns false'. Refute it at one input. -/
def groupCalmWrong : ChangeSpec := { name := "groupCalm", fn := fun _ => fun
  | [d1, d2] => { results := [.lit (.bool false)], args := [d1, d2] }
  | _ => none }
def GroupCalmWrongFalsely : Prop := groupCalmRow.holds Try.pinned (OpenSpec.ofChange groupCalmWrong)

/-- 'falseworklaw12.GroupLasts': WHATEVER THE INPUT: true; the input reads as it did. -/
def groupLastsSpec : ChangeSpec := { name := "groupLasts", fn := fun _ => fun
  | [d1, d2] => { results := [.lit (.bool true)], args := [d1, d2] }
  | _ => none }
def groupLastsRow : OpenClaim := { program := "ytggbjokhniigkaa", sum := "a15c105d59560173cd7b2578602664577e6a123b6a5f542f2bef72bc2a48467c", func := "falsework/falseworklaw12.GroupLasts", spec := "groupLasts", inPlace := ["slices.overlaps[int]"], unfollowed := true, recurses := true, apart := false }
def GroupLastsSaid : Prop := groupLastsRow.holds Try.pinned (OpenSpec.ofChange groupLastsSpec)

/-- ITS FALSE NEIGHBOUR: 'it returns false'. Refute it at one input. -/
def groupLastsWrong : ChangeSpec := { name := "groupLasts", fn := fun _ => fun
  | [d1, d2] => { results := [.lit (.bool false)], args := [d1, d2] }
  | _ => none }
def GroupLastsWrongFalsely : Prop := groupLastsRow.holds Try.pinned (OpenSpec.ofChange groupLastsWrong)

/-- 'falseworklaw12.GroupNil': WHATEVER THE INPUT: true; the input reads as it did. -/
def groupNilSpec : ChangeSpec := { name := "groupNil", fn := fun _ => fun
  | [d1, d2, d3] => { results := [.lit (.bool true)], args := [d1, d2, d3] }
  | _ => none }
def groupNilRow : OpenClaim := { program := "ytggbjokhniigkaa", sum := "a15c105d59560173cd7b2578602664577e6a123b6a5f542f2bef72bc2a48467c", func := "falsework/falseworklaw12.GroupNil", spec := "groupNil", inPlace := ["slices.overlaps[int]"], unfollowed := true, recurses := true, apart := false }
def GroupNilSaid : Prop := groupNilRow.holds Try.pinned (OpenSpec.ofChange groupNilSpec)

/-- ITS FALSE NEIGHBOUR: 'it returns false'. Refute it at one input. -/
def groupNilWrong : ChangeSpec := { name := "groupNil", fn := fun _ => fun
  | [d1, d2, d3] => { results := [.lit (.bool false)], args := [d1, d2, d3] }
  | _ => none }
def GroupNilWrongFalsely : Prop := groupNilRow.holds Try.pinned (OpenSpec.ofChange groupNilWrong)

/- THE SECOND FORM. 'bulk': how many values and letters a reading holds, each counted each time it is reached (what is shared counts as often as it is met; a slice's spare places count too). A statement '..UptoSaid' is the law's where the arguments, and the package variables that the reading takes, are together of bulk at most 1048576: NARROWER than '..Said'. Prove '..Said' where nothing that the law and all that it calls make is longer than what came in: it says more and counts as full. Else prove '..UptoSaid'. A law counts once. -/
mutual
def uptoBulk {H : Type} : DataW H → Nat
  | .lit (.string bytes) => bytes.length + 1
  | .lit _ => 1
  | .nil => 1
  | .ptr d => uptoBulk d + 1
  | .slice elems spare => uptoBulkAll elems + uptoBulkAll spare + 1
  | .agg parts => uptoBulkAll parts + 1
  | .iface _ d => uptoBulk d + 1
  | .map entries => uptoBulkEntries entries + 1
  | .held _ => 1
def uptoBulkAll {H : Type} : List (DataW H) → Nat
  | [] => 0
  | d :: r => uptoBulk d + uptoBulkAll r
def uptoBulkEntries {H : Type} : List (Lit × DataW H) → Nat
  | [] => 0
  | x :: r => uptoBulkEntry x + uptoBulkEntries r
def uptoBulkEntry {H : Type} : Lit × DataW H → Nat
  | (.string bytes, d) => bytes.length + uptoBulk d + 1
  | (_, d) => uptoBulk d + 1
 end
def uptoSmall : (H : Type) → List (DataW H) → Bool := fun _ ds => decide (uptoBulkAll ds ≤ 1048576)
def OpenSpec.upto (s : _root_.Go.ChangeSpec) : _root_.Go.OpenSpec := { _root_.Go.OpenSpec.ofChange s with cond := some uptoSmall }

/-- 'falseworklaw9.PostAdds', WHERE WHAT IT READS IS OF BULK AT MOST 1048576: true; the input reads as it did. -/
def postAddsUptoRow : OpenClaim := { program := "ytggbjokhniigkaa", sum := "a15c105d59560173cd7b2578602664577e6a123b6a5f542f2bef72bc2a48467c", func := "falsework/falseworklaw9.PostAdds", spec := "postAdds", apart := false, narrowed := true }
def PostAddsUptoSaid : Prop := postAddsUptoRow.holds Try.pinned (OpenSpec.upto postAddsSpec)

/-- 'falseworklaw9.PostTakes', WHERE WHAT IT READS IS OF BULK AT MOST 1048576: true; the input reads as it did. -/
def postTakesUptoRow : OpenClaim := { program := "ytggbjokhniigkaa", sum := "a15c105d59560173cd7b2578602664577e6a123b6a5f542f2bef72bc2a48467c", func := "falsework/falseworklaw9.PostTakes", spec := "postTakes", apart := false, narrowed := true }
def PostTakesUptoSaid : Prop := postTakesUptoRow.holds Try.pinned (OpenSpec.upto postTakesSpec)

/-- 'falseworklaw9.PostKeeps', WHERE WHAT IT READS IS OF BULK AT MOST 1048576: true; the input reads as it did. -/
def postKeepsUptoRow : OpenClaim := { program := "ytggbjokhniigkaa", sum := "a15c105d59560173cd7b2578602664577e6a123b6a5f542f2bef72bc2a48467c", func := "falsework/falseworklaw9.PostKeeps", spec := "postKeeps", apart := false, narrowed := true }
def PostKeepsUptoSaid : Prop := postKeepsUptoRow.holds Try.pinned (OpenSpec.upto postKeepsSpec)

/-- 'falseworklaw9.PostDoubles', WHERE WHAT IT READS IS OF BULK AT MOST 1048576: true; the input reads as it did. -/
def postDoublesUptoRow : OpenClaim := { program := "ytggbjokhniigkaa", sum := "a15c105d59560173cd7b2578602664577e6a123b6a5f542f2bef72bc2a48467c", func := "falsework/falseworklaw9.PostDoubles", spec := "postDoubles", apart := false, narrowed := true }
def PostDoublesUptoSaid : Prop := postDoublesUptoRow.holds Try.pinned (OpenSpec.upto postDoublesSpec)

/-- 'falseworklaw11.ReplicaNews', WHERE WHAT IT READS IS OF BULK AT MOST 1048576: true; the input reads as it did. -/
def replicaNewsUptoRow : OpenClaim := { program := "ytggbjokhniigkaa", sum := "a15c105d59560173cd7b2578602664577e6a123b6a5f542f2bef72bc2a48467c", func := "falsework/falseworklaw11.ReplicaNews", spec := "replicaNews", apart := false, narrowed := true }
def ReplicaNewsUptoSaid : Prop := replicaNewsUptoRow.holds Try.pinned (OpenSpec.upto replicaNewsSpec)

/-- 'falseworklaw11.ReplicaMays', WHERE WHAT IT READS IS OF BULK AT MOST 1048576: true; the input reads as it did. -/
def replicaMaysUptoRow : OpenClaim := { program := "ytggbjokhniigkaa", sum := "a15c105d59560173cd7b2578602664577e6a123b6a5f542f2bef72bc2a48467c", func := "falsework/falseworklaw11.ReplicaMays", spec := "replicaMays", apart := false, narrowed := true }
def ReplicaMaysUptoSaid : Prop := replicaMaysUptoRow.holds Try.pinned (OpenSpec.upto replicaMaysSpec)

/-- 'falseworklaw11.ReplicaProposes', WHERE WHAT IT READS IS OF BULK AT MOST 1048576: true; the input reads as it did. -/
def replicaProposesUptoRow : OpenClaim := { program := "ytggbjokhniigkaa", sum := "a15c105d59560173cd7b2578602664577e6a123b6a5f542f2bef72bc2a48467c", func := "falsework/falseworklaw11.ReplicaProposes", spec := "replicaProposes", apart := false, narrowed := true }
def ReplicaProposesUptoSaid : Prop := replicaProposesUptoRow.holds Try.pinned (OpenSpec.upto replicaProposesSpec)

/-- 'falseworklaw11.ReplicaSuspects', WHERE WHAT IT READS IS OF BULK AT MOST 1048576: true; the input reads as it did. -/
def replicaSuspectsUptoRow : OpenClaim := { program := "ytggbjokhniigkaa", sum := "a15c105d59560173cd7b2578602664577e6a123b6a5f542f2bef72bc2a48467c", func := "falsework/falseworklaw11.ReplicaSuspects", spec := "replicaSuspects", apart := false, narrowed := true }
def ReplicaSuspectsUptoSaid : Prop := replicaSuspectsUptoRow.holds Try.pinned (OpenSpec.upto replicaSuspectsSpec)

/-- 'falseworklaw11.ReplicaGoes', WHERE WHAT IT READS IS OF BULK AT MOST 1048576: true; the input reads as it did. -/
def replicaGoesUptoRow : OpenClaim := { program := "ytggbjokhniigkaa", sum := "a15c105d59560173cd7b2578602664577e6a123b6a5f542f2bef72bc2a48467c", func := "falsework/falseworklaw11.ReplicaGoes", spec := "replicaGoes", inPlace := ["slices.overlaps[int]"], unfollowed := true, recurses := true, apart := false, narrowed := true }
def ReplicaGoesUptoSaid : Prop := replicaGoesUptoRow.holds Try.pinned (OpenSpec.upto replicaGoesSpec)

/-- 'falseworklaw12.GroupCalm', WHERE WHAT IT READS IS OF BULK AT MOST 1048576: true; the input reads as it did. -/
def groupCalmUptoRow : OpenClaim := { program := "ytggbjokhniigkaa", sum := "a15c105d59560173cd7b2578602664577e6a123b6a5f542f2bef72bc2a48467c", func := "falsework/falseworklaw12.GroupCalm", spec := "groupCalm", inPlace := ["slices.overlaps[int]"], unfollowed := true, recurses := true, apart := false, narrowed := true }
def GroupCalmUptoSaid : Prop := groupCalmUptoRow.holds Try.pinned (OpenSpec.upto groupCalmSpec)

/-- 'falseworklaw12.GroupLasts', WHERE WHAT IT READS IS OF BULK AT MOST 1048576: true; the input reads as it did. -/
def groupLastsUptoRow : OpenClaim := { program := "ytggbjokhniigkaa", sum := "a15c105d59560173cd7b2578602664577e6a123b6a5f542f2bef72bc2a48467c", func := "falsework/falseworklaw12.GroupLasts", spec := "groupLasts", inPlace := ["slices.overlaps[int]"], unfollowed := true, recurses := true, apart := false, narrowed := true }
def GroupLastsUptoSaid : Prop := groupLastsUptoRow.holds Try.pinned (OpenSpec.upto groupLastsSpec)

/-- 'falseworklaw12.GroupNil', WHERE WHAT IT READS IS OF BULK AT MOST 1048576: true; the input reads as it did. -/
def groupNilUptoRow : OpenClaim := { program := "ytggbjokhniigkaa", sum := "a15c105d59560173cd7b2578602664577e6a123b6a5f542f2bef72bc2a48467c", func := "falsework/falseworklaw12.GroupNil", spec := "groupNil", inPlace := ["slices.overlaps[int]"], unfollowed := true, recurses := true, apart := false, narrowed := true }
def GroupNilUptoSaid : Prop := groupNilUptoRow.holds Try.pinned (OpenSpec.upto groupNilSpec)

end Rows
end Go.Proofs.Ytggbjokhniigkaa
