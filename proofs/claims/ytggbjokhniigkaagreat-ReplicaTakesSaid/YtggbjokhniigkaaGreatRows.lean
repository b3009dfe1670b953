/-
  No cell of these rows narrows 'for every input' (looked for: loops, veiled, ifaces, maps, wideKeys, modest, calm, conditions, laid).
  DERIVED. THE GIVEN ROWS OF THIS SEAT. 12 by the template 'for every input the law returns true; each argument reads behind the call as it read before'; 0 by the template 'total and deterministic' (their statements: YtggbjokhniigkaaGreatTotals.lean).
  GIVEN WITH THE SEED: the statements are not yours to turn. If you find one false, say at which input.
  Laid BY PROGRAM, IN A SANDBOX (cutbox-rows.mjs): the forced cells as the released guide's own fill.sh prints them over the translation e7302923e3bee9f9… (all of the seat's roots in one cut). By AI agents, Wed Nov 11 2026. No macro, syntax, notation, axiom, sorry.
-/
import Derived.Test.YtggbjokhniigkaaGreatChecked
import GoSem.Claim
import GoSem.ClaimJoined
import GoSem.ClaimMapViews
import Derived.JoinedTies
import Derived.KernelRfl
namespace Go.Proofs.YtggbjokhniigkaaGreat
/- THE CELL 'sum', in the pinned program and in every row, IS THE sha256 OF THE DUMP (.gsa) THAT YtggbjokhniigkaaGreatProg.lean LOADS. Nothing in Lean hashes anything: it is a label: what it is worth is what the hold of that sum in a sandbox is worth. -/
noncomputable def Tryz.pinned : Pinned := { name := "ytggbjokhniigkaagreat", sum := "e7302923e3bee9f9b394d47ebcdc0f40e723dd0a88a1ba3a1f53a73c817c5f0c", checked := Tryz.checked }
namespace Rows
def none {H : Type} : Left H := { results := [], args := [] }

/-- 'falseworklaw11.ReplicaTakes': WHATEVER THE INPUT: true; the input reads as it did. -/
def replicaTakesSpec : ChangeSpec := { name := "replicaTakes", fn := fun _ => fun
  | [d1, d2, d3] => { results := [.lit (.bool true)], args := [d1, d2, d3] }
  | _ => none }
def replicaTakesRow : OpenClaim := { program := "ytggbjokhniigkaagreat", sum := "e7302923e3bee9f9b394d47ebcdc0f40e723dd0a88a1ba3a1f53a73c817c5f0c", func := "falsework/falseworklaw11.ReplicaTakes", spec := "replicaTakes", inPlace := ["slices.overlaps[int]"], unfollowed := true, recurses := true, apart := false }
def ReplicaTakesSaid : Prop := replicaTakesRow.holds Tryz.pinned (OpenSpec.ofChange replicaTakesSpec)

/-- ITS FALSE NEIGHBOUR: 'it returns false'. Refute it at one input. -/
def replicaTakesWrong : ChangeSpec := { name := "replicaTakes", fn := fun _ => fun
  | [d1, d2, d3] => { results := [.lit (.bool false)], args := [d1, d2, d3] }
  | _ => none }
def ReplicaTakesWrongFalsely : Prop := replicaTakesRow.holds Tryz.pinned (OpenSpec.ofChange replicaTakesWrong)

/-- 'falseworklaw11.ReplicaPrepares': WHATEVER THE INPUT: true; the input reads as it did. -/
def replicaPreparesSpec : ChangeSpec := { name := "replicaPrepares", fn := fun _ => fun
  | [d1, d2] => { results := [.lit (.bool true)], args := [d1, d2] }
  | _ => none }
def replicaPreparesRow : OpenClaim := { program := "ytggbjokhniigkaagreat", sum := "e7302923e3bee9f9b394d47ebcdc0f40e723dd0a88a1ba3a1f53a73c817c5f0c", func := "falsework/falseworklaw11.ReplicaPrepares", spec := "replicaPrepares", inPlace := ["slices.overlaps[int]"], unfollowed := true, recurses := true, apart := false }
def ReplicaPreparesSaid : Prop := replicaPreparesRow.holds Tryz.pinned (OpenSpec.ofChange replicaPreparesSpec)

/-- ITS FALSE NEIGHBOUR: 'it returns false'. Refute it at one input. -/
def replicaPreparesWrong : ChangeSpec := { name := "replicaPrepares", fn := fun _ => fun
  | [d1, d2] => { results := [.lit (.bool false)], args := [d1, d2] }
  | _ => none }
def ReplicaPreparesWrongFalsely : Prop := replicaPreparesRow.holds Tryz.pinned (OpenSpec.ofChange replicaPreparesWrong)

/-- 'falseworklaw11.ReplicaPrepareds': WHATEVER THE INPUT: true; the input reads as it did. -/
def replicaPreparedsSpec : ChangeSpec := { name := "replicaPrepareds", fn := fun _ => fun
  | [d1, d2] => { results := [.lit (.bool true)], args := [d1, d2] }
  | _ => none }
def replicaPreparedsRow : OpenClaim := { program := "ytggbjokhniigkaagreat", sum := "e7302923e3bee9f9b394d47ebcdc0f40e723dd0a88a1ba3a1f53a73c817c5f0c", func := "falsework/falseworklaw11.ReplicaPrepareds", spec := "replicaPrepareds", inPlace := ["slices.overlaps[int]"], unfollowed := true, recurses := true, apart := false }
def ReplicaPreparedsSaid : Prop := replicaPreparedsRow.holds Tryz.pinned (OpenSpec.ofChange replicaPreparedsSpec)

/-- ITS FALSE NEIGHBOUR: 'it returns false'. Refute it at one input. -/
def replicaPreparedsWrong : ChangeSpec := { name := "replicaPrepareds", fn := fun _ => fun
  | [d1, d2] => { results := [.lit (.bool false)], args := [d1, d2] }
  | _ => none }
def ReplicaPreparedsWrongFalsely : Prop := replicaPreparedsRow.holds Tryz.pinned (OpenSpec.ofChange replicaPreparedsWrong)

/-- 'falseworklaw11.ReplicaCommits': WHATEVER THE INPUT: true; the input reads as it did. -/
def replicaCommitsSpec : ChangeSpec := { name := "replicaCommits", fn := fun _ => fun
  | [d1, d2] => { results := [.lit (.bool true)], args := [d1, d2] }
  | _ => none }
def replicaCommitsRow : OpenClaim := { program := "ytggbjokhniigkaagreat", sum := "e7302923e3bee9f9b394d47ebcdc0f40e723dd0a88a1ba3a1f53a73c817c5f0c", func := "falsework/falseworklaw11.ReplicaCommits", spec := "replicaCommits", inPlace := ["slices.overlaps[int]"], unfollowed := true, recurses := true, apart := false }
def ReplicaCommitsSaid : Prop := replicaCommitsRow.holds Tryz.pinned (OpenSpec.ofChange replicaCommitsSpec)

/-- ITS FALSE NEIGHBOUR: 'it returns false'. Refute it at one input. -/
def replicaCommitsWrong : ChangeSpec := { name := "replicaCommits", fn := fun _ => fun
  | [d1, d2] => { results := [.lit (.bool false)], args := [d1, d2] }
  | _ => none }
def ReplicaCommitsWrongFalsely : Prop := replicaCommitsRow.holds Tryz.pinned (OpenSpec.ofChange replicaCommitsWrong)

/-- 'falseworklaw11.ReplicaChanges': WHATEVER THE INPUT: true; the input reads as it did. -/
def replicaChangesSpec : ChangeSpec := { name := "replicaChanges", fn := fun _ => fun
  | [d1, d2] => { results := [.lit (.bool true)], args := [d1, d2] }
  | _ => none }
def replicaChangesRow : OpenClaim := { program := "ytggbjokhniigkaagreat", sum := "e7302923e3bee9f9b394d47ebcdc0f40e723dd0a88a1ba3a1f53a73c817c5f0c", func := "falsework/falseworklaw11.ReplicaChanges", spec := "replicaChanges", inPlace := ["slices.overlaps[int]"], unfollowed := true, recurses := true, apart := false }
def ReplicaChangesSaid : Prop := replicaChangesRow.holds Tryz.pinned (OpenSpec.ofChange replicaChangesSpec)

/-- ITS FALSE NEIGHBOUR: 'it returns false'. Refute it at one input. -/
def replicaChangesWrong : ChangeSpec := { name := "replicaChanges", fn := fun _ => fun
  | [d1, d2] => { results := [.lit (.bool false)], args := [d1, d2] }
  | _ => none }
def ReplicaChangesWrongFalsely : Prop := replicaChangesRow.holds Tryz.pinned (OpenSpec.ofChange replicaChangesWrong)

/-- 'falseworklaw11.ReplicaStates': WHATEVER THE INPUT: true; the input reads as it did. -/
def replicaStatesSpec : ChangeSpec := { name := "replicaStates", fn := fun _ => fun
  | [d1, d2] => { results := [.lit (.bool true)], args := [d1, d2] }
  | _ => none }
def replicaStatesRow : OpenClaim := { program := "ytggbjokhniigkaagreat", sum := "e7302923e3bee9f9b394d47ebcdc0f40e723dd0a88a1ba3a1f53a73c817c5f0c", func := "falsework/falseworklaw11.ReplicaStates", spec := "replicaStates", inPlace := ["slices.overlaps[int]"], unfollowed := true, recurses := true, apart := false }
def ReplicaStatesSaid : Prop := replicaStatesRow.holds Tryz.pinned (OpenSpec.ofChange replicaStatesSpec)

/-- ITS FALSE NEIGHBOUR: 'it returns false'. Refute it at one input. -/
def replicaStatesWrong : ChangeSpec := { name := "replicaStates", fn := fun _ => fun
  | [d1, d2] => { results := [.lit (.bool false)], args := [d1, d2] }
  | _ => none }
def ReplicaStatesWrongFalsely : Prop := replicaStatesRow.holds Tryz.pinned (OpenSpec.ofChange replicaStatesWrong)

/-- 'falseworklaw11.ReplicaViews': WHATEVER THE INPUT: true; the input reads as it did. -/
def replicaViewsSpec : ChangeSpec := { name := "replicaViews", fn := fun _ => fun
  | [d1, d2] => { results := [.lit (.bool true)], args := [d1, d2] }
  | _ => none }
def replicaViewsRow : OpenClaim := { program := "ytggbjokhniigkaagreat", sum := "e7302923e3bee9f9b394d47ebcdc0f40e723dd0a88a1ba3a1f53a73c817c5f0c", func := "falsework/falseworklaw11.ReplicaViews", spec := "replicaViews", inPlace := ["slices.overlaps[int]"], unfollowed := true, recurses := true, apart := false }
def ReplicaViewsSaid : Prop := replicaViewsRow.holds Tryz.pinned (OpenSpec.ofChange replicaViewsSpec)

/-- ITS FALSE NEIGHBOUR: 'it returns false'. Refute it at one input. -/
def replicaViewsWrong : ChangeSpec := { name := "replicaViews", fn := fun _ => fun
  | [d1, d2] => { results := [.lit (.bool false)], args := [d1, d2] }
  | _ => none }
def ReplicaViewsWrongFalsely : Prop := replicaViewsRow.holds Tryz.pinned (OpenSpec.ofChange replicaViewsWrong)

/-- 'falseworklaw11.ReplicaAsks': WHATEVER THE INPUT: true; the input reads as it did. -/
def replicaAsksSpec : ChangeSpec := { name := "replicaAsks", fn := fun _ => fun
  | [d1, d2] => { results := [.lit (.bool true)], args := [d1, d2] }
  | _ => none }
def replicaAsksRow : OpenClaim := { program := "ytggbjokhniigkaagreat", sum := "e7302923e3bee9f9b394d47ebcdc0f40e723dd0a88a1ba3a1f53a73c817c5f0c", func := "falsework/falseworklaw11.ReplicaAsks", spec := "replicaAsks", inPlace := ["slices.overlaps[int]"], unfollowed := true, recurses := true, apart := false }
def ReplicaAsksSaid : Prop := replicaAsksRow.holds Tryz.pinned (OpenSpec.ofChange replicaAsksSpec)

/-- ITS FALSE NEIGHBOUR: 'it returns false'. Refute it at one input. -/
def replicaAsksWrong : ChangeSpec := { name := "replicaAsks", fn := fun _ => fun
  | [d1, d2] => { results := [.lit (.bool false)], args := [d1, d2] }
  | _ => none }
def ReplicaAsksWrongFalsely : Prop := replicaAsksRow.holds Tryz.pinned (OpenSpec.ofChange replicaAsksWrong)

/-- 'falseworklaw11.ReplicaLogs': WHATEVER THE INPUT: true; the input reads as it did. -/
def replicaLogsSpec : ChangeSpec := { name := "replicaLogs", fn := fun _ => fun
  | [d1, d2] => { results := [.lit (.bool true)], args := [d1, d2] }
  | _ => none }
def replicaLogsRow : OpenClaim := { program := "ytggbjokhniigkaagreat", sum := "e7302923e3bee9f9b394d47ebcdc0f40e723dd0a88a1ba3a1f53a73c817c5f0c", func := "falsework/falseworklaw11.ReplicaLogs", spec := "replicaLogs", inPlace := ["slices.overlaps[int]"], unfollowed := true, recurses := true, apart := false }
def ReplicaLogsSaid : Prop := replicaLogsRow.holds Tryz.pinned (OpenSpec.ofChange replicaLogsSpec)

/-- ITS FALSE NEIGHBOUR: 'it returns false'. Refute it at one input. -/
def replicaLogsWrong : ChangeSpec := { name := "replicaLogs", fn := fun _ => fun
  | [d1, d2] => { results := [.lit (.bool false)], args := [d1, d2] }
  | _ => none }
def ReplicaLogsWrongFalsely : Prop := replicaLogsRow.holds Tryz.pinned (OpenSpec.ofChange replicaLogsWrong)

/-- 'falseworklaw12.GroupRuns': WHATEVER THE INPUT: true; the input reads as it did. -/
def groupRunsSpec : ChangeSpec := { name := "groupRuns", fn := fun _ => fun
  | [d1, d2] => { results := [.lit (.bool true)], args := [d1, d2] }
  | _ => none }
def groupRunsRow : OpenClaim := { program := "ytggbjokhniigkaagreat", sum := "e7302923e3bee9f9b394d47ebcdc0f40e723dd0a88a1ba3a1f53a73c817c5f0c", func := "falsework/falseworklaw12.GroupRuns", spec := "groupRuns", inPlace := ["slices.overlaps[int]"], unfollowed := true, recurses := true, apart := false }
def GroupRunsSaid : Prop := groupRunsRow.holds Tryz.pinned (OpenSpec.ofChange groupRunsSpec)

/-- ITS FALSE NEIGHBOUR: 'it returns false'. Refute it at one input. -/
def groupRunsWrong : ChangeSpec := { name := "groupRuns", fn := fun _ => fun
  | [d1, d2] => { results := [.lit (.bool false)], args := [d1, d2] }
  | _ => none }
def GroupRunsWrongFalsely : Prop := groupRunsRow.holds Tryz.pinned (OpenSpec.ofChange groupRunsWrong)

/-- 'falseworklaw12.GroupAgrees': WHATEVER THE INPUT: true; the input reads as it did. -/
def groupAgreesSpec : ChangeSpec := { name := "groupAgrees", fn := fun _ => fun
  | [d1, d2] => { results := [.lit (.bool true)], args := [d1, d2] }
  | _ => none }
def groupAgreesRow : OpenClaim := { program := "ytggbjokhniigkaagreat", sum := "e7302923e3bee9f9b394d47ebcdc0f40e723dd0a88a1ba3a1f53a73c817c5f0c", func := "falsework/falseworklaw12.GroupAgrees", spec := "groupAgrees", inPlace := ["slices.overlaps[int]"], unfollowed := true, recurses := true, apart := false }
def GroupAgreesSaid : Prop := groupAgreesRow.holds Tryz.pinned (OpenSpec.ofChange groupAgreesSpec)

/-- ITS FALSE NEIGHBOUR: 'it returns false'. Refute it at one input. -/
def groupAgreesWrong : ChangeSpec := { name := "groupAgrees", fn := fun _ => fun
  | [d1, d2] => { results := [.lit (.bool false)], args := [d1, d2] }
  | _ => none }
def GroupAgreesWrongFalsely : Prop := groupAgreesRow.holds Tryz.pinned (OpenSpec.ofChange groupAgreesWrong)

/-- 'falseworklaw12.GroupCopies': WHATEVER THE INPUT: true; the input reads as it did. -/
def groupCopiesSpec : ChangeSpec := { name := "groupCopies", fn := fun _ => fun
  | [d1, d2] => { results := [.lit (.bool true)], args := [d1, d2] }
  | _ => none }
def groupCopiesRow : OpenClaim := { program := "ytggbjokhniigkaagreat", sum := "e7302923e3bee9f9b394d47ebcdc0f40e723dd0a88a1ba3a1f53a73c817c5f0c", func := "falsework/falseworklaw12.GroupCopies", spec := "groupCopies", inPlace := ["slices.overlaps[int]"], unfollowed := true, recurses := true, apart := false }
def GroupCopiesSaid : Prop := groupCopiesRow.holds Tryz.pinned (OpenSpec.ofChange groupCopiesSpec)

/-- ITS FALSE NEIGHBOUR: 'it returns false'. Refute it at one input. -/
def groupCopiesWrong : ChangeSpec := { name := "groupCopies", fn := fun _ => fun
  | [d1, d2] => { results := [.lit (.bool false)], args := [d1, d2] }
  | _ => none }
def GroupCopiesWrongFalsely : Prop := groupCopiesRow.holds Tryz.pinned (OpenSpec.ofChange groupCopiesWrong)

/- THE SECOND FORM. 'bulk': how many values and letters a reading holds, each counted each time it is reached (what is shared counts as often as it is met; a slice's spare places count too). A statement '..UptoSaid' is the law's where the arguments, and the package variables that the reading takes, are together of bulk at most 1048576: NARROWER than '..Said'. Prove '..Said' where nothing that the law and all that it calls make is longer than what came in: it says more and counts as full. Else prove '..UptoSaid'. A law counts once. -/
mutual
def uptoBulk {H : Type} : DataW H → Nat
  | .lit (.string bytes) => bytes.length + 1
  | .lit _ => 1
  | .nil => 1
  | .ptr d => uptoBulk d + 1
  | .slice elems spare => uptoBulkAll elems + uptoBulkAll spare + 1
  | .agg parts => uptoBulkAll parts + 1
  | .iface _ d => uptoBulk d + 1
  | .map entries => uptoBulkEntries entries + 1
  | .held _ => 1
def uptoBulkAll {H : Type} : List (DataW H) → Nat
  | [] => 0
  | d :: r => uptoBulk d + uptoBulkAll r
def uptoBulkEntries {H : Type} : List (Lit × DataW H) → Nat
  | [] => 0
  | x :: r => uptoBulkEntry x + uptoBulkEntries r
def uptoBulkEntry {H : Type} : Lit × DataW H → Nat
  | (.string bytes, d) => bytes.length + uptoBulk d + 1
  | (_, d) => uptoBulk d + 1
 end
def uptoSmall : (H : Type) → List (DataW H) → Bool := fun _ ds => decide (uptoBulkAll ds ≤ 1048576)
def OpenSpec.upto (s : _root_.Go.ChangeSpec) : _root_.Go.OpenSpec := { _root_.Go.OpenSpec.ofChange s with cond := some uptoSmall }

/-- 'falseworklaw11.ReplicaTakes', WHERE WHAT IT READS IS OF BULK AT MOST 1048576: true; the input reads as it did. -/
def replicaTakesUptoRow : OpenClaim := { program := "ytggbjokhniigkaagreat", sum := "e7302923e3bee9f9b394d47ebcdc0f40e723dd0a88a1ba3a1f53a73c817c5f0c", func := "falsework/falseworklaw11.ReplicaTakes", spec := "replicaTakes", inPlace := ["slices.overlaps[int]"], unfollowed := true, recurses := true, apart := false, narrowed := true }
def ReplicaTakesUptoSaid : Prop := replicaTakesUptoRow.holds Tryz.pinned (OpenSpec.upto replicaTakesSpec)

/-- 'falseworklaw11.ReplicaPrepares', WHERE WHAT IT READS IS OF BULK AT MOST 1048576: true; the input reads as it did. -/
def replicaPreparesUptoRow : OpenClaim := { program := "ytggbjokhniigkaagreat", sum := "e7302923e3bee9f9b394d47ebcdc0f40e723dd0a88a1ba3a1f53a73c817c5f0c", func := "falsework/falseworklaw11.ReplicaPrepares", spec := "replicaPrepares", inPlace := ["slices.overlaps[int]"], unfollowed := true, recurses := true, apart := false, narrowed := true }
def ReplicaPreparesUptoSaid : Prop := replicaPreparesUptoRow.holds Tryz.pinned (OpenSpec.upto replicaPreparesSpec)

/-- 'falseworklaw11.ReplicaPrepareds', WHERE WHAT IT READS IS OF BULK AT MOST 1048576: true; the input reads as it did. -/
def replicaPreparedsUptoRow : OpenClaim := { program := "ytggbjokhniigkaagreat", sum := "e7302923e3bee9f9b394d47ebcdc0f40e723dd0a88a1ba3a1f53a73c817c5f0c", func := "falsework/falseworklaw11.ReplicaPrepareds", spec := "replicaPrepareds", inPlace := ["slices.overlaps[int]"], unfollowed := true, recurses := true, apart := false, narrowed := true }
def ReplicaPreparedsUptoSaid : Prop := replicaPreparedsUptoRow.holds Tryz.pinned (OpenSpec.upto replicaPreparedsSpec)

/-- 'falseworklaw11.ReplicaCommits', WHERE WHAT IT READS IS OF BULK AT MOST 1048576: true; the input reads as it did. -/
def replicaCommitsUptoRow : OpenClaim := { program := "ytggbjokhniigkaagreat", sum := "e7302923e3bee9f9b394d47ebcdc0f40e723dd0a88a1ba3a1f53a73c817c5f0c", func := "falsework/falseworklaw11.ReplicaCommits", spec := "replicaCommits", inPlace := ["slices.overlaps[int]"], unfollowed := true, recurses := true, apart := false, narrowed := true }
def ReplicaCommitsUptoSaid : Prop := replicaCommitsUptoRow.holds Tryz.pinned (OpenSpec.upto replicaCommitsSpec)

/-- 'falseworklaw11.ReplicaChanges', WHERE WHAT IT READS IS OF BULK AT MOST 1048576: true; the input reads as it did. -/
def replicaChangesUptoRow : OpenClaim := { program := "ytggbjokhniigkaagreat", sum := "e7302923e3bee9f9b394d47ebcdc0f40e723dd0a88a1ba3a1f53a73c817c5f0c", func := "falsework/falseworklaw11.ReplicaChanges", spec := "replicaChanges", inPlace := ["slices.overlaps[int]"], unfollowed := true, recurses := true, apart := false, narrowed := true }
def ReplicaChangesUptoSaid : Prop := replicaChangesUptoRow.holds Tryz.pinned (OpenSpec.upto replicaChangesSpec)

/-- 'falseworklaw11.ReplicaStates', WHERE WHAT IT READS IS OF BULK AT MOST 1048576: true; the input reads as it did. -/
def replicaStatesUptoRow : OpenClaim := { program := "ytggbjokhniigkaagreat", sum := "e7302923e3bee9f9b394d47ebcdc0f40e723dd0a88a1ba3a1f53a73c817c5f0c", func := "falsework/falseworklaw11.ReplicaStates", spec := "replicaStates", inPlace := ["slices.overlaps[int]"], unfollowed := true, recurses := true, apart := false, narrowed := true }
def ReplicaStatesUptoSaid : Prop := replicaStatesUptoRow.holds Tryz.pinned (OpenSpec.upto replicaStatesSpec)

/-- 'falseworklaw11.ReplicaViews', WHERE WHAT IT READS IS OF BULK AT MOST 1048576: true; the input reads as it did. -/
def replicaViewsUptoRow : OpenClaim := { program := "ytggbjokhniigkaagreat", sum := "e7302923e3bee9f9b394d47ebcdc0f40e723dd0a88a1ba3a1f53a73c817c5f0c", func := "falsework/falseworklaw11.ReplicaViews", spec := "replicaViews", inPlace := ["slices.overlaps[int]"], unfollowed := true, recurses := true, apart := false, narrowed := true }
def ReplicaViewsUptoSaid : Prop := replicaViewsUptoRow.holds Tryz.pinned (OpenSpec.upto replicaViewsSpec)

/-- 'falseworklaw11.ReplicaAsks', WHERE WHAT IT READS IS OF BULK AT MOST 1048576: true; the input reads as it did. -/
def replicaAsksUptoRow : OpenClaim := { program := "ytggbjokhniigkaagreat", sum := "e7302923e3bee9f9b394d47ebcdc0f40e723dd0a88a1ba3a1f53a73c817c5f0c", func := "falsework/falseworklaw11.ReplicaAsks", spec := "replicaAsks", inPlace := ["slices.overlaps[int]"], unfollowed := true, recurses := true, apart := false, narrowed := true }
def ReplicaAsksUptoSaid : Prop := replicaAsksUptoRow.holds Tryz.pinned (OpenSpec.upto replicaAsksSpec)

/-- 'falseworklaw11.ReplicaLogs', WHERE WHAT IT READS IS OF BULK AT MOST 1048576: true; the input reads as it did. -/
def replicaLogsUptoRow : OpenClaim := { program := "ytggbjokhniigkaagreat", sum := "e7302923e3bee9f9b394d47ebcdc0f40e723dd0a88a1ba3a1f53a73c817c5f0c", func := "falsework/falseworklaw11.ReplicaLogs", spec := "replicaLogs", inPlace := ["slices.overlaps[int]"], unfollowed := true, recurses := true, apart := false, narrowed := true }
def ReplicaLogsUptoSaid : Prop := replicaLogsUptoRow.holds Tryz.pinned (OpenSpec.upto replicaLogsSpec)

/-- 'falseworklaw12.GroupRuns', WHERE WHAT IT READS IS OF BULK AT MOST 1048576: true; the input reads as it did. -/
def groupRunsUptoRow : OpenClaim := { program := "ytggbjokhniigkaagreat", sum := "e7302923e3bee9f9b394d47ebcdc0f40e723dd0a88a1ba3a1f53a73c817c5f0c", func := "falsework/falseworklaw12.GroupRuns", spec := "groupRuns", inPlace := ["slices.overlaps[int]"], unfollowed := true, recurses := true, apart := false, narrowed := true }
def GroupRunsUptoSaid : Prop := groupRunsUptoRow.holds Tryz.pinned (OpenSpec.upto groupRunsSpec)

/-- 'falseworklaw12.GroupAgrees', WHERE WHAT IT READS IS OF BULK AT MOST 1048576: true; the input reads as it did. -/
def groupAgreesUptoRow : OpenClaim := { program := "ytggbjokhniigkaagreat", sum := "e7302923e3bee9f9b394d47ebcdc0f40e723dd0a88a1ba3a1f53a73c817c5f0c", func := "falsework/falseworklaw12.GroupAgrees", spec := "groupAgrees", inPlace := ["slices.overlaps[int]"], unfollowed := true, recurses := true, apart := false, narrowed := true }
def GroupAgreesUptoSaid : Prop := groupAgreesUptoRow.holds Tryz.pinned (OpenSpec.upto groupAgreesSpec)

/-- 'falseworklaw12.GroupCopies', WHERE WHAT IT READS IS OF BULK AT MOST 1048576: true; the input reads as it did. -/
def groupCopiesUptoRow : OpenClaim := { program := "ytggbjokhniigkaagreat", sum := "e7302923e3bee9f9b394d47ebcdc0f40e723dd0a88a1ba3a1f53a73c817c5f0c", func := "falsework/falseworklaw12.GroupCopies", spec := "groupCopies", inPlace := ["slices.overlaps[int]"], unfollowed := true, recurses := true, apart := false, narrowed := true }
def GroupCopiesUptoSaid : Prop := groupCopiesUptoRow.holds Tryz.pinned (OpenSpec.upto groupCopiesSpec)

end Rows
end Go.Proofs.YtggbjokhniigkaaGreat
