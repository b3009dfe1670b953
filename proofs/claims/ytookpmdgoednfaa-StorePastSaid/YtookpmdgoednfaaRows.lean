/-
  No cell of these rows narrows 'for every input' (looked for: loops, veiled, ifaces, maps, wideKeys, modest, calm, conditions, laid).
  DERIVED. THE GIVEN ROWS OF THIS SEAT. 16 by the template 'for every input the law returns true; each argument reads behind the call as it read before'; 0 by the template 'total and deterministic' (their statements: YtookpmdgoednfaaTotals.lean).
  GIVEN WITH THE SEED: the statements are not yours to turn. If you find one false, say at which input.
  Laid BY PROGRAM, IN A SANDBOX (cutbox-rows.mjs): the forced cells as the released guide's own fill.sh prints them over the translation cda5fa34f617852a… (all of the seat's roots in one cut). By AI agents, Wed Nov 11 2026. No macro, syntax, notation, axiom, sorry.
-/
import Derived.Test.YtookpmdgoednfaaChecked
import GoSem.Claim
import GoSem.ClaimJoined
import GoSem.ClaimMapViews
import Derived.JoinedTies
import Derived.KernelRfl
namespace Go.Proofs.Ytookpmdgoednfaa
/- THE CELL 'sum', in the pinned program and in every row, IS THE sha256 OF THE DUMP (.gsa) THAT YtookpmdgoednfaaProg.lean LOADS. Nothing in Lean hashes anything: it is a label: what it is worth is what the hold of that sum in a sandbox is worth. -/
noncomputable def Try.pinned : Pinned := { name := "ytookpmdgoednfaa", sum := "cda5fa34f617852aa67cf5a09e878d629f617a6c693e87af4e9b7c507d71c108", checked := Try.checked }
namespace Rows
def none {H : Type} : Left H := { results := [], args := [] }

/-- 'falseworklaw7.PageRights': WHATEVER THE INPUT: true; the input reads as it did. -/
def pageRightsSpec : ChangeSpec := { name := "pageRights", fn := fun _ => fun
  | [d] => { results := [.lit (.bool true)], args := [d] }
  | _ => none }
def pageRightsRow : OpenClaim := { program := "ytookpmdgoednfaa", sum := "cda5fa34f617852aa67cf5a09e878d629f617a6c693e87af4e9b7c507d71c108", func := "falsework/falseworklaw7.PageRights", spec := "pageRights", inPlace := ["slices.overlaps[falsework/api.Pair]", "slices.overlaps[[]falsework/api.Pair]"], unfollowed := true, recurses := true, apart := false }
def PageRightsSaid : Prop := pageRightsRow.holds Try.pinned (OpenSpec.ofChange pageRightsSpec)

/-- ITS FALSE NEIGHBOUR: 'it returns false'. Refute it at one input. -/
def pageRightsWrong : ChangeSpec := { name := "pageRights", fn := fun _ => fun
  | [d] => { results := [.lit (.bool false)], args := [d] }
  | _ => none }
def PageRightsWrongFalsely : Prop := pageRightsRow.holds Try.pinned (OpenSpec.ofChange pageRightsWrong)

/-- 'falseworklaw7.PagePuts': WHATEVER THE INPUT: true; the input reads as it did. -/
def pagePutsSpec : ChangeSpec := { name := "pagePuts", fn := fun _ => fun
  | [d1, d2, d3] => { results := [.lit (.bool true)], args := [d1, d2, d3] }
  | _ => none }
def pagePutsRow : OpenClaim := { program := "ytookpmdgoednfaa", sum := "cda5fa34f617852aa67cf5a09e878d629f617a6c693e87af4e9b7c507d71c108", func := "falsework/falseworklaw7.PagePuts", spec := "pagePuts", inPlace := ["slices.overlaps[falsework/api.Pair]", "slices.overlaps[[]falsework/api.Pair]"], unfollowed := true, recurses := true, apart := false }
def PagePutsSaid : Prop := pagePutsRow.holds Try.pinned (OpenSpec.ofChange pagePutsSpec)

/-- ITS FALSE NEIGHBOUR: 'it returns false'. Refute it at one input. -/
def pagePutsWrong : ChangeSpec := { name := "pagePuts", fn := fun _ => fun
  | [d1, d2, d3] => { results := [.lit (.bool false)], args := [d1, d2, d3] }
  | _ => none }
def PagePutsWrongFalsely : Prop := pagePutsRow.holds Try.pinned (OpenSpec.ofChange pagePutsWrong)

/-- 'falseworklaw7.PageScans': WHATEVER THE INPUT: true; the input reads as it did. -/
def pageScansSpec : ChangeSpec := { name := "pageScans", fn := fun _ => fun
  | [d1, d2, d3, d4, d5] => { results := [.lit (.bool true)], args := [d1, d2, d3, d4, d5] }
  | _ => none }
def pageScansRow : OpenClaim := { program := "ytookpmdgoednfaa", sum := "cda5fa34f617852aa67cf5a09e878d629f617a6c693e87af4e9b7c507d71c108", func := "falsework/falseworklaw7.PageScans", spec := "pageScans", inPlace := ["slices.overlaps[falsework/api.Pair]", "slices.overlaps[[]falsework/api.Pair]"], unfollowed := true, recurses := true, apart := false }
def PageScansSaid : Prop := pageScansRow.holds Try.pinned (OpenSpec.ofChange pageScansSpec)

/-- ITS FALSE NEIGHBOUR: 'it returns false'. Refute it at one input. -/
def pageScansWrong : ChangeSpec := { name := "pageScans", fn := fun _ => fun
  | [d1, d2, d3, d4, d5] => { results := [.lit (.bool false)], args := [d1, d2, d3, d4, d5] }
  | _ => none }
def PageScansWrongFalsely : Prop := pageScansRow.holds Try.pinned (OpenSpec.ofChange pageScansWrong)

/-- 'falseworklaw7.PageDels': WHATEVER THE INPUT: true; the input reads as it did. -/
def pageDelsSpec : ChangeSpec := { name := "pageDels", fn := fun _ => fun
  | [d1, d2] => { results := [.lit (.bool true)], args := [d1, d2] }
  | _ => none }
def pageDelsRow : OpenClaim := { program := "ytookpmdgoednfaa", sum := "cda5fa34f617852aa67cf5a09e878d629f617a6c693e87af4e9b7c507d71c108", func := "falsework/falseworklaw7.PageDels", spec := "pageDels", inPlace := ["slices.overlaps[falsework/api.Pair]", "slices.overlaps[[]falsework/api.Pair]"], unfollowed := true, recurses := true, apart := false }
def PageDelsSaid : Prop := pageDelsRow.holds Try.pinned (OpenSpec.ofChange pageDelsSpec)

/-- ITS FALSE NEIGHBOUR: 'it returns false'. Refute it at one input. -/
def pageDelsWrong : ChangeSpec := { name := "pageDels", fn := fun _ => fun
  | [d1, d2] => { results := [.lit (.bool false)], args := [d1, d2] }
  | _ => none }
def PageDelsWrongFalsely : Prop := pageDelsRow.holds Try.pinned (OpenSpec.ofChange pageDelsWrong)

/-- 'falseworklaw7.PageLists': WHATEVER THE INPUT: true; the input reads as it did. -/
def pageListsSpec : ChangeSpec := { name := "pageLists", fn := fun _ => fun
  | [d] => { results := [.lit (.bool true)], args := [d] }
  | _ => none }
def pageListsRow : OpenClaim := { program := "ytookpmdgoednfaa", sum := "cda5fa34f617852aa67cf5a09e878d629f617a6c693e87af4e9b7c507d71c108", func := "falsework/falseworklaw7.PageLists", spec := "pageLists", inPlace := ["slices.overlaps[falsework/api.Pair]", "slices.overlaps[[]falsework/api.Pair]"], unfollowed := true, recurses := true, apart := false }
def PageListsSaid : Prop := pageListsRow.holds Try.pinned (OpenSpec.ofChange pageListsSpec)

/-- ITS FALSE NEIGHBOUR: 'it returns false'. Refute it at one input. -/
def pageListsWrong : ChangeSpec := { name := "pageLists", fn := fun _ => fun
  | [d] => { results := [.lit (.bool false)], args := [d] }
  | _ => none }
def PageListsWrongFalsely : Prop := pageListsRow.holds Try.pinned (OpenSpec.ofChange pageListsWrong)

/-- 'falseworklaw8.StoreFulls': WHATEVER THE INPUT: true; the input reads as it did. -/
def storeFullsSpec : ChangeSpec := { name := "storeFulls", fn := fun _ => fun
  | [d1, d2] => { results := [.lit (.bool true)], args := [d1, d2] }
  | _ => none }
def storeFullsRow : OpenClaim := { program := "ytookpmdgoednfaa", sum := "cda5fa34f617852aa67cf5a09e878d629f617a6c693e87af4e9b7c507d71c108", func := "falsework/falseworklaw8.StoreFulls", spec := "storeFulls", inPlace := ["slices.overlaps[falsework/api.Pair]", "slices.overlaps[[]falsework/api.Pair]"], unfollowed := true, recurses := true, apart := false }
def StoreFullsSaid : Prop := storeFullsRow.holds Try.pinned (OpenSpec.ofChange storeFullsSpec)

/-- ITS FALSE NEIGHBOUR: 'it returns false'. Refute it at one input. -/
def storeFullsWrong : ChangeSpec := { name := "storeFulls", fn := fun _ => fun
  | [d1, d2] => { results := [.lit (.bool false)], args := [d1, d2] }
  | _ => none }
def StoreFullsWrongFalsely : Prop := storeFullsRow.holds Try.pinned (OpenSpec.ofChange storeFullsWrong)

/-- 'falseworklaw8.StoreTrims': WHATEVER THE INPUT: true; the input reads as it did. -/
def storeTrimsSpec : ChangeSpec := { name := "storeTrims", fn := fun _ => fun
  | [d1, d2, d3] => { results := [.lit (.bool true)], args := [d1, d2, d3] }
  | _ => none }
def storeTrimsRow : OpenClaim := { program := "ytookpmdgoednfaa", sum := "cda5fa34f617852aa67cf5a09e878d629f617a6c693e87af4e9b7c507d71c108", func := "falsework/falseworklaw8.StoreTrims", spec := "storeTrims", inPlace := ["slices.overlaps[falsework/api.Pair]", "slices.overlaps[[]falsework/api.Pair]"], unfollowed := true, recurses := true, apart := false }
def StoreTrimsSaid : Prop := storeTrimsRow.holds Try.pinned (OpenSpec.ofChange storeTrimsSpec)

/-- ITS FALSE NEIGHBOUR: 'it returns false'. Refute it at one input. -/
def storeTrimsWrong : ChangeSpec := { name := "storeTrims", fn := fun _ => fun
  | [d1, d2, d3] => { results := [.lit (.bool false)], args := [d1, d2, d3] }
  | _ => none }
def StoreTrimsWrongFalsely : Prop := storeTrimsRow.holds Try.pinned (OpenSpec.ofChange storeTrimsWrong)

/-- 'falseworklaw8.StorePast': WHATEVER THE INPUT: true; the input reads as it did. -/
def storePastSpec : ChangeSpec := { name := "storePast", fn := fun _ => fun
  | [d1, d2] => { results := [.lit (.bool true)], args := [d1, d2] }
  | _ => none }
def storePastRow : OpenClaim := { program := "ytookpmdgoednfaa", sum := "cda5fa34f617852aa67cf5a09e878d629f617a6c693e87af4e9b7c507d71c108", func := "falsework/falseworklaw8.StorePast", spec := "storePast", inPlace := ["slices.overlaps[falsework/api.Pair]", "slices.overlaps[[]falsework/api.Pair]"], unfollowed := true, recurses := true, apart := false }
def StorePastSaid : Prop := storePastRow.holds Try.pinned (OpenSpec.ofChange storePastSpec)

/-- ITS FALSE NEIGHBOUR: 'it returns false'. Refute it at one input. -/
def storePastWrong : ChangeSpec := { name := "storePast", fn := fun _ => fun
  | [d1, d2] => { results := [.lit (.bool false)], args := [d1, d2] }
  | _ => none }
def StorePastWrongFalsely : Prop := storePastRow.holds Try.pinned (OpenSpec.ofChange storePastWrong)

/-- 'falseworklaw8.StoreRuns': WHATEVER THE INPUT: true; the input reads as it did. -/
def storeRunsSpec : ChangeSpec := { name := "storeRuns", fn := fun _ => fun
  | [d1, d2] => { results := [.lit (.bool true)], args := [d1, d2] }
  | _ => none }
def storeRunsRow : OpenClaim := { program := "ytookpmdgoednfaa", sum := "cda5fa34f617852aa67cf5a09e878d629f617a6c693e87af4e9b7c507d71c108", func := "falsework/falseworklaw8.StoreRuns", spec := "storeRuns", inPlace := ["slices.overlaps[falsework/api.Pair]", "slices.overlaps[[]falsework/api.Pair]"], unfollowed := true, recurses := true, apart := false }
def StoreRunsSaid : Prop := storeRunsRow.holds Try.pinned (OpenSpec.ofChange storeRunsSpec)

/-- ITS FALSE NEIGHBOUR: 'it returns false'. Refute it at one input. -/
def storeRunsWrong : ChangeSpec := { name := "storeRuns", fn := fun _ => fun
  | [d1, d2] => { results := [.lit (.bool false)], args := [d1, d2] }
  | _ => none }
def StoreRunsWrongFalsely : Prop := storeRunsRow.holds Try.pinned (OpenSpec.ofChange storeRunsWrong)

/-- 'falseworklaw8.StoreCopies': WHATEVER THE INPUT: true; the input reads as it did. -/
def storeCopiesSpec : ChangeSpec := { name := "storeCopies", fn := fun _ => fun
  | [d1, d2] => { results := [.lit (.bool true)], args := [d1, d2] }
  | _ => none }
def storeCopiesRow : OpenClaim := { program := "ytookpmdgoednfaa", sum := "cda5fa34f617852aa67cf5a09e878d629f617a6c693e87af4e9b7c507d71c108", func := "falsework/falseworklaw8.StoreCopies", spec := "storeCopies", inPlace := ["slices.overlaps[falsework/api.Pair]", "slices.overlaps[[]falsework/api.Pair]"], unfollowed := true, recurses := true, apart := false }
def StoreCopiesSaid : Prop := storeCopiesRow.holds Try.pinned (OpenSpec.ofChange storeCopiesSpec)

/-- ITS FALSE NEIGHBOUR: 'it returns false'. Refute it at one input. -/
def storeCopiesWrong : ChangeSpec := { name := "storeCopies", fn := fun _ => fun
  | [d1, d2] => { results := [.lit (.bool false)], args := [d1, d2] }
  | _ => none }
def StoreCopiesWrongFalsely : Prop := storeCopiesRow.holds Try.pinned (OpenSpec.ofChange storeCopiesWrong)

/-- 'falseworklaw8.StoreNil': WHATEVER THE INPUT: true; the input reads as it did. -/
def storeNilSpec : ChangeSpec := { name := "storeNil", fn := fun _ => fun
  | [d1, d2, d3, d4] => { results := [.lit (.bool true)], args := [d1, d2, d3, d4] }
  | _ => none }
def storeNilRow : OpenClaim := { program := "ytookpmdgoednfaa", sum := "cda5fa34f617852aa67cf5a09e878d629f617a6c693e87af4e9b7c507d71c108", func := "falsework/falseworklaw8.StoreNil", spec := "storeNil", inPlace := ["slices.overlaps[falsework/api.Pair]", "slices.overlaps[[]falsework/api.Pair]"], unfollowed := true, recurses := true, apart := false }
def StoreNilSaid : Prop := storeNilRow.holds Try.pinned (OpenSpec.ofChange storeNilSpec)

/-- ITS FALSE NEIGHBOUR: 'it returns false'. Refute it at one input. -/
def storeNilWrong : ChangeSpec := { name := "storeNil", fn := fun _ => fun
  | [d1, d2, d3, d4] => { results := [.lit (.bool false)], args := [d1, d2, d3, d4] }
  | _ => none }
def StoreNilWrongFalsely : Prop := storeNilRow.holds Try.pinned (OpenSpec.ofChange storeNilWrong)

/-- 'falseworklaw15.TxnNotes': WHATEVER THE INPUT: true; the input reads as it did. -/
def txnNotesSpec : ChangeSpec := { name := "txnNotes", fn := fun _ => fun
  | [d1, d2, d3] => { results := [.lit (.bool true)], args := [d1, d2, d3] }
  | _ => none }
def txnNotesRow : OpenClaim := { program := "ytookpmdgoednfaa", sum := "cda5fa34f617852aa67cf5a09e878d629f617a6c693e87af4e9b7c507d71c108", func := "falsework/falseworklaw15.TxnNotes", spec := "txnNotes", inPlace := ["slices.overlaps[falsework/api.Pair]", "slices.overlaps[[]falsework/api.Pair]"], unfollowed := true, recurses := true, apart := false }
def TxnNotesSaid : Prop := txnNotesRow.holds Try.pinned (OpenSpec.ofChange txnNotesSpec)

/-- ITS FALSE NEIGHBOUR: 'it returns false'. Refute it at one input. -/
def txnNotesWrong : ChangeSpec := { name := "txnNotes", fn := fun _ => fun
  | [d1, d2, d3] => { results := [.lit (.bool false)], args := [d1, d2, d3] }
  | _ => none }
def TxnNotesWrongFalsely : Prop := txnNotesRow.holds Try.pinned (OpenSpec.ofChange txnNotesWrong)

/-- 'falseworklaw15.TxnKeeps': WHATEVER THE INPUT: true; the input reads as it did. -/
def txnKeepsSpec : ChangeSpec := { name := "txnKeeps", fn := fun _ => fun
  | [d1, d2] => { results := [.lit (.bool true)], args := [d1, d2] }
  | _ => none }
def txnKeepsRow : OpenClaim := { program := "ytookpmdgoednfaa", sum := "cda5fa34f617852aa67cf5a09e878d629f617a6c693e87af4e9b7c507d71c108", func := "falsework/falseworklaw15.TxnKeeps", spec := "txnKeeps", inPlace := ["slices.overlaps[falsework/api.Pair]", "slices.overlaps[[]falsework/api.Pair]"], unfollowed := true, recurses := true, apart := false }
def TxnKeepsSaid : Prop := txnKeepsRow.holds Try.pinned (OpenSpec.ofChange txnKeepsSpec)

/-- ITS FALSE NEIGHBOUR: 'it returns false'. Refute it at one input. -/
def txnKeepsWrong : ChangeSpec := { name := "txnKeeps", fn := fun _ => fun
  | [d1, d2] => { results := [.lit (.bool false)], args := [d1, d2] }
  | _ => none }
def TxnKeepsWrongFalsely : Prop := txnKeepsRow.holds Try.pinned (OpenSpec.ofChange txnKeepsWrong)

/-- 'falseworklaw15.TxnRuns': WHATEVER THE INPUT: true; the input reads as it did. -/
def txnRunsSpec : ChangeSpec := { name := "txnRuns", fn := fun _ => fun
  | [d1, d2, d3, d4] => { results := [.lit (.bool true)], args := [d1, d2, d3, d4] }
  | _ => none }
def txnRunsRow : OpenClaim := { program := "ytookpmdgoednfaa", sum := "cda5fa34f617852aa67cf5a09e878d629f617a6c693e87af4e9b7c507d71c108", func := "falsework/falseworklaw15.TxnRuns", spec := "txnRuns", inPlace := ["slices.overlaps[falsework/api.Pair]", "slices.overlaps[[]falsework/api.Pair]"], unfollowed := true, recurses := true, apart := false }
def TxnRunsSaid : Prop := txnRunsRow.holds Try.pinned (OpenSpec.ofChange txnRunsSpec)

/-- ITS FALSE NEIGHBOUR: 'it returns false'. Refute it at one input. -/
def txnRunsWrong : ChangeSpec := { name := "txnRuns", fn := fun _ => fun
  | [d1, d2, d3, d4] => { results := [.lit (.bool false)], args := [d1, d2, d3, d4] }
  | _ => none }
def TxnRunsWrongFalsely : Prop := txnRunsRow.holds Try.pinned (OpenSpec.ofChange txnRunsWrong)

/-- 'falseworklaw15.TxnOwn': WHATEVER THE INPUT: true; the input reads as it did. -/
def txnOwnSpec : ChangeSpec := { name := "txnOwn", fn := fun _ => fun
  | [d1, d2, d3] => { results := [.lit (.bool true)], args := [d1, d2, d3] }
  | _ => none }
def txnOwnRow : OpenClaim := { program := "ytookpmdgoednfaa", sum := "cda5fa34f617852aa67cf5a09e878d629f617a6c693e87af4e9b7c507d71c108", func := "falsework/falseworklaw15.TxnOwn", spec := "txnOwn", inPlace := ["slices.overlaps[falsework/api.Pair]", "slices.overlaps[[]falsework/api.Pair]"], unfollowed := true, recurses := true, apart := false }
def TxnOwnSaid : Prop := txnOwnRow.holds Try.pinned (OpenSpec.ofChange txnOwnSpec)

/-- ITS FALSE NEIGHBOUR: 'it returns false'. Refute it at one input. -/
def txnOwnWrong : ChangeSpec := { name := "txnOwn", fn := fun _ => fun
  | [d1, d2, d3] => { results := [.lit (.bool false)], args := [d1, d2, d3] }
  | _ => none }
def TxnOwnWrongFalsely : Prop := txnOwnRow.holds Try.pinned (OpenSpec.ofChange txnOwnWrong)

/-- 'falseworklaw15.TxnNil': WHATEVER THE INPUT: true; the input reads as it did. -/
def txnNilSpec : ChangeSpec := { name := "txnNil", fn := fun _ => fun
  | [d1, d2, d3] => { results := [.lit (.bool true)], args := [d1, d2, d3] }
  | _ => none }
def txnNilRow : OpenClaim := { program := "ytookpmdgoednfaa", sum := "cda5fa34f617852aa67cf5a09e878d629f617a6c693e87af4e9b7c507d71c108", func := "falsework/falseworklaw15.TxnNil", spec := "txnNil", inPlace := ["slices.overlaps[falsework/api.Pair]", "slices.overlaps[[]falsework/api.Pair]"], unfollowed := true, recurses := true, apart := false }
def TxnNilSaid : Prop := txnNilRow.holds Try.pinned (OpenSpec.ofChange txnNilSpec)

/-- ITS FALSE NEIGHBOUR: 'it returns false'. Refute it at one input. -/
def txnNilWrong : ChangeSpec := { name := "txnNil", fn := fun _ => fun
  | [d1, d2, d3] => { results := [.lit (.bool false)], args := [d1, d2, d3] }
  | _ => none }
def TxnNilWrongFalsely : Prop := txnNilRow.holds Try.pinned (OpenSpec.ofChange txnNilWrong)

/- THE SECOND FORM. 'bulk': how many values and letters a reading holds, each counted each time it is reached (what is shared counts as often as it is met; a slice's spare places count too). A statement '..UptoSaid' is the law's where the arguments, and the package variables that the reading takes, are together of bulk at most 1048576: NARROWER than '..Said'. Prove '..Said' where nothing that the law and all that it calls make is longer than what came in: it says more and counts as full. Else prove '..UptoSaid'. A law counts once. -/
mutual
def uptoBulk {H : Type} : DataW H → Nat
  | .lit (.string bytes) => bytes.length + 1
  | .lit _ => 1
  | .nil => 1
  | .ptr d => uptoBulk d + 1
  | .slice elems spare => uptoBulkAll elems + uptoBulkAll spare + 1
  | .agg parts => uptoBulkAll parts + 1
  | .iface _ d => uptoBulk d + 1
  | .map entries => uptoBulkEntries entries + 1
  | .held _ => 1
def uptoBulkAll {H : Type} : List (DataW H) → Nat
  | [] => 0
  | d :: r => uptoBulk d + uptoBulkAll r
def uptoBulkEntries {H : Type} : List (Lit × DataW H) → Nat
  | [] => 0
  | x :: r => uptoBulkEntry x + uptoBulkEntries r
def uptoBulkEntry {H : Type} : Lit × DataW H → Nat
  | (.string bytes, d) => bytes.length + uptoBulk d + 1
  | (_, d) => uptoBulk d + 1
 end
def uptoSmall : (H : Type) → List (DataW H) → Bool := fun _ ds => decide (uptoBulkAll ds ≤ 1048576)
def OpenSpec.upto (s : _root_.Go.ChangeSpec) : _root_.Go.OpenSpec := { _root_.Go.OpenSpec.ofChange s with cond := some uptoSmall }

/-- 'falseworklaw7.PageRights', WHERE WHAT IT READS IS OF BULK AT MOST 1048576: true; the input reads as it did. -/
def pageRightsUptoRow : OpenClaim := { program := "ytookpmdgoednfaa", sum := "cda5fa34f617852aa67cf5a09e878d629f617a6c693e87af4e9b7c507d71c108", func := "falsework/falseworklaw7.PageRights", spec := "pageRights", inPlace := ["slices.overlaps[falsework/api.Pair]", "slices.overlaps[[]falsework/api.Pair]"], unfollowed := true, recurses := true, apart := false, narrowed := true }
def PageRightsUptoSaid : Prop := pageRightsUptoRow.holds Try.pinned (OpenSpec.upto pageRightsSpec)

/-- 'falseworklaw7.PagePuts', WHERE WHAT IT READS IS OF BULK AT MOST 1048576: true; the input reads as it did. -/
def pagePutsUptoRow : OpenClaim := { program := "ytookpmdgoednfaa", sum := "cda5fa34f617852aa67cf5a09e878d629f617a6c693e87af4e9b7c507d71c108", func := "falsework/falseworklaw7.PagePuts", spec := "pagePuts", inPlace := ["slices.overlaps[falsework/api.Pair]", "slices.overlaps[[]falsework/api.Pair]"], unfollowed := true, recurses := true, apart := false, narrowed := true }
def PagePutsUptoSaid : Prop := pagePutsUptoRow.holds Try.pinned (OpenSpec.upto pagePutsSpec)

/-- 'falseworklaw7.PageScans', WHERE WHAT IT READS IS OF BULK AT MOST 1048576: true; the input reads as it did. -/
def pageScansUptoRow : OpenClaim := { program := "ytookpmdgoednfaa", sum := "cda5fa34f617852aa67cf5a09e878d629f617a6c693e87af4e9b7c507d71c108", func := "falsework/falseworklaw7.PageScans", spec := "pageScans", inPlace := ["slices.overlaps[falsework/api.Pair]", "slices.overlaps[[]falsework/api.Pair]"], unfollowed := true, recurses := true, apart := false, narrowed := true }
def PageScansUptoSaid : Prop := pageScansUptoRow.holds Try.pinned (OpenSpec.upto pageScansSpec)

/-- 'falseworklaw7.PageDels', WHERE WHAT IT READS IS OF BULK AT MOST 1048576: true; the input reads as it did. -/
def pageDelsUptoRow : OpenClaim := { program := "ytookpmdgoednfaa", sum := "cda5fa34f617852aa67cf5a09e878d629f617a6c693e87af4e9b7c507d71c108", func := "falsework/falseworklaw7.PageDels", spec := "pageDels", inPlace := ["slices.overlaps[falsework/api.Pair]", "slices.overlaps[[]falsework/api.Pair]"], unfollowed := true, recurses := true, apart := false, narrowed := true }
def PageDelsUptoSaid : Prop := pageDelsUptoRow.holds Try.pinned (OpenSpec.upto pageDelsSpec)

/-- 'falseworklaw7.PageLists', WHERE WHAT IT READS IS OF BULK AT MOST 1048576: true; the input reads as it did. -/
def pageListsUptoRow : OpenClaim := { program := "ytookpmdgoednfaa", sum := "cda5fa34f617852aa67cf5a09e878d629f617a6c693e87af4e9b7c507d71c108", func := "falsework/falseworklaw7.PageLists", spec := "pageLists", inPlace := ["slices.overlaps[falsework/api.Pair]", "slices.overlaps[[]falsework/api.Pair]"], unfollowed := true, recurses := true, apart := false, narrowed := true }
def PageListsUptoSaid : Prop := pageListsUptoRow.holds Try.pinned (OpenSpec.upto pageListsSpec)

/-- 'falseworklaw8.StoreFulls', WHERE WHAT IT READS IS OF BULK AT MOST 1048576: true; the input reads as it did. -/
def storeFullsUptoRow : OpenClaim := { program := "ytookpmdgoednfaa", sum := "cda5fa34f617852aa67cf5a09e878d629f617a6c693e87af4e9b7c507d71c108", func := "falsework/falseworklaw8.StoreFulls", spec := "storeFulls", inPlace := ["slices.overlaps[falsework/api.Pair]", "slices.overlaps[[]falsework/api.Pair]"], unfollowed := true, recurses := true, apart := false, narrowed := true }
def StoreFullsUptoSaid : Prop := storeFullsUptoRow.holds Try.pinned (OpenSpec.upto storeFullsSpec)

/-- 'falseworklaw8.StoreTrims', WHERE WHAT IT READS IS OF BULK AT MOST 1048576: true; the input reads as it did. -/
def storeTrimsUptoRow : OpenClaim := { program := "ytookpmdgoednfaa", sum := "cda5fa34f617852aa67cf5a09e878d629f617a6c693e87af4e9b7c507d71c108", func := "falsework/falseworklaw8.StoreTrims", spec := "storeTrims", inPlace := ["slices.overlaps[falsework/api.Pair]", "slices.overlaps[[]falsework/api.Pair]"], unfollowed := true, recurses := true, apart := false, narrowed := true }
def StoreTrimsUptoSaid : Prop := storeTrimsUptoRow.holds Try.pinned (OpenSpec.upto storeTrimsSpec)

/-- 'falseworklaw8.StorePast', WHERE WHAT IT READS IS OF BULK AT MOST 1048576: true; the input reads as it did. -/
def storePastUptoRow : OpenClaim := { program := "ytookpmdgoednfaa", sum := "cda5fa34f617852aa67cf5a09e878d629f617a6c693e87af4e9b7c507d71c108", func := "falsework/falseworklaw8.StorePast", spec := "storePast", inPlace := ["slices.overlaps[falsework/api.Pair]", "slices.overlaps[[]falsework/api.Pair]"], unfollowed := true, recurses := true, apart := false, narrowed := true }
def StorePastUptoSaid : Prop := storePastUptoRow.holds Try.pinned (OpenSpec.upto storePastSpec)

/-- 'falseworklaw8.StoreRuns', WHERE WHAT IT READS IS OF BULK AT MOST 1048576: true; the input reads as it did. -/
def storeRunsUptoRow : OpenClaim := { program := "ytookpmdgoednfaa", sum := "cda5fa34f617852aa67cf5a09e878d629f617a6c693e87af4e9b7c507d71c108", func := "falsework/falseworklaw8.StoreRuns", spec := "storeRuns", inPlace := ["slices.overlaps[falsework/api.Pair]", "slices.overlaps[[]falsework/api.Pair]"], unfollowed := true, recurses := true, apart := false, narrowed := true }
def StoreRunsUptoSaid : Prop := storeRunsUptoRow.holds Try.pinned (OpenSpec.upto storeRunsSpec)

/-- 'falseworklaw8.StoreCopies', WHERE WHAT IT READS IS OF BULK AT MOST 1048576: true; the input reads as it did. -/
def storeCopiesUptoRow : OpenClaim := { program := "ytookpmdgoednfaa", sum := "cda5fa34f617852aa67cf5a09e878d629f617a6c693e87af4e9b7c507d71c108", func := "falsework/falseworklaw8.StoreCopies", spec := "storeCopies", inPlace := ["slices.overlaps[falsework/api.Pair]", "slices.overlaps[[]falsework/api.Pair]"], unfollowed := true, recurses := true, apart := false, narrowed := true }
def StoreCopiesUptoSaid : Prop := storeCopiesUptoRow.holds Try.pinned (OpenSpec.upto storeCopiesSpec)

/-- 'falseworklaw8.StoreNil', WHERE WHAT IT READS IS OF BULK AT MOST 1048576: true; the input reads as it did. -/
def storeNilUptoRow : OpenClaim := { program := "ytookpmdgoednfaa", sum := "cda5fa34f617852aa67cf5a09e878d629f617a6c693e87af4e9b7c507d71c108", func := "falsework/falseworklaw8.StoreNil", spec := "storeNil", inPlace := ["slices.overlaps[falsework/api.Pair]", "slices.overlaps[[]falsework/api.Pair]"], unfollowed := true, recurses := true, apart := false, narrowed := true }
def StoreNilUptoSaid : Prop := storeNilUptoRow.holds Try.pinned (OpenSpec.upto storeNilSpec)

/-- 'falseworklaw15.TxnNotes', WHERE WHAT IT READS IS OF BULK AT MOST 1048576: true; the input reads as it did. -/
def txnNotesUptoRow : OpenClaim := { program := "ytookpmdgoednfaa", sum := "cda5fa34f617852aa67cf5a09e878d629f617a6c693e87af4e9b7c507d71c108", func := "falsework/falseworklaw15.TxnNotes", spec := "txnNotes", inPlace := ["slices.overlaps[falsework/api.Pair]", "slices.overlaps[[]falsework/api.Pair]"], unfollowed := true, recurses := true, apart := false, narrowed := true }
def TxnNotesUptoSaid : Prop := txnNotesUptoRow.holds Try.pinned (OpenSpec.upto txnNotesSpec)

/-- 'falseworklaw15.TxnKeeps', WHERE WHAT IT READS IS OF BULK AT MOST 1048576: true; the input reads as it did. -/
def txnKeepsUptoRow : OpenClaim := { program := "ytookpmdgoednfaa", sum := "cda5fa34f617852aa67cf5a09e878d629f617a6c693e87af4e9b7c507d71c108", func := "falsework/falseworklaw15.TxnKeeps", spec := "txnKeeps", inPlace := ["slices.overlaps[falsework/api.Pair]", "slices.overlaps[[]falsework/api.Pair]"], unfollowed := true, recurses := true, apart := false, narrowed := true }
def TxnKeepsUptoSaid : Prop := txnKeepsUptoRow.holds Try.pinned (OpenSpec.upto txnKeepsSpec)

/-- 'falseworklaw15.TxnRuns', WHERE WHAT IT READS IS OF BULK AT MOST 1048576: true; the input reads as it did. -/
def txnRunsUptoRow : OpenClaim := { program := "ytookpmdgoednfaa", sum := "cda5fa34f617852aa67cf5a09e878d629f617a6c693e87af4e9b7c507d71c108", func := "falsework/falseworklaw15.TxnRuns", spec := "txnRuns", inPlace := ["slices.overlaps[falsework/api.Pair]", "slices.overlaps[[]falsework/api.Pair]"], unfollowed := true, recurses := true, apart := false, narrowed := true }
def TxnRunsUptoSaid : Prop := txnRunsUptoRow.holds Try.pinned (OpenSpec.upto txnRunsSpec)

/-- 'falseworklaw15.TxnOwn', WHERE WHAT IT READS IS OF BULK AT MOST 1048576: true; the input reads as it did. -/
def txnOwnUptoRow : OpenClaim := { program := "ytookpmdgoednfaa", sum := "cda5fa34f617852aa67cf5a09e878d629f617a6c693e87af4e9b7c507d71c108", func := "falsework/falseworklaw15.TxnOwn", spec := "txnOwn", inPlace := ["slices.overlaps[falsework/api.Pair]", "slices.overlaps[[]falsework/api.Pair]"], unfollowed := true, recurses := true, apart := false, narrowed := true }
def TxnOwnUptoSaid : Prop := txnOwnUptoRow.holds Try.pinned (OpenSpec.upto txnOwnSpec)

/-- 'falseworklaw15.TxnNil', WHERE WHAT IT READS IS OF BULK AT MOST 1048576: true; the input reads as it did. -/
def txnNilUptoRow : OpenClaim := { program := "ytookpmdgoednfaa", sum := "cda5fa34f617852aa67cf5a09e878d629f617a6c693e87af4e9b7c507d71c108", func := "falsework/falseworklaw15.TxnNil", spec := "txnNil", inPlace := ["slices.overlaps[falsework/api.Pair]", "slices.overlaps[[]falsework/api.Pair]"], unfollowed := true, recurses := true, apart := false, narrowed := true }
def TxnNilUptoSaid : Prop := txnNilUptoRow.holds Try.pinned (OpenSpec.upto txnNilSpec)

end Rows
end Go.Proofs.Ytookpmdgoednfaa
