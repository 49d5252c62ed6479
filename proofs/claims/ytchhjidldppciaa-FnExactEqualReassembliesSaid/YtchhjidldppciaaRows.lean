/-
  No cell of these rows narrows 'for every input' (looked for: loops, veiled, ifaces, maps, wideKeys, modest, calm, conditions, laid).
  DERIVED. THE GIVEN ROWS OF THIS SEAT. 12 by the template 'for every input the law returns true; each argument reads behind the call as it read before'; 0 by the template 'total and deterministic' (their statements: YtchhjidldppciaaTotals.lean).
  GIVEN WITH THE SEED: the statements are not yours to turn. If you find one false, say at which input.
  Laid BY PROGRAM, IN A SANDBOX (cutbox-rows.mjs): the forced cells as the released guide's own fill.sh prints them over the translation f148da5612deb76c… (all of the seat's roots in one cut). By AI agents, Wed Nov 11 2026. No macro, syntax, notation, axiom, sorry.
-/
import Derived.Test.YtchhjidldppciaaChecked
import GoSem.Claim
import GoSem.ClaimJoined
import GoSem.ClaimMapViews
import Derived.JoinedTies
import Derived.KernelRfl
namespace Go.Proofs.Ytchhjidldppciaa
/- THE CELL 'sum', in the pinned program and in every row, IS THE sha256 OF THE DUMP (.gsa) THAT YtchhjidldppciaaProg.lean LOADS. Nothing in Lean hashes anything: it is a label: what it is worth is what the hold of that sum in a sandbox is worth. -/
noncomputable def Try.pinned : Pinned := { name := "ytchhjidldppciaa", sum := "f148da5612deb76ca2815711205a4400f9abd34bc133734ba51935a3470ae078", checked := Try.checked }
namespace Rows
def none {H : Type} : Left H := { results := [], args := [] }

/-- 'laws.FnExactInternalWinner': WHATEVER THE INPUT: true; the input reads as it did. -/
def fnExactInternalWinnerSpec : ChangeSpec := { name := "fnExactInternalWinner", fn := fun _ => fun
  | [d] => { results := [.lit (.bool true)], args := [d] }
  | _ => none }
def fnExactInternalWinnerRow : OpenClaim := { program := "ytchhjidldppciaa", sum := "f148da5612deb76ca2815711205a4400f9abd34bc133734ba51935a3470ae078", func := "loop.example/g00511/laws.FnExactInternalWinner", spec := "fnExactInternalWinner", apart := false }
def FnExactInternalWinnerSaid : Prop := fnExactInternalWinnerRow.holds Try.pinned (OpenSpec.ofChange fnExactInternalWinnerSpec)

/-- ITS FALSE NEIGHBOUR: 'it returns false'. Refute it at one input. -/
def fnExactInternalWinnerWrong : ChangeSpec := { name := "fnExactInternalWinner", fn := fun _ => fun
  | [d] => { results := [.lit (.bool false)], args := [d] }
  | _ => none }
def FnExactInternalWinnerWrongFalsely : Prop := fnExactInternalWinnerRow.holds Try.pinned (OpenSpec.ofChange fnExactInternalWinnerWrong)

/-- 'laws.FnExactAggregateSize': WHATEVER THE INPUT: true; the input reads as it did. -/
def fnExactAggregateSizeSpec : ChangeSpec := { name := "fnExactAggregateSize", fn := fun _ => fun
  | [d] => { results := [.lit (.bool true)], args := [d] }
  | _ => none }
def fnExactAggregateSizeRow : OpenClaim := { program := "ytchhjidldppciaa", sum := "f148da5612deb76ca2815711205a4400f9abd34bc133734ba51935a3470ae078", func := "loop.example/g00511/laws.FnExactAggregateSize", spec := "fnExactAggregateSize", apart := false }
def FnExactAggregateSizeSaid : Prop := fnExactAggregateSizeRow.holds Try.pinned (OpenSpec.ofChange fnExactAggregateSizeSpec)

/-- ITS FALSE NEIGHBOUR: 'it returns false'. Refute it at one input. -/
def fnExactAggregateSizeWrong : ChangeSpec := { name := "fnExactAggregateSize", fn := fun _ => fun
  | [d] => { results := [.lit (.bool false)], args := [d] }
  | _ => none }
def FnExactAggregateSizeWrongFalsely : Prop := fnExactAggregateSizeRow.holds Try.pinned (OpenSpec.ofChange fnExactAggregateSizeWrong)

/-- 'laws.FnExactFitsAggregate': WHATEVER THE INPUT: true; the input reads as it did. -/
def fnExactFitsAggregateSpec : ChangeSpec := { name := "fnExactFitsAggregate", fn := fun _ => fun
  | [d1, d2, d3] => { results := [.lit (.bool true)], args := [d1, d2, d3] }
  | _ => none }
def fnExactFitsAggregateRow : OpenClaim := { program := "ytchhjidldppciaa", sum := "f148da5612deb76ca2815711205a4400f9abd34bc133734ba51935a3470ae078", func := "loop.example/g00511/laws.FnExactFitsAggregate", spec := "fnExactFitsAggregate", apart := false }
def FnExactFitsAggregateSaid : Prop := fnExactFitsAggregateRow.holds Try.pinned (OpenSpec.ofChange fnExactFitsAggregateSpec)

/-- ITS FALSE NEIGHBOUR: 'it returns false'. Refute it at one input. -/
def fnExactFitsAggregateWrong : ChangeSpec := { name := "fnExactFitsAggregate", fn := fun _ => fun
  | [d1, d2, d3] => { results := [.lit (.bool false)], args := [d1, d2, d3] }
  | _ => none }
def FnExactFitsAggregateWrongFalsely : Prop := fnExactFitsAggregateRow.holds Try.pinned (OpenSpec.ofChange fnExactFitsAggregateWrong)

/-- 'laws.FnExactAreValidSeen': WHATEVER THE INPUT: true; the input reads as it did. -/
def fnExactAreValidSeenSpec : ChangeSpec := { name := "fnExactAreValidSeen", fn := fun _ => fun
  | [d] => { results := [.lit (.bool true)], args := [d] }
  | _ => none }
def fnExactAreValidSeenRow : OpenClaim := { program := "ytchhjidldppciaa", sum := "f148da5612deb76ca2815711205a4400f9abd34bc133734ba51935a3470ae078", func := "loop.example/g00511/laws.FnExactAreValidSeen", spec := "fnExactAreValidSeen", apart := false }
def FnExactAreValidSeenSaid : Prop := fnExactAreValidSeenRow.holds Try.pinned (OpenSpec.ofChange fnExactAreValidSeenSpec)

/-- ITS FALSE NEIGHBOUR: 'it returns false'. Refute it at one input. -/
def fnExactAreValidSeenWrong : ChangeSpec := { name := "fnExactAreValidSeen", fn := fun _ => fun
  | [d] => { results := [.lit (.bool false)], args := [d] }
  | _ => none }
def FnExactAreValidSeenWrongFalsely : Prop := fnExactAreValidSeenRow.holds Try.pinned (OpenSpec.ofChange fnExactAreValidSeenWrong)

/-- 'laws.FnExactIsValidMessage': WHATEVER THE INPUT: true; the input reads as it did. -/
def fnExactIsValidMessageSpec : ChangeSpec := { name := "fnExactIsValidMessage", fn := fun _ => fun
  | [d] => { results := [.lit (.bool true)], args := [d] }
  | _ => none }
def fnExactIsValidMessageRow : OpenClaim := { program := "ytchhjidldppciaa", sum := "f148da5612deb76ca2815711205a4400f9abd34bc133734ba51935a3470ae078", func := "loop.example/g00511/laws.FnExactIsValidMessage", spec := "fnExactIsValidMessage", apart := false }
def FnExactIsValidMessageSaid : Prop := fnExactIsValidMessageRow.holds Try.pinned (OpenSpec.ofChange fnExactIsValidMessageSpec)

/-- ITS FALSE NEIGHBOUR: 'it returns false'. Refute it at one input. -/
def fnExactIsValidMessageWrong : ChangeSpec := { name := "fnExactIsValidMessage", fn := fun _ => fun
  | [d] => { results := [.lit (.bool false)], args := [d] }
  | _ => none }
def FnExactIsValidMessageWrongFalsely : Prop := fnExactIsValidMessageRow.holds Try.pinned (OpenSpec.ofChange fnExactIsValidMessageWrong)

/-- 'laws.FnExactCountCategory': WHATEVER THE INPUT: true; the input reads as it did. -/
def fnExactCountCategorySpec : ChangeSpec := { name := "fnExactCountCategory", fn := fun _ => fun
  | [d1, d2] => { results := [.lit (.bool true)], args := [d1, d2] }
  | _ => none }
def fnExactCountCategoryRow : OpenClaim := { program := "ytchhjidldppciaa", sum := "f148da5612deb76ca2815711205a4400f9abd34bc133734ba51935a3470ae078", func := "loop.example/g00511/laws.FnExactCountCategory", spec := "fnExactCountCategory", apart := false }
def FnExactCountCategorySaid : Prop := fnExactCountCategoryRow.holds Try.pinned (OpenSpec.ofChange fnExactCountCategorySpec)

/-- ITS FALSE NEIGHBOUR: 'it returns false'. Refute it at one input. -/
def fnExactCountCategoryWrong : ChangeSpec := { name := "fnExactCountCategory", fn := fun _ => fun
  | [d1, d2] => { results := [.lit (.bool false)], args := [d1, d2] }
  | _ => none }
def FnExactCountCategoryWrongFalsely : Prop := fnExactCountCategoryRow.holds Try.pinned (OpenSpec.ofChange fnExactCountCategoryWrong)

/-- 'laws.FnExactNextMessage': WHATEVER THE INPUT: true; the input reads as it did. -/
def fnExactNextMessageSpec : ChangeSpec := { name := "fnExactNextMessage", fn := fun _ => fun
  | [d] => { results := [.lit (.bool true)], args := [d] }
  | _ => none }
def fnExactNextMessageRow : OpenClaim := { program := "ytchhjidldppciaa", sum := "f148da5612deb76ca2815711205a4400f9abd34bc133734ba51935a3470ae078", func := "loop.example/g00511/laws.FnExactNextMessage", spec := "fnExactNextMessage", apart := false }
def FnExactNextMessageSaid : Prop := fnExactNextMessageRow.holds Try.pinned (OpenSpec.ofChange fnExactNextMessageSpec)

/-- ITS FALSE NEIGHBOUR: 'it returns false'. Refute it at one input. -/
def fnExactNextMessageWrong : ChangeSpec := { name := "fnExactNextMessage", fn := fun _ => fun
  | [d] => { results := [.lit (.bool false)], args := [d] }
  | _ => none }
def FnExactNextMessageWrongFalsely : Prop := fnExactNextMessageRow.holds Try.pinned (OpenSpec.ofChange fnExactNextMessageWrong)

/-- 'laws.FnExactIsValidQueue': WHATEVER THE INPUT: true; the input reads as it did. -/
def fnExactIsValidQueueSpec : ChangeSpec := { name := "fnExactIsValidQueue", fn := fun _ => fun
  | [d] => { results := [.lit (.bool true)], args := [d] }
  | _ => none }
def fnExactIsValidQueueRow : OpenClaim := { program := "ytchhjidldppciaa", sum := "f148da5612deb76ca2815711205a4400f9abd34bc133734ba51935a3470ae078", func := "loop.example/g00511/laws.FnExactIsValidQueue", spec := "fnExactIsValidQueue", apart := false }
def FnExactIsValidQueueSaid : Prop := fnExactIsValidQueueRow.holds Try.pinned (OpenSpec.ofChange fnExactIsValidQueueSpec)

/-- ITS FALSE NEIGHBOUR: 'it returns false'. Refute it at one input. -/
def fnExactIsValidQueueWrong : ChangeSpec := { name := "fnExactIsValidQueue", fn := fun _ => fun
  | [d] => { results := [.lit (.bool false)], args := [d] }
  | _ => none }
def FnExactIsValidQueueWrongFalsely : Prop := fnExactIsValidQueueRow.holds Try.pinned (OpenSpec.ofChange fnExactIsValidQueueWrong)

/-- 'laws.FnExactEqualQueues': WHATEVER THE INPUT: true; the input reads as it did. -/
def fnExactEqualQueuesSpec : ChangeSpec := { name := "fnExactEqualQueues", fn := fun _ => fun
  | [d1, d2] => { results := [.lit (.bool true)], args := [d1, d2] }
  | _ => none }
def fnExactEqualQueuesRow : OpenClaim := { program := "ytchhjidldppciaa", sum := "f148da5612deb76ca2815711205a4400f9abd34bc133734ba51935a3470ae078", func := "loop.example/g00511/laws.FnExactEqualQueues", spec := "fnExactEqualQueues", apart := false }
def FnExactEqualQueuesSaid : Prop := fnExactEqualQueuesRow.holds Try.pinned (OpenSpec.ofChange fnExactEqualQueuesSpec)

/-- ITS FALSE NEIGHBOUR: 'it returns false'. Refute it at one input. -/
def fnExactEqualQueuesWrong : ChangeSpec := { name := "fnExactEqualQueues", fn := fun _ => fun
  | [d1, d2] => { results := [.lit (.bool false)], args := [d1, d2] }
  | _ => none }
def FnExactEqualQueuesWrongFalsely : Prop := fnExactEqualQueuesRow.holds Try.pinned (OpenSpec.ofChange fnExactEqualQueuesWrong)

/-- 'laws.FnExactEqualReassemblies': WHATEVER THE INPUT: true; the input reads as it did. -/
def fnExactEqualReassembliesSpec : ChangeSpec := { name := "fnExactEqualReassemblies", fn := fun _ => fun
  | [d1, d2] => { results := [.lit (.bool true)], args := [d1, d2] }
  | _ => none }
def fnExactEqualReassembliesRow : OpenClaim := { program := "ytchhjidldppciaa", sum := "f148da5612deb76ca2815711205a4400f9abd34bc133734ba51935a3470ae078", func := "loop.example/g00511/laws.FnExactEqualReassemblies", spec := "fnExactEqualReassemblies", apart := false }
def FnExactEqualReassembliesSaid : Prop := fnExactEqualReassembliesRow.holds Try.pinned (OpenSpec.ofChange fnExactEqualReassembliesSpec)

/-- ITS FALSE NEIGHBOUR: 'it returns false'. Refute it at one input. -/
def fnExactEqualReassembliesWrong : ChangeSpec := { name := "fnExactEqualReassemblies", fn := fun _ => fun
  | [d1, d2] => { results := [.lit (.bool false)], args := [d1, d2] }
  | _ => none }
def FnExactEqualReassembliesWrongFalsely : Prop := fnExactEqualReassembliesRow.holds Try.pinned (OpenSpec.ofChange fnExactEqualReassembliesWrong)

/-- 'laws.FnExactIsDuplicate': WHATEVER THE INPUT: true; the input reads as it did. -/
def fnExactIsDuplicateSpec : ChangeSpec := { name := "fnExactIsDuplicate", fn := fun _ => fun
  | [d1, d2, d3] => { results := [.lit (.bool true)], args := [d1, d2, d3] }
  | _ => none }
def fnExactIsDuplicateRow : OpenClaim := { program := "ytchhjidldppciaa", sum := "f148da5612deb76ca2815711205a4400f9abd34bc133734ba51935a3470ae078", func := "loop.example/g00511/laws.FnExactIsDuplicate", spec := "fnExactIsDuplicate", apart := false }
def FnExactIsDuplicateSaid : Prop := fnExactIsDuplicateRow.holds Try.pinned (OpenSpec.ofChange fnExactIsDuplicateSpec)

/-- ITS FALSE NEIGHBOUR: 'it returns false'. Refute it at one input. -/
def fnExactIsDuplicateWrong : ChangeSpec := { name := "fnExactIsDuplicate", fn := fun _ => fun
  | [d1, d2, d3] => { results := [.lit (.bool false)], args := [d1, d2, d3] }
  | _ => none }
def FnExactIsDuplicateWrongFalsely : Prop := fnExactIsDuplicateRow.holds Try.pinned (OpenSpec.ofChange fnExactIsDuplicateWrong)

/-- 'laws.FnExactIsExposed': WHATEVER THE INPUT: true; the input reads as it did. -/
def fnExactIsExposedSpec : ChangeSpec := { name := "fnExactIsExposed", fn := fun _ => fun
  | [d1, d2, d3, d4, d5] => { results := [.lit (.bool true)], args := [d1, d2, d3, d4, d5] }
  | _ => none }
def fnExactIsExposedRow : OpenClaim := { program := "ytchhjidldppciaa", sum := "f148da5612deb76ca2815711205a4400f9abd34bc133734ba51935a3470ae078", func := "loop.example/g00511/laws.FnExactIsExposed", spec := "fnExactIsExposed", apart := false }
def FnExactIsExposedSaid : Prop := fnExactIsExposedRow.holds Try.pinned (OpenSpec.ofChange fnExactIsExposedSpec)

/-- ITS FALSE NEIGHBOUR: 'it returns false'. Refute it at one input. -/
def fnExactIsExposedWrong : ChangeSpec := { name := "fnExactIsExposed", fn := fun _ => fun
  | [d1, d2, d3, d4, d5] => { results := [.lit (.bool false)], args := [d1, d2, d3, d4, d5] }
  | _ => none }
def FnExactIsExposedWrongFalsely : Prop := fnExactIsExposedRow.holds Try.pinned (OpenSpec.ofChange fnExactIsExposedWrong)

/- THE SECOND FORM. 'bulk': how many values and letters a reading holds, each counted each time it is reached (what is shared counts as often as it is met; a slice's spare places count too). A statement '..UptoSaid' is the law's where the arguments, and the package variables that the reading takes, are together of bulk at most 1048576: NARROWER than '..Said'. Prove '..Said' where nothing that the law and all that it calls make is longer than what came in: it says more and counts as full. Else prove '..UptoSaid'. A law counts once. -/
mutual
def uptoBulk {H : Type} : DataW H → Nat
  | .lit (.string bytes) => bytes.length + 1
  | .lit _ => 1
  | .nil => 1
  | .ptr d => uptoBulk d + 1
  | .slice elems spare => uptoBulkAll elems + uptoBulkAll spare + 1
  | .agg parts => uptoBulkAll parts + 1
  | .iface _ d => uptoBulk d + 1
  | .map entries => uptoBulkEntries entries + 1
  | .held _ => 1
def uptoBulkAll {H : Type} : List (DataW H) → Nat
  | [] => 0
  | d :: r => uptoBulk d + uptoBulkAll r
def uptoBulkEntries {H : Type} : List (Lit × DataW H) → Nat
  | [] => 0
  | x :: r => uptoBulkEntry x + uptoBulkEntries r
def uptoBulkEntry {H : Type} : Lit × DataW H → Nat
  | (.string bytes, d) => bytes.length + uptoBulk d + 1
  | (_, d) => uptoBulk d + 1
 end
def uptoSmall : (H : Type) → List (DataW H) → Bool := fun _ ds => decide (uptoBulkAll ds ≤ 1048576)
def OpenSpec.upto (s : _root_.Go.ChangeSpec) : _root_.Go.OpenSpec := { _root_.Go.OpenSpec.ofChange s with cond := some uptoSmall }

/-- 'laws.FnExactInternalWinner', WHERE WHAT IT READS IS OF BULK AT MOST 1048576: true; the input reads as it did. -/
def fnExactInternalWinnerUptoRow : OpenClaim := { program := "ytchhjidldppciaa", sum := "f148da5612deb76ca2815711205a4400f9abd34bc133734ba51935a3470ae078", func := "loop.example/g00511/laws.FnExactInternalWinner", spec := "fnExactInternalWinner", apart := false, narrowed := true }
def FnExactInternalWinnerUptoSaid : Prop := fnExactInternalWinnerUptoRow.holds Try.pinned (OpenSpec.upto fnExactInternalWinnerSpec)

/-- 'laws.FnExactAggregateSize', WHERE WHAT IT READS IS OF BULK AT MOST 1048576: true; the input reads as it did. -/
def fnExactAggregateSizeUptoRow : OpenClaim := { program := "ytchhjidldppciaa", sum := "f148da5612deb76ca2815711205a4400f9abd34bc133734ba51935a3470ae078", func := "loop.example/g00511/laws.FnExactAggregateSize", spec := "fnExactAggregateSize", apart := false, narrowed := true }
def FnExactAggregateSizeUptoSaid : Prop := fnExactAggregateSizeUptoRow.holds Try.pinned (OpenSpec.upto fnExactAggregateSizeSpec)

/-- 'laws.FnExactFitsAggregate', WHERE WHAT IT READS IS OF BULK AT MOST 1048576: true; the input reads as it did. -/
def fnExactFitsAggregateUptoRow : OpenClaim := { program := "ytchhjidldppciaa", sum := "f148da5612deb76ca2815711205a4400f9abd34bc133734ba51935a3470ae078", func := "loop.example/g00511/laws.FnExactFitsAggregate", spec := "fnExactFitsAggregate", apart := false, narrowed := true }
def FnExactFitsAggregateUptoSaid : Prop := fnExactFitsAggregateUptoRow.holds Try.pinned (OpenSpec.upto fnExactFitsAggregateSpec)

/-- 'laws.FnExactAreValidSeen', WHERE WHAT IT READS IS OF BULK AT MOST 1048576: true; the input reads as it did. -/
def fnExactAreValidSeenUptoRow : OpenClaim := { program := "ytchhjidldppciaa", sum := "f148da5612deb76ca2815711205a4400f9abd34bc133734ba51935a3470ae078", func := "loop.example/g00511/laws.FnExactAreValidSeen", spec := "fnExactAreValidSeen", apart := false, narrowed := true }
def FnExactAreValidSeenUptoSaid : Prop := fnExactAreValidSeenUptoRow.holds Try.pinned (OpenSpec.upto fnExactAreValidSeenSpec)

/-- 'laws.FnExactIsValidMessage', WHERE WHAT IT READS IS OF BULK AT MOST 1048576: true; the input reads as it did. -/
def fnExactIsValidMessageUptoRow : OpenClaim := { program := "ytchhjidldppciaa", sum := "f148da5612deb76ca2815711205a4400f9abd34bc133734ba51935a3470ae078", func := "loop.example/g00511/laws.FnExactIsValidMessage", spec := "fnExactIsValidMessage", apart := false, narrowed := true }
def FnExactIsValidMessageUptoSaid : Prop := fnExactIsValidMessageUptoRow.holds Try.pinned (OpenSpec.upto fnExactIsValidMessageSpec)

/-- 'laws.FnExactCountCategory', WHERE WHAT IT READS IS OF BULK AT MOST 1048576: true; the input reads as it did. -/
def fnExactCountCategoryUptoRow : OpenClaim := { program := "ytchhjidldppciaa", sum := "f148da5612deb76ca2815711205a4400f9abd34bc133734ba51935a3470ae078", func := "loop.example/g00511/laws.FnExactCountCategory", spec := "fnExactCountCategory", apart := false, narrowed := true }
def FnExactCountCategoryUptoSaid : Prop := fnExactCountCategoryUptoRow.holds Try.pinned (OpenSpec.upto fnExactCountCategorySpec)

/-- 'laws.FnExactNextMessage', WHERE WHAT IT READS IS OF BULK AT MOST 1048576: true; the input reads as it did. -/
def fnExactNextMessageUptoRow : OpenClaim := { program := "ytchhjidldppciaa", sum := "f148da5612deb76ca2815711205a4400f9abd34bc133734ba51935a3470ae078", func := "loop.example/g00511/laws.FnExactNextMessage", spec := "fnExactNextMessage", apart := false, narrowed := true }
def FnExactNextMessageUptoSaid : Prop := fnExactNextMessageUptoRow.holds Try.pinned (OpenSpec.upto fnExactNextMessageSpec)

/-- 'laws.FnExactIsValidQueue', WHERE WHAT IT READS IS OF BULK AT MOST 1048576: true; the input reads as it did. -/
def fnExactIsValidQueueUptoRow : OpenClaim := { program := "ytchhjidldppciaa", sum := "f148da5612deb76ca2815711205a4400f9abd34bc133734ba51935a3470ae078", func := "loop.example/g00511/laws.FnExactIsValidQueue", spec := "fnExactIsValidQueue", apart := false, narrowed := true }
def FnExactIsValidQueueUptoSaid : Prop := fnExactIsValidQueueUptoRow.holds Try.pinned (OpenSpec.upto fnExactIsValidQueueSpec)

/-- 'laws.FnExactEqualQueues', WHERE WHAT IT READS IS OF BULK AT MOST 1048576: true; the input reads as it did. -/
def fnExactEqualQueuesUptoRow : OpenClaim := { program := "ytchhjidldppciaa", sum := "f148da5612deb76ca2815711205a4400f9abd34bc133734ba51935a3470ae078", func := "loop.example/g00511/laws.FnExactEqualQueues", spec := "fnExactEqualQueues", apart := false, narrowed := true }
def FnExactEqualQueuesUptoSaid : Prop := fnExactEqualQueuesUptoRow.holds Try.pinned (OpenSpec.upto fnExactEqualQueuesSpec)

/-- 'laws.FnExactEqualReassemblies', WHERE WHAT IT READS IS OF BULK AT MOST 1048576: true; the input reads as it did. -/
def fnExactEqualReassembliesUptoRow : OpenClaim := { program := "ytchhjidldppciaa", sum := "f148da5612deb76ca2815711205a4400f9abd34bc133734ba51935a3470ae078", func := "loop.example/g00511/laws.FnExactEqualReassemblies", spec := "fnExactEqualReassemblies", apart := false, narrowed := true }
def FnExactEqualReassembliesUptoSaid : Prop := fnExactEqualReassembliesUptoRow.holds Try.pinned (OpenSpec.upto fnExactEqualReassembliesSpec)

/-- 'laws.FnExactIsDuplicate', WHERE WHAT IT READS IS OF BULK AT MOST 1048576: true; the input reads as it did. -/
def fnExactIsDuplicateUptoRow : OpenClaim := { program := "ytchhjidldppciaa", sum := "f148da5612deb76ca2815711205a4400f9abd34bc133734ba51935a3470ae078", func := "loop.example/g00511/laws.FnExactIsDuplicate", spec := "fnExactIsDuplicate", apart := false, narrowed := true }
def FnExactIsDuplicateUptoSaid : Prop := fnExactIsDuplicateUptoRow.holds Try.pinned (OpenSpec.upto fnExactIsDuplicateSpec)

/-- 'laws.FnExactIsExposed', WHERE WHAT IT READS IS OF BULK AT MOST 1048576: true; the input reads as it did. -/
def fnExactIsExposedUptoRow : OpenClaim := { program := "ytchhjidldppciaa", sum := "f148da5612deb76ca2815711205a4400f9abd34bc133734ba51935a3470ae078", func := "loop.example/g00511/laws.FnExactIsExposed", spec := "fnExactIsExposed", apart := false, narrowed := true }
def FnExactIsExposedUptoSaid : Prop := fnExactIsExposedUptoRow.holds Try.pinned (OpenSpec.upto fnExactIsExposedSpec)

end Rows
end Go.Proofs.Ytchhjidldppciaa
