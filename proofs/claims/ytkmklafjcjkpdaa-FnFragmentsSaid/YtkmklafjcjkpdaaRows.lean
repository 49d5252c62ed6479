/-
  No cell of these rows narrows 'for every input' (looked for: loops, veiled, ifaces, maps, wideKeys, modest, calm, conditions, laid).
  DERIVED. THE GIVEN ROWS OF THIS SEAT. 10 by the template 'for every input the law returns true; each argument reads behind the call as it read before'; 0 by the template 'total and deterministic' (their statements: YtkmklafjcjkpdaaTotals.lean).
  GIVEN WITH THE SEED: the statements are not yours to turn. If you find one false, say at which input.
  Laid BY PROGRAM, IN A SANDBOX (cutbox-rows.mjs): the forced cells as the released guide's own fill.sh prints them over the translation 355fe61c1349787c… (all of the seat's roots in one cut). By AI agents, Wed Nov 11 2026. No macro, syntax, notation, axiom, sorry.
-/
import Derived.Test.YtkmklafjcjkpdaaChecked
import GoSem.Claim
import GoSem.ClaimJoined
import GoSem.ClaimMapViews
import Derived.JoinedTies
import Derived.KernelRfl
namespace Go.Proofs.Ytkmklafjcjkpdaa
/- THE CELL 'sum', in the pinned program and in every row, IS THE sha256 OF THE DUMP (.gsa) THAT YtkmklafjcjkpdaaProg.lean LOADS. Nothing in Lean hashes anything: it is a label: what it is worth is what the hold of that sum in a sandbox is worth. -/
noncomputable def Try.pinned : Pinned := { name := "ytkmklafjcjkpdaa", sum := "355fe61c1349787cd64d116beb5a939e4becdcba279f937c832bca76cb8bc556", checked := Try.checked }
namespace Rows
def none {H : Type} : Left H := { results := [], args := [] }

/-- 'laws.FnCountdown': WHATEVER THE INPUT: true; the input reads as it did. -/
def fnCountdownSpec : ChangeSpec := { name := "fnCountdown", fn := fun _ => fun
  | [d] => { results := [.lit (.bool true)], args := [d] }
  | _ => none }
def fnCountdownRow : OpenClaim := { program := "ytkmklafjcjkpdaa", sum := "355fe61c1349787cd64d116beb5a939e4becdcba279f937c832bca76cb8bc556", func := "loop.example/g00511/laws.FnCountdown", spec := "fnCountdown", apart := false }
def FnCountdownSaid : Prop := fnCountdownRow.holds Try.pinned (OpenSpec.ofChange fnCountdownSpec)

/-- ITS FALSE NEIGHBOUR: 'it returns false'. Refute it at one input. -/
def fnCountdownWrong : ChangeSpec := { name := "fnCountdown", fn := fun _ => fun
  | [d] => { results := [.lit (.bool false)], args := [d] }
  | _ => none }
def FnCountdownWrongFalsely : Prop := fnCountdownRow.holds Try.pinned (OpenSpec.ofChange fnCountdownWrong)

/-- 'laws.FnSequenceNumbers': WHATEVER THE INPUT: true; the input reads as it did. -/
def fnSequenceNumbersSpec : ChangeSpec := { name := "fnSequenceNumbers", fn := fun _ => fun
  | [d] => { results := [.lit (.bool true)], args := [d] }
  | _ => none }
def fnSequenceNumbersRow : OpenClaim := { program := "ytkmklafjcjkpdaa", sum := "355fe61c1349787cd64d116beb5a939e4becdcba279f937c832bca76cb8bc556", func := "loop.example/g00511/laws.FnSequenceNumbers", spec := "fnSequenceNumbers", apart := false }
def FnSequenceNumbersSaid : Prop := fnSequenceNumbersRow.holds Try.pinned (OpenSpec.ofChange fnSequenceNumbersSpec)

/-- ITS FALSE NEIGHBOUR: 'it returns false'. Refute it at one input. -/
def fnSequenceNumbersWrong : ChangeSpec := { name := "fnSequenceNumbers", fn := fun _ => fun
  | [d] => { results := [.lit (.bool false)], args := [d] }
  | _ => none }
def FnSequenceNumbersWrongFalsely : Prop := fnSequenceNumbersRow.holds Try.pinned (OpenSpec.ofChange fnSequenceNumbersWrong)

/-- 'laws.FnRetries': WHATEVER THE INPUT: true; the input reads as it did. -/
def fnRetriesSpec : ChangeSpec := { name := "fnRetries", fn := fun _ => fun
  | [d] => { results := [.lit (.bool true)], args := [d] }
  | _ => none }
def fnRetriesRow : OpenClaim := { program := "ytkmklafjcjkpdaa", sum := "355fe61c1349787cd64d116beb5a939e4becdcba279f937c832bca76cb8bc556", func := "loop.example/g00511/laws.FnRetries", spec := "fnRetries", apart := false }
def FnRetriesSaid : Prop := fnRetriesRow.holds Try.pinned (OpenSpec.ofChange fnRetriesSpec)

/-- ITS FALSE NEIGHBOUR: 'it returns false'. Refute it at one input. -/
def fnRetriesWrong : ChangeSpec := { name := "fnRetries", fn := fun _ => fun
  | [d] => { results := [.lit (.bool false)], args := [d] }
  | _ => none }
def FnRetriesWrongFalsely : Prop := fnRetriesRow.holds Try.pinned (OpenSpec.ofChange fnRetriesWrong)

/-- 'laws.FnAccess': WHATEVER THE INPUT: true; the input reads as it did. -/
def fnAccessSpec : ChangeSpec := { name := "fnAccess", fn := fun _ => fun
  | [d] => { results := [.lit (.bool true)], args := [d] }
  | _ => none }
def fnAccessRow : OpenClaim := { program := "ytkmklafjcjkpdaa", sum := "355fe61c1349787cd64d116beb5a939e4becdcba279f937c832bca76cb8bc556", func := "loop.example/g00511/laws.FnAccess", spec := "fnAccess", apart := false }
def FnAccessSaid : Prop := fnAccessRow.holds Try.pinned (OpenSpec.ofChange fnAccessSpec)

/-- ITS FALSE NEIGHBOUR: 'it returns false'. Refute it at one input. -/
def fnAccessWrong : ChangeSpec := { name := "fnAccess", fn := fun _ => fun
  | [d] => { results := [.lit (.bool false)], args := [d] }
  | _ => none }
def FnAccessWrongFalsely : Prop := fnAccessRow.holds Try.pinned (OpenSpec.ofChange fnAccessWrong)

/-- 'laws.FnQueueOrder': WHATEVER THE INPUT: true; the input reads as it did. -/
def fnQueueOrderSpec : ChangeSpec := { name := "fnQueueOrder", fn := fun _ => fun
  | [d] => { results := [.lit (.bool true)], args := [d] }
  | _ => none }
def fnQueueOrderRow : OpenClaim := { program := "ytkmklafjcjkpdaa", sum := "355fe61c1349787cd64d116beb5a939e4becdcba279f937c832bca76cb8bc556", func := "loop.example/g00511/laws.FnQueueOrder", spec := "fnQueueOrder", apart := false }
def FnQueueOrderSaid : Prop := fnQueueOrderRow.holds Try.pinned (OpenSpec.ofChange fnQueueOrderSpec)

/-- ITS FALSE NEIGHBOUR: 'it returns false'. Refute it at one input. -/
def fnQueueOrderWrong : ChangeSpec := { name := "fnQueueOrder", fn := fun _ => fun
  | [d] => { results := [.lit (.bool false)], args := [d] }
  | _ => none }
def FnQueueOrderWrongFalsely : Prop := fnQueueOrderRow.holds Try.pinned (OpenSpec.ofChange fnQueueOrderWrong)

/-- 'laws.FnDuplicates': WHATEVER THE INPUT: true; the input reads as it did. -/
def fnDuplicatesSpec : ChangeSpec := { name := "fnDuplicates", fn := fun _ => fun
  | [d] => { results := [.lit (.bool true)], args := [d] }
  | _ => none }
def fnDuplicatesRow : OpenClaim := { program := "ytkmklafjcjkpdaa", sum := "355fe61c1349787cd64d116beb5a939e4becdcba279f937c832bca76cb8bc556", func := "loop.example/g00511/laws.FnDuplicates", spec := "fnDuplicates", apart := false }
def FnDuplicatesSaid : Prop := fnDuplicatesRow.holds Try.pinned (OpenSpec.ofChange fnDuplicatesSpec)

/-- ITS FALSE NEIGHBOUR: 'it returns false'. Refute it at one input. -/
def fnDuplicatesWrong : ChangeSpec := { name := "fnDuplicates", fn := fun _ => fun
  | [d] => { results := [.lit (.bool false)], args := [d] }
  | _ => none }
def FnDuplicatesWrongFalsely : Prop := fnDuplicatesRow.holds Try.pinned (OpenSpec.ofChange fnDuplicatesWrong)

/-- 'laws.FnCapture': WHATEVER THE INPUT: true; the input reads as it did. -/
def fnCaptureSpec : ChangeSpec := { name := "fnCapture", fn := fun _ => fun
  | [d] => { results := [.lit (.bool true)], args := [d] }
  | _ => none }
def fnCaptureRow : OpenClaim := { program := "ytkmklafjcjkpdaa", sum := "355fe61c1349787cd64d116beb5a939e4becdcba279f937c832bca76cb8bc556", func := "loop.example/g00511/laws.FnCapture", spec := "fnCapture", apart := false }
def FnCaptureSaid : Prop := fnCaptureRow.holds Try.pinned (OpenSpec.ofChange fnCaptureSpec)

/-- ITS FALSE NEIGHBOUR: 'it returns false'. Refute it at one input. -/
def fnCaptureWrong : ChangeSpec := { name := "fnCapture", fn := fun _ => fun
  | [d] => { results := [.lit (.bool false)], args := [d] }
  | _ => none }
def FnCaptureWrongFalsely : Prop := fnCaptureRow.holds Try.pinned (OpenSpec.ofChange fnCaptureWrong)

/-- 'laws.FnReservations': WHATEVER THE INPUT: true; the input reads as it did. -/
def fnReservationsSpec : ChangeSpec := { name := "fnReservations", fn := fun _ => fun
  | [d] => { results := [.lit (.bool true)], args := [d] }
  | _ => none }
def fnReservationsRow : OpenClaim := { program := "ytkmklafjcjkpdaa", sum := "355fe61c1349787cd64d116beb5a939e4becdcba279f937c832bca76cb8bc556", func := "loop.example/g00511/laws.FnReservations", spec := "fnReservations", apart := false }
def FnReservationsSaid : Prop := fnReservationsRow.holds Try.pinned (OpenSpec.ofChange fnReservationsSpec)

/-- ITS FALSE NEIGHBOUR: 'it returns false'. Refute it at one input. -/
def fnReservationsWrong : ChangeSpec := { name := "fnReservations", fn := fun _ => fun
  | [d] => { results := [.lit (.bool false)], args := [d] }
  | _ => none }
def FnReservationsWrongFalsely : Prop := fnReservationsRow.holds Try.pinned (OpenSpec.ofChange fnReservationsWrong)

/-- 'laws.FnQueues': WHATEVER THE INPUT: true; the input reads as it did. -/
def fnQueuesSpec : ChangeSpec := { name := "fnQueues", fn := fun _ => fun
  | [d] => { results := [.lit (.bool true)], args := [d] }
  | _ => none }
def fnQueuesRow : OpenClaim := { program := "ytkmklafjcjkpdaa", sum := "355fe61c1349787cd64d116beb5a939e4becdcba279f937c832bca76cb8bc556", func := "loop.example/g00511/laws.FnQueues", spec := "fnQueues", apart := false }
def FnQueuesSaid : Prop := fnQueuesRow.holds Try.pinned (OpenSpec.ofChange fnQueuesSpec)

/-- ITS FALSE NEIGHBOUR: 'it returns false'. Refute it at one input. -/
def fnQueuesWrong : ChangeSpec := { name := "fnQueues", fn := fun _ => fun
  | [d] => { results := [.lit (.bool false)], args := [d] }
  | _ => none }
def FnQueuesWrongFalsely : Prop := fnQueuesRow.holds Try.pinned (OpenSpec.ofChange fnQueuesWrong)

/-- 'laws.FnFragments': WHATEVER THE INPUT: true; the input reads as it did. -/
def fnFragmentsSpec : ChangeSpec := { name := "fnFragments", fn := fun _ => fun
  | [d] => { results := [.lit (.bool true)], args := [d] }
  | _ => none }
def fnFragmentsRow : OpenClaim := { program := "ytkmklafjcjkpdaa", sum := "355fe61c1349787cd64d116beb5a939e4becdcba279f937c832bca76cb8bc556", func := "loop.example/g00511/laws.FnFragments", spec := "fnFragments", apart := false }
def FnFragmentsSaid : Prop := fnFragmentsRow.holds Try.pinned (OpenSpec.ofChange fnFragmentsSpec)

/-- ITS FALSE NEIGHBOUR: 'it returns false'. Refute it at one input. -/
def fnFragmentsWrong : ChangeSpec := { name := "fnFragments", fn := fun _ => fun
  | [d] => { results := [.lit (.bool false)], args := [d] }
  | _ => none }
def FnFragmentsWrongFalsely : Prop := fnFragmentsRow.holds Try.pinned (OpenSpec.ofChange fnFragmentsWrong)

/- THE SECOND FORM. 'bulk': how many values and letters a reading holds, each counted each time it is reached (what is shared counts as often as it is met; a slice's spare places count too). A statement '..UptoSaid' is the law's where the arguments, and the package variables that the reading takes, are together of bulk at most 1048576: NARROWER than '..Said'. Prove '..Said' where nothing that the law and all that it calls make is longer than what came in: it says more and counts as full. Else prove '..UptoSaid'. A law counts once. -/
mutual
def uptoBulk {H : Type} : DataW H → Nat
  | .lit (.string bytes) => bytes.length + 1
  | .lit _ => 1
  | .nil => 1
  | .ptr d => uptoBulk d + 1
  | .slice elems spare => uptoBulkAll elems + uptoBulkAll spare + 1
  | .agg parts => uptoBulkAll parts + 1
  | .iface _ d => uptoBulk d + 1
  | .map entries => uptoBulkEntries entries + 1
  | .held _ => 1
def uptoBulkAll {H : Type} : List (DataW H) → Nat
  | [] => 0
  | d :: r => uptoBulk d + uptoBulkAll r
def uptoBulkEntries {H : Type} : List (Lit × DataW H) → Nat
  | [] => 0
  | x :: r => uptoBulkEntry x + uptoBulkEntries r
def uptoBulkEntry {H : Type} : Lit × DataW H → Nat
  | (.string bytes, d) => bytes.length + uptoBulk d + 1
  | (_, d) => uptoBulk d + 1
 end
def uptoSmall : (H : Type) → List (DataW H) → Bool := fun _ ds => decide (uptoBulkAll ds ≤ 1048576)
def OpenSpec.upto (s : _root_.Go.ChangeSpec) : _root_.Go.OpenSpec := { _root_.Go.OpenSpec.ofChange s with cond := some uptoSmall }

/-- 'laws.FnCountdown', WHERE WHAT IT READS IS OF BULK AT MOST 1048576: true; the input reads as it did. -/
def fnCountdownUptoRow : OpenClaim := { program := "ytkmklafjcjkpdaa", sum := "355fe61c1349787cd64d116beb5a939e4becdcba279f937c832bca76cb8bc556", func := "loop.example/g00511/laws.FnCountdown", spec := "fnCountdown", apart := false, narrowed := true }
def FnCountdownUptoSaid : Prop := fnCountdownUptoRow.holds Try.pinned (OpenSpec.upto fnCountdownSpec)

/-- 'laws.FnSequenceNumbers', WHERE WHAT IT READS IS OF BULK AT MOST 1048576: true; the input reads as it did. -/
def fnSequenceNumbersUptoRow : OpenClaim := { program := "ytkmklafjcjkpdaa", sum := "355fe61c1349787cd64d116beb5a939e4becdcba279f937c832bca76cb8bc556", func := "loop.example/g00511/laws.FnSequenceNumbers", spec := "fnSequenceNumbers", apart := false, narrowed := true }
def FnSequenceNumbersUptoSaid : Prop := fnSequenceNumbersUptoRow.holds Try.pinned (OpenSpec.upto fnSequenceNumbersSpec)

/-- 'laws.FnRetries', WHERE WHAT IT READS IS OF BULK AT MOST 1048576: true; the input reads as it did. -/
def fnRetriesUptoRow : OpenClaim := { program := "ytkmklafjcjkpdaa", sum := "355fe61c1349787cd64d116beb5a939e4becdcba279f937c832bca76cb8bc556", func := "loop.example/g00511/laws.FnRetries", spec := "fnRetries", apart := false, narrowed := true }
def FnRetriesUptoSaid : Prop := fnRetriesUptoRow.holds Try.pinned (OpenSpec.upto fnRetriesSpec)

/-- 'laws.FnAccess', WHERE WHAT IT READS IS OF BULK AT MOST 1048576: true; the input reads as it did. -/
def fnAccessUptoRow : OpenClaim := { program := "ytkmklafjcjkpdaa", sum := "355fe61c1349787cd64d116beb5a939e4becdcba279f937c832bca76cb8bc556", func := "loop.example/g00511/laws.FnAccess", spec := "fnAccess", apart := false, narrowed := true }
def FnAccessUptoSaid : Prop := fnAccessUptoRow.holds Try.pinned (OpenSpec.upto fnAccessSpec)

/-- 'laws.FnQueueOrder', WHERE WHAT IT READS IS OF BULK AT MOST 1048576: true; the input reads as it did. -/
def fnQueueOrderUptoRow : OpenClaim := { program := "ytkmklafjcjkpdaa", sum := "355fe61c1349787cd64d116beb5a939e4becdcba279f937c832bca76cb8bc556", func := "loop.example/g00511/laws.FnQueueOrder", spec := "fnQueueOrder", apart := false, narrowed := true }
def FnQueueOrderUptoSaid : Prop := fnQueueOrderUptoRow.holds Try.pinned (OpenSpec.upto fnQueueOrderSpec)

/-- 'laws.FnDuplicates', WHERE WHAT IT READS IS OF BULK AT MOST 1048576: true; the input reads as it did. -/
def fnDuplicatesUptoRow : OpenClaim := { program := "ytkmklafjcjkpdaa", sum := "355fe61c1349787cd64d116beb5a939e4becdcba279f937c832bca76cb8bc556", func := "loop.example/g00511/laws.FnDuplicates", spec := "fnDuplicates", apart := false, narrowed := true }
def FnDuplicatesUptoSaid : Prop := fnDuplicatesUptoRow.holds Try.pinned (OpenSpec.upto fnDuplicatesSpec)

/-- 'laws.FnCapture', WHERE WHAT IT READS IS OF BULK AT MOST 1048576: true; the input reads as it did. -/
def fnCaptureUptoRow : OpenClaim := { program := "ytkmklafjcjkpdaa", sum := "355fe61c1349787cd64d116beb5a939e4becdcba279f937c832bca76cb8bc556", func := "loop.example/g00511/laws.FnCapture", spec := "fnCapture", apart := false, narrowed := true }
def FnCaptureUptoSaid : Prop := fnCaptureUptoRow.holds Try.pinned (OpenSpec.upto fnCaptureSpec)

/-- 'laws.FnReservations', WHERE WHAT IT READS IS OF BULK AT MOST 1048576: true; the input reads as it did. -/
def fnReservationsUptoRow : OpenClaim := { program := "ytkmklafjcjkpdaa", sum := "355fe61c1349787cd64d116beb5a939e4becdcba279f937c832bca76cb8bc556", func := "loop.example/g00511/laws.FnReservations", spec := "fnReservations", apart := false, narrowed := true }
def FnReservationsUptoSaid : Prop := fnReservationsUptoRow.holds Try.pinned (OpenSpec.upto fnReservationsSpec)

/-- 'laws.FnQueues', WHERE WHAT IT READS IS OF BULK AT MOST 1048576: true; the input reads as it did. -/
def fnQueuesUptoRow : OpenClaim := { program := "ytkmklafjcjkpdaa", sum := "355fe61c1349787cd64d116beb5a939e4becdcba279f937c832bca76cb8bc556", func := "loop.example/g00511/laws.FnQueues", spec := "fnQueues", apart := false, narrowed := true }
def FnQueuesUptoSaid : Prop := fnQueuesUptoRow.holds Try.pinned (OpenSpec.upto fnQueuesSpec)

/-- 'laws.FnFragments', WHERE WHAT IT READS IS OF BULK AT MOST 1048576: true; the input reads as it did. -/
def fnFragmentsUptoRow : OpenClaim := { program := "ytkmklafjcjkpdaa", sum := "355fe61c1349787cd64d116beb5a939e4becdcba279f937c832bca76cb8bc556", func := "loop.example/g00511/laws.FnFragments", spec := "fnFragments", apart := false, narrowed := true }
def FnFragmentsUptoSaid : Prop := fnFragmentsUptoRow.holds Try.pinned (OpenSpec.upto fnFragmentsSpec)

end Rows
end Go.Proofs.Ytkmklafjcjkpdaa
