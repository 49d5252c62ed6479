/-
  No cell of these rows narrows 'for every input' (looked for: loops, veiled, ifaces, maps, wideKeys, modest, calm, conditions, laid).
  DERIVED. THE GIVEN ROWS OF THIS SEAT. 12 by the template 'for every input the law returns true; each argument reads behind the call as it read before'; 0 by the template 'total and deterministic' (their statements: YtaideophjlnoeaaTotals.lean).
  GIVEN WITH THE SEED: the statements are not yours to turn. If you find one false, say at which input.
  Laid BY PROGRAM, IN A SANDBOX (cutbox-rows.mjs): the forced cells as the released guide's own fill.sh prints them over the translation d64738797e315d42… (all of the seat's roots in one cut). By AI agents, Wed Nov 11 2026. No macro, syntax, notation, axiom, sorry.
-/
import Derived.Test.YtaideophjlnoeaaChecked
import GoSem.Claim
import GoSem.ClaimJoined
import GoSem.ClaimMapViews
import Derived.JoinedTies
import Derived.KernelRfl
namespace Go.Proofs.Ytaideophjlnoeaa
/- THE CELL 'sum', in the pinned program and in every row, IS THE sha256 OF THE DUMP (.gsa) THAT YtaideophjlnoeaaProg.lean LOADS. Nothing in Lean hashes anything: it is a label: what it is worth is what the hold of that sum in a sandbox is worth. -/
noncomputable def Try.pinned : Pinned := { name := "ytaideophjlnoeaa", sum := "d64738797e315d42019b13cbfdac64ac6e644e8bf34603371f65ecc337967d55", checked := Try.checked }
namespace Rows
def none {H : Type} : Left H := { results := [], args := [] }

/-- 'laws.FnExactGrantDuration': WHATEVER THE INPUT: true; the input reads as it did. -/
def fnExactGrantDurationSpec : ChangeSpec := { name := "fnExactGrantDuration", fn := fun _ => fun
  | [d] => { results := [.lit (.bool true)], args := [d] }
  | _ => none }
def fnExactGrantDurationRow : OpenClaim := { program := "ytaideophjlnoeaa", sum := "d64738797e315d42019b13cbfdac64ac6e644e8bf34603371f65ecc337967d55", func := "loop.example/g00511/laws.FnExactGrantDuration", spec := "fnExactGrantDuration", apart := false }
def FnExactGrantDurationSaid : Prop := fnExactGrantDurationRow.holds Try.pinned (OpenSpec.ofChange fnExactGrantDurationSpec)

/-- ITS FALSE NEIGHBOUR: 'it returns false'. Refute it at one input. -/
def fnExactGrantDurationWrong : ChangeSpec := { name := "fnExactGrantDuration", fn := fun _ => fun
  | [d] => { results := [.lit (.bool false)], args := [d] }
  | _ => none }
def FnExactGrantDurationWrongFalsely : Prop := fnExactGrantDurationRow.holds Try.pinned (OpenSpec.ofChange fnExactGrantDurationWrong)

/-- 'laws.FnExactNextSeq': WHATEVER THE INPUT: true; the input reads as it did. -/
def fnExactNextSeqSpec : ChangeSpec := { name := "fnExactNextSeq", fn := fun _ => fun
  | [d] => { results := [.lit (.bool true)], args := [d] }
  | _ => none }
def fnExactNextSeqRow : OpenClaim := { program := "ytaideophjlnoeaa", sum := "d64738797e315d42019b13cbfdac64ac6e644e8bf34603371f65ecc337967d55", func := "loop.example/g00511/laws.FnExactNextSeq", spec := "fnExactNextSeq", apart := false }
def FnExactNextSeqSaid : Prop := fnExactNextSeqRow.holds Try.pinned (OpenSpec.ofChange fnExactNextSeqSpec)

/-- ITS FALSE NEIGHBOUR: 'it returns false'. Refute it at one input. -/
def fnExactNextSeqWrong : ChangeSpec := { name := "fnExactNextSeq", fn := fun _ => fun
  | [d] => { results := [.lit (.bool false)], args := [d] }
  | _ => none }
def FnExactNextSeqWrongFalsely : Prop := fnExactNextSeqRow.holds Try.pinned (OpenSpec.ofChange fnExactNextSeqWrong)

/-- 'laws.FnExactCategoryName': WHATEVER THE INPUT: true; the input reads as it did. -/
def fnExactCategoryNameSpec : ChangeSpec := { name := "fnExactCategoryName", fn := fun _ => fun
  | [d] => { results := [.lit (.bool true)], args := [d] }
  | _ => none }
def fnExactCategoryNameRow : OpenClaim := { program := "ytaideophjlnoeaa", sum := "d64738797e315d42019b13cbfdac64ac6e644e8bf34603371f65ecc337967d55", func := "loop.example/g00511/laws.FnExactCategoryName", spec := "fnExactCategoryName", apart := false }
def FnExactCategoryNameSaid : Prop := fnExactCategoryNameRow.holds Try.pinned (OpenSpec.ofChange fnExactCategoryNameSpec)

/-- ITS FALSE NEIGHBOUR: 'it returns false'. Refute it at one input. -/
def fnExactCategoryNameWrong : ChangeSpec := { name := "fnExactCategoryName", fn := fun _ => fun
  | [d] => { results := [.lit (.bool false)], args := [d] }
  | _ => none }
def FnExactCategoryNameWrongFalsely : Prop := fnExactCategoryNameRow.holds Try.pinned (OpenSpec.ofChange fnExactCategoryNameWrong)

/-- 'laws.FnExactCategoryOfPriority': WHATEVER THE INPUT: true; the input reads as it did. -/
def fnExactCategoryOfPrioritySpec : ChangeSpec := { name := "fnExactCategoryOfPriority", fn := fun _ => fun
  | [d] => { results := [.lit (.bool true)], args := [d] }
  | _ => none }
def fnExactCategoryOfPriorityRow : OpenClaim := { program := "ytaideophjlnoeaa", sum := "d64738797e315d42019b13cbfdac64ac6e644e8bf34603371f65ecc337967d55", func := "loop.example/g00511/laws.FnExactCategoryOfPriority", spec := "fnExactCategoryOfPriority", apart := false }
def FnExactCategoryOfPrioritySaid : Prop := fnExactCategoryOfPriorityRow.holds Try.pinned (OpenSpec.ofChange fnExactCategoryOfPrioritySpec)

/-- ITS FALSE NEIGHBOUR: 'it returns false'. Refute it at one input. -/
def fnExactCategoryOfPriorityWrong : ChangeSpec := { name := "fnExactCategoryOfPriority", fn := fun _ => fun
  | [d] => { results := [.lit (.bool false)], args := [d] }
  | _ => none }
def FnExactCategoryOfPriorityWrongFalsely : Prop := fnExactCategoryOfPriorityRow.holds Try.pinned (OpenSpec.ofChange fnExactCategoryOfPriorityWrong)

/-- 'laws.FnExactIsValidReservation': WHATEVER THE INPUT: true; the input reads as it did. -/
def fnExactIsValidReservationSpec : ChangeSpec := { name := "fnExactIsValidReservation", fn := fun _ => fun
  | [d] => { results := [.lit (.bool true)], args := [d] }
  | _ => none }
def fnExactIsValidReservationRow : OpenClaim := { program := "ytaideophjlnoeaa", sum := "d64738797e315d42019b13cbfdac64ac6e644e8bf34603371f65ecc337967d55", func := "loop.example/g00511/laws.FnExactIsValidReservation", spec := "fnExactIsValidReservation", apart := false }
def FnExactIsValidReservationSaid : Prop := fnExactIsValidReservationRow.holds Try.pinned (OpenSpec.ofChange fnExactIsValidReservationSpec)

/-- ITS FALSE NEIGHBOUR: 'it returns false'. Refute it at one input. -/
def fnExactIsValidReservationWrong : ChangeSpec := { name := "fnExactIsValidReservation", fn := fun _ => fun
  | [d] => { results := [.lit (.bool false)], args := [d] }
  | _ => none }
def FnExactIsValidReservationWrongFalsely : Prop := fnExactIsValidReservationRow.holds Try.pinned (OpenSpec.ofChange fnExactIsValidReservationWrong)

/-- 'laws.FnExactIsValidParams': WHATEVER THE INPUT: true; the input reads as it did. -/
def fnExactIsValidParamsSpec : ChangeSpec := { name := "fnExactIsValidParams", fn := fun _ => fun
  | [d] => { results := [.lit (.bool true)], args := [d] }
  | _ => none }
def fnExactIsValidParamsRow : OpenClaim := { program := "ytaideophjlnoeaa", sum := "d64738797e315d42019b13cbfdac64ac6e644e8bf34603371f65ecc337967d55", func := "loop.example/g00511/laws.FnExactIsValidParams", spec := "fnExactIsValidParams", apart := false }
def FnExactIsValidParamsSaid : Prop := fnExactIsValidParamsRow.holds Try.pinned (OpenSpec.ofChange fnExactIsValidParamsSpec)

/-- ITS FALSE NEIGHBOUR: 'it returns false'. Refute it at one input. -/
def fnExactIsValidParamsWrong : ChangeSpec := { name := "fnExactIsValidParams", fn := fun _ => fun
  | [d] => { results := [.lit (.bool false)], args := [d] }
  | _ => none }
def FnExactIsValidParamsWrongFalsely : Prop := fnExactIsValidParamsRow.holds Try.pinned (OpenSpec.ofChange fnExactIsValidParamsWrong)

/-- 'laws.FnExactSubframeSize': WHATEVER THE INPUT: true; the input reads as it did. -/
def fnExactSubframeSizeSpec : ChangeSpec := { name := "fnExactSubframeSize", fn := fun _ => fun
  | [d] => { results := [.lit (.bool true)], args := [d] }
  | _ => none }
def fnExactSubframeSizeRow : OpenClaim := { program := "ytaideophjlnoeaa", sum := "d64738797e315d42019b13cbfdac64ac6e644e8bf34603371f65ecc337967d55", func := "loop.example/g00511/laws.FnExactSubframeSize", spec := "fnExactSubframeSize", apart := false }
def FnExactSubframeSizeSaid : Prop := fnExactSubframeSizeRow.holds Try.pinned (OpenSpec.ofChange fnExactSubframeSizeSpec)

/-- ITS FALSE NEIGHBOUR: 'it returns false'. Refute it at one input. -/
def fnExactSubframeSizeWrong : ChangeSpec := { name := "fnExactSubframeSize", fn := fun _ => fun
  | [d] => { results := [.lit (.bool false)], args := [d] }
  | _ => none }
def FnExactSubframeSizeWrongFalsely : Prop := fnExactSubframeSizeRow.holds Try.pinned (OpenSpec.ofChange fnExactSubframeSizeWrong)

/-- 'laws.FnExactCombineReservations': WHATEVER THE INPUT: true; the input reads as it did. -/
def fnExactCombineReservationsSpec : ChangeSpec := { name := "fnExactCombineReservations", fn := fun _ => fun
  | [d1, d2] => { results := [.lit (.bool true)], args := [d1, d2] }
  | _ => none }
def fnExactCombineReservationsRow : OpenClaim := { program := "ytaideophjlnoeaa", sum := "d64738797e315d42019b13cbfdac64ac6e644e8bf34603371f65ecc337967d55", func := "loop.example/g00511/laws.FnExactCombineReservations", spec := "fnExactCombineReservations", apart := false }
def FnExactCombineReservationsSaid : Prop := fnExactCombineReservationsRow.holds Try.pinned (OpenSpec.ofChange fnExactCombineReservationsSpec)

/-- ITS FALSE NEIGHBOUR: 'it returns false'. Refute it at one input. -/
def fnExactCombineReservationsWrong : ChangeSpec := { name := "fnExactCombineReservations", fn := fun _ => fun
  | [d1, d2] => { results := [.lit (.bool false)], args := [d1, d2] }
  | _ => none }
def FnExactCombineReservationsWrongFalsely : Prop := fnExactCombineReservationsRow.holds Try.pinned (OpenSpec.ofChange fnExactCombineReservationsWrong)

/-- 'laws.FnExactSeqDistance': WHATEVER THE INPUT: true; the input reads as it did. -/
def fnExactSeqDistanceSpec : ChangeSpec := { name := "fnExactSeqDistance", fn := fun _ => fun
  | [d1, d2] => { results := [.lit (.bool true)], args := [d1, d2] }
  | _ => none }
def fnExactSeqDistanceRow : OpenClaim := { program := "ytaideophjlnoeaa", sum := "d64738797e315d42019b13cbfdac64ac6e644e8bf34603371f65ecc337967d55", func := "loop.example/g00511/laws.FnExactSeqDistance", spec := "fnExactSeqDistance", apart := false }
def FnExactSeqDistanceSaid : Prop := fnExactSeqDistanceRow.holds Try.pinned (OpenSpec.ofChange fnExactSeqDistanceSpec)

/-- ITS FALSE NEIGHBOUR: 'it returns false'. Refute it at one input. -/
def fnExactSeqDistanceWrong : ChangeSpec := { name := "fnExactSeqDistance", fn := fun _ => fun
  | [d1, d2] => { results := [.lit (.bool false)], args := [d1, d2] }
  | _ => none }
def FnExactSeqDistanceWrongFalsely : Prop := fnExactSeqDistanceRow.holds Try.pinned (OpenSpec.ofChange fnExactSeqDistanceWrong)

/-- 'laws.FnExactReleaseUnused': WHATEVER THE INPUT: true; the input reads as it did. -/
def fnExactReleaseUnusedSpec : ChangeSpec := { name := "fnExactReleaseUnused", fn := fun _ => fun
  | [d1, d2, d3] => { results := [.lit (.bool true)], args := [d1, d2, d3] }
  | _ => none }
def fnExactReleaseUnusedRow : OpenClaim := { program := "ytaideophjlnoeaa", sum := "d64738797e315d42019b13cbfdac64ac6e644e8bf34603371f65ecc337967d55", func := "loop.example/g00511/laws.FnExactReleaseUnused", spec := "fnExactReleaseUnused", apart := false }
def FnExactReleaseUnusedSaid : Prop := fnExactReleaseUnusedRow.holds Try.pinned (OpenSpec.ofChange fnExactReleaseUnusedSpec)

/-- ITS FALSE NEIGHBOUR: 'it returns false'. Refute it at one input. -/
def fnExactReleaseUnusedWrong : ChangeSpec := { name := "fnExactReleaseUnused", fn := fun _ => fun
  | [d1, d2, d3] => { results := [.lit (.bool false)], args := [d1, d2, d3] }
  | _ => none }
def FnExactReleaseUnusedWrongFalsely : Prop := fnExactReleaseUnusedRow.holds Try.pinned (OpenSpec.ofChange fnExactReleaseUnusedWrong)

/-- 'laws.FnExactIsNewer': WHATEVER THE INPUT: true; the input reads as it did. -/
def fnExactIsNewerSpec : ChangeSpec := { name := "fnExactIsNewer", fn := fun _ => fun
  | [d1, d2] => { results := [.lit (.bool true)], args := [d1, d2] }
  | _ => none }
def fnExactIsNewerRow : OpenClaim := { program := "ytaideophjlnoeaa", sum := "d64738797e315d42019b13cbfdac64ac6e644e8bf34603371f65ecc337967d55", func := "loop.example/g00511/laws.FnExactIsNewer", spec := "fnExactIsNewer", apart := false }
def FnExactIsNewerSaid : Prop := fnExactIsNewerRow.holds Try.pinned (OpenSpec.ofChange fnExactIsNewerSpec)

/-- ITS FALSE NEIGHBOUR: 'it returns false'. Refute it at one input. -/
def fnExactIsNewerWrong : ChangeSpec := { name := "fnExactIsNewer", fn := fun _ => fun
  | [d1, d2] => { results := [.lit (.bool false)], args := [d1, d2] }
  | _ => none }
def FnExactIsNewerWrongFalsely : Prop := fnExactIsNewerRow.holds Try.pinned (OpenSpec.ofChange fnExactIsNewerWrong)

/-- 'laws.FnExactParamsFor': WHATEVER THE INPUT: true; the input reads as it did. -/
def fnExactParamsForSpec : ChangeSpec := { name := "fnExactParamsFor", fn := fun _ => fun
  | [d] => { results := [.lit (.bool true)], args := [d] }
  | _ => none }
def fnExactParamsForRow : OpenClaim := { program := "ytaideophjlnoeaa", sum := "d64738797e315d42019b13cbfdac64ac6e644e8bf34603371f65ecc337967d55", func := "loop.example/g00511/laws.FnExactParamsFor", spec := "fnExactParamsFor", apart := false }
def FnExactParamsForSaid : Prop := fnExactParamsForRow.holds Try.pinned (OpenSpec.ofChange fnExactParamsForSpec)

/-- ITS FALSE NEIGHBOUR: 'it returns false'. Refute it at one input. -/
def fnExactParamsForWrong : ChangeSpec := { name := "fnExactParamsFor", fn := fun _ => fun
  | [d] => { results := [.lit (.bool false)], args := [d] }
  | _ => none }
def FnExactParamsForWrongFalsely : Prop := fnExactParamsForRow.holds Try.pinned (OpenSpec.ofChange fnExactParamsForWrong)

/- THE SECOND FORM. 'bulk': how many values and letters a reading holds, each counted each time it is reached (what is shared counts as often as it is met; a slice's spare places count too). A statement '..UptoSaid' is the law's where the arguments, and the package variables that the reading takes, are together of bulk at most 1048576: NARROWER than '..Said'. Prove '..Said' where nothing that the law and all that it calls make is longer than what came in: it says more and counts as full. Else prove '..UptoSaid'. A law counts once. -/
mutual
def uptoBulk {H : Type} : DataW H → Nat
  | .lit (.string bytes) => bytes.length + 1
  | .lit _ => 1
  | .nil => 1
  | .ptr d => uptoBulk d + 1
  | .slice elems spare => uptoBulkAll elems + uptoBulkAll spare + 1
  | .agg parts => uptoBulkAll parts + 1
  | .iface _ d => uptoBulk d + 1
  | .map entries => uptoBulkEntries entries + 1
  | .held _ => 1
def uptoBulkAll {H : Type} : List (DataW H) → Nat
  | [] => 0
  | d :: r => uptoBulk d + uptoBulkAll r
def uptoBulkEntries {H : Type} : List (Lit × DataW H) → Nat
  | [] => 0
  | x :: r => uptoBulkEntry x + uptoBulkEntries r
def uptoBulkEntry {H : Type} : Lit × DataW H → Nat
  | (.string bytes, d) => bytes.length + uptoBulk d + 1
  | (_, d) => uptoBulk d + 1
 end
def uptoSmall : (H : Type) → List (DataW H) → Bool := fun _ ds => decide (uptoBulkAll ds ≤ 1048576)
def OpenSpec.upto (s : _root_.Go.ChangeSpec) : _root_.Go.OpenSpec := { _root_.Go.OpenSpec.ofChange s with cond := some uptoSmall }

/-- 'laws.FnExactGrantDuration', WHERE WHAT IT READS IS OF BULK AT MOST 1048576: true; the input reads as it did. -/
def fnExactGrantDurationUptoRow : OpenClaim := { program := "ytaideophjlnoeaa", sum := "d64738797e315d42019b13cbfdac64ac6e644e8bf34603371f65ecc337967d55", func := "loop.example/g00511/laws.FnExactGrantDuration", spec := "fnExactGrantDuration", apart := false, narrowed := true }
def FnExactGrantDurationUptoSaid : Prop := fnExactGrantDurationUptoRow.holds Try.pinned (OpenSpec.upto fnExactGrantDurationSpec)

/-- 'laws.FnExactNextSeq', WHERE WHAT IT READS IS OF BULK AT MOST 1048576: true; the input reads as it did. -/
def fnExactNextSeqUptoRow : OpenClaim := { program := "ytaideophjlnoeaa", sum := "d64738797e315d42019b13cbfdac64ac6e644e8bf34603371f65ecc337967d55", func := "loop.example/g00511/laws.FnExactNextSeq", spec := "fnExactNextSeq", apart := false, narrowed := true }
def FnExactNextSeqUptoSaid : Prop := fnExactNextSeqUptoRow.holds Try.pinned (OpenSpec.upto fnExactNextSeqSpec)

/-- 'laws.FnExactCategoryName', WHERE WHAT IT READS IS OF BULK AT MOST 1048576: true; the input reads as it did. -/
def fnExactCategoryNameUptoRow : OpenClaim := { program := "ytaideophjlnoeaa", sum := "d64738797e315d42019b13cbfdac64ac6e644e8bf34603371f65ecc337967d55", func := "loop.example/g00511/laws.FnExactCategoryName", spec := "fnExactCategoryName", apart := false, narrowed := true }
def FnExactCategoryNameUptoSaid : Prop := fnExactCategoryNameUptoRow.holds Try.pinned (OpenSpec.upto fnExactCategoryNameSpec)

/-- 'laws.FnExactCategoryOfPriority', WHERE WHAT IT READS IS OF BULK AT MOST 1048576: true; the input reads as it did. -/
def fnExactCategoryOfPriorityUptoRow : OpenClaim := { program := "ytaideophjlnoeaa", sum := "d64738797e315d42019b13cbfdac64ac6e644e8bf34603371f65ecc337967d55", func := "loop.example/g00511/laws.FnExactCategoryOfPriority", spec := "fnExactCategoryOfPriority", apart := false, narrowed := true }
def FnExactCategoryOfPriorityUptoSaid : Prop := fnExactCategoryOfPriorityUptoRow.holds Try.pinned (OpenSpec.upto fnExactCategoryOfPrioritySpec)

/-- 'laws.FnExactIsValidReservation', WHERE WHAT IT READS IS OF BULK AT MOST 1048576: true; the input reads as it did. -/
def fnExactIsValidReservationUptoRow : OpenClaim := { program := "ytaideophjlnoeaa", sum := "d64738797e315d42019b13cbfdac64ac6e644e8bf34603371f65ecc337967d55", func := "loop.example/g00511/laws.FnExactIsValidReservation", spec := "fnExactIsValidReservation", apart := false, narrowed := true }
def FnExactIsValidReservationUptoSaid : Prop := fnExactIsValidReservationUptoRow.holds Try.pinned (OpenSpec.upto fnExactIsValidReservationSpec)

/-- 'laws.FnExactIsValidParams', WHERE WHAT IT READS IS OF BULK AT MOST 1048576: true; the input reads as it did. -/
def fnExactIsValidParamsUptoRow : OpenClaim := { program := "ytaideophjlnoeaa", sum := "d64738797e315d42019b13cbfdac64ac6e644e8bf34603371f65ecc337967d55", func := "loop.example/g00511/laws.FnExactIsValidParams", spec := "fnExactIsValidParams", apart := false, narrowed := true }
def FnExactIsValidParamsUptoSaid : Prop := fnExactIsValidParamsUptoRow.holds Try.pinned (OpenSpec.upto fnExactIsValidParamsSpec)

/-- 'laws.FnExactSubframeSize', WHERE WHAT IT READS IS OF BULK AT MOST 1048576: true; the input reads as it did. -/
def fnExactSubframeSizeUptoRow : OpenClaim := { program := "ytaideophjlnoeaa", sum := "d64738797e315d42019b13cbfdac64ac6e644e8bf34603371f65ecc337967d55", func := "loop.example/g00511/laws.FnExactSubframeSize", spec := "fnExactSubframeSize", apart := false, narrowed := true }
def FnExactSubframeSizeUptoSaid : Prop := fnExactSubframeSizeUptoRow.holds Try.pinned (OpenSpec.upto fnExactSubframeSizeSpec)

/-- 'laws.FnExactCombineReservations', WHERE WHAT IT READS IS OF BULK AT MOST 1048576: true; the input reads as it did. -/
def fnExactCombineReservationsUptoRow : OpenClaim := { program := "ytaideophjlnoeaa", sum := "d64738797e315d42019b13cbfdac64ac6e644e8bf34603371f65ecc337967d55", func := "loop.example/g00511/laws.FnExactCombineReservations", spec := "fnExactCombineReservations", apart := false, narrowed := true }
def FnExactCombineReservationsUptoSaid : Prop := fnExactCombineReservationsUptoRow.holds Try.pinned (OpenSpec.upto fnExactCombineReservationsSpec)

/-- 'laws.FnExactSeqDistance', WHERE WHAT IT READS IS OF BULK AT MOST 1048576: true; the input reads as it did. -/
def fnExactSeqDistanceUptoRow : OpenClaim := { program := "ytaideophjlnoeaa", sum := "d64738797e315d42019b13cbfdac64ac6e644e8bf34603371f65ecc337967d55", func := "loop.example/g00511/laws.FnExactSeqDistance", spec := "fnExactSeqDistance", apart := false, narrowed := true }
def FnExactSeqDistanceUptoSaid : Prop := fnExactSeqDistanceUptoRow.holds Try.pinned (OpenSpec.upto fnExactSeqDistanceSpec)

/-- 'laws.FnExactReleaseUnused', WHERE WHAT IT READS IS OF BULK AT MOST 1048576: true; the input reads as it did. -/
def fnExactReleaseUnusedUptoRow : OpenClaim := { program := "ytaideophjlnoeaa", sum := "d64738797e315d42019b13cbfdac64ac6e644e8bf34603371f65ecc337967d55", func := "loop.example/g00511/laws.FnExactReleaseUnused", spec := "fnExactReleaseUnused", apart := false, narrowed := true }
def FnExactReleaseUnusedUptoSaid : Prop := fnExactReleaseUnusedUptoRow.holds Try.pinned (OpenSpec.upto fnExactReleaseUnusedSpec)

/-- 'laws.FnExactIsNewer', WHERE WHAT IT READS IS OF BULK AT MOST 1048576: true; the input reads as it did. -/
def fnExactIsNewerUptoRow : OpenClaim := { program := "ytaideophjlnoeaa", sum := "d64738797e315d42019b13cbfdac64ac6e644e8bf34603371f65ecc337967d55", func := "loop.example/g00511/laws.FnExactIsNewer", spec := "fnExactIsNewer", apart := false, narrowed := true }
def FnExactIsNewerUptoSaid : Prop := fnExactIsNewerUptoRow.holds Try.pinned (OpenSpec.upto fnExactIsNewerSpec)

/-- 'laws.FnExactParamsFor', WHERE WHAT IT READS IS OF BULK AT MOST 1048576: true; the input reads as it did. -/
def fnExactParamsForUptoRow : OpenClaim := { program := "ytaideophjlnoeaa", sum := "d64738797e315d42019b13cbfdac64ac6e644e8bf34603371f65ecc337967d55", func := "loop.example/g00511/laws.FnExactParamsFor", spec := "fnExactParamsFor", apart := false, narrowed := true }
def FnExactParamsForUptoSaid : Prop := fnExactParamsForUptoRow.holds Try.pinned (OpenSpec.upto fnExactParamsForSpec)

end Rows
end Go.Proofs.Ytaideophjlnoeaa
