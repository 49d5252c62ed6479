/-
  No cell of these rows narrows 'for every input' (looked for: loops, veiled, ifaces, maps, wideKeys, modest, calm, conditions, laid).
  DERIVED. THE GIVEN ROWS OF THIS SEAT. 9 by the template 'for every input the law returns true; each argument reads behind the call as it read before'; 0 by the template 'total and deterministic' (their statements: YtcjppmihmfcagaaTotals.lean).
  GIVEN WITH THE SEED: the statements are not yours to turn. If you find one false, say at which input.
  Laid BY PROGRAM, IN A SANDBOX (cutbox-rows.mjs): the forced cells as the released guide's own fill.sh prints them over the translation 7858faa28b27bbc6… (all of the seat's roots in one cut). By AI agents, Wed Nov 11 2026. No macro, syntax, notation, axiom, sorry.
-/
import Derived.Test.YtcjppmihmfcagaaChecked
import GoSem.Claim
import GoSem.ClaimJoined
import GoSem.ClaimMapViews
import Derived.JoinedTies
import Derived.KernelRfl
namespace Go.Proofs.Ytcjppmihmfcagaa
/- THE CELL 'sum', in the pinned program and in every row, IS THE sha256 OF THE DUMP (.gsa) THAT YtcjppmihmfcagaaProg.lean LOADS. Nothing in Lean hashes anything: it is a label: what it is worth is what the hold of that sum in a sandbox is worth. -/
noncomputable def Try.pinned : Pinned := { name := "ytcjppmihmfcagaa", sum := "7858faa28b27bbc66ec29ea74625291e29be3e6fd15c26e5a8c0f02b09760f91", checked := Try.checked }
namespace Rows
def none {H : Type} : Left H := { results := [], args := [] }

/-- 'laws.FnExactDelimiterBytes': WHATEVER THE INPUT: true; the input reads as it did. -/
def fnExactDelimiterBytesSpec : ChangeSpec := { name := "fnExactDelimiterBytes", fn := fun _ => fun
  | [d] => { results := [.lit (.bool true)], args := [d] }
  | _ => none }
def fnExactDelimiterBytesRow : OpenClaim := { program := "ytcjppmihmfcagaa", sum := "7858faa28b27bbc66ec29ea74625291e29be3e6fd15c26e5a8c0f02b09760f91", func := "loop.example/g00511/laws.FnExactDelimiterBytes", spec := "fnExactDelimiterBytes", apart := false }
def FnExactDelimiterBytesSaid : Prop := fnExactDelimiterBytesRow.holds Try.pinned (OpenSpec.ofChange fnExactDelimiterBytesSpec)

/-- ITS FALSE NEIGHBOUR: 'it returns false'. Refute it at one input. -/
def fnExactDelimiterBytesWrong : ChangeSpec := { name := "fnExactDelimiterBytes", fn := fun _ => fun
  | [d] => { results := [.lit (.bool false)], args := [d] }
  | _ => none }
def FnExactDelimiterBytesWrongFalsely : Prop := fnExactDelimiterBytesRow.holds Try.pinned (OpenSpec.ofChange fnExactDelimiterBytesWrong)

/-- 'laws.FnExactStartReassembly': WHATEVER THE INPUT: true; the input reads as it did. -/
def fnExactStartReassemblySpec : ChangeSpec := { name := "fnExactStartReassembly", fn := fun _ => fun
  | [d1, d2] => { results := [.lit (.bool true)], args := [d1, d2] }
  | _ => none }
def fnExactStartReassemblyRow : OpenClaim := { program := "ytcjppmihmfcagaa", sum := "7858faa28b27bbc66ec29ea74625291e29be3e6fd15c26e5a8c0f02b09760f91", func := "loop.example/g00511/laws.FnExactStartReassembly", spec := "fnExactStartReassembly", apart := false }
def FnExactStartReassemblySaid : Prop := fnExactStartReassemblyRow.holds Try.pinned (OpenSpec.ofChange fnExactStartReassemblySpec)

/-- ITS FALSE NEIGHBOUR: 'it returns false'. Refute it at one input. -/
def fnExactStartReassemblyWrong : ChangeSpec := { name := "fnExactStartReassembly", fn := fun _ => fun
  | [d1, d2] => { results := [.lit (.bool false)], args := [d1, d2] }
  | _ => none }
def FnExactStartReassemblyWrongFalsely : Prop := fnExactStartReassemblyRow.holds Try.pinned (OpenSpec.ofChange fnExactStartReassemblyWrong)

/-- 'laws.FnExactExpireReassemblies': WHATEVER THE INPUT: true; the input reads as it did. -/
def fnExactExpireReassembliesSpec : ChangeSpec := { name := "fnExactExpireReassemblies", fn := fun _ => fun
  | [d1, d2] => { results := [.lit (.bool true)], args := [d1, d2] }
  | _ => none }
def fnExactExpireReassembliesRow : OpenClaim := { program := "ytcjppmihmfcagaa", sum := "7858faa28b27bbc66ec29ea74625291e29be3e6fd15c26e5a8c0f02b09760f91", func := "loop.example/g00511/laws.FnExactExpireReassemblies", spec := "fnExactExpireReassemblies", apart := false }
def FnExactExpireReassembliesSaid : Prop := fnExactExpireReassembliesRow.holds Try.pinned (OpenSpec.ofChange fnExactExpireReassembliesSpec)

/-- ITS FALSE NEIGHBOUR: 'it returns false'. Refute it at one input. -/
def fnExactExpireReassembliesWrong : ChangeSpec := { name := "fnExactExpireReassemblies", fn := fun _ => fun
  | [d1, d2] => { results := [.lit (.bool false)], args := [d1, d2] }
  | _ => none }
def FnExactExpireReassembliesWrongFalsely : Prop := fnExactExpireReassembliesRow.holds Try.pinned (OpenSpec.ofChange fnExactExpireReassembliesWrong)

/-- 'laws.FnExactExpireMessages': WHATEVER THE INPUT: true; the input reads as it did. -/
def fnExactExpireMessagesSpec : ChangeSpec := { name := "fnExactExpireMessages", fn := fun _ => fun
  | [d1, d2] => { results := [.lit (.bool true)], args := [d1, d2] }
  | _ => none }
def fnExactExpireMessagesRow : OpenClaim := { program := "ytcjppmihmfcagaa", sum := "7858faa28b27bbc66ec29ea74625291e29be3e6fd15c26e5a8c0f02b09760f91", func := "loop.example/g00511/laws.FnExactExpireMessages", spec := "fnExactExpireMessages", apart := false }
def FnExactExpireMessagesSaid : Prop := fnExactExpireMessagesRow.holds Try.pinned (OpenSpec.ofChange fnExactExpireMessagesSpec)

/-- ITS FALSE NEIGHBOUR: 'it returns false'. Refute it at one input. -/
def fnExactExpireMessagesWrong : ChangeSpec := { name := "fnExactExpireMessages", fn := fun _ => fun
  | [d1, d2] => { results := [.lit (.bool false)], args := [d1, d2] }
  | _ => none }
def FnExactExpireMessagesWrongFalsely : Prop := fnExactExpireMessagesRow.holds Try.pinned (OpenSpec.ofChange fnExactExpireMessagesWrong)

/-- 'laws.FnExactRememberFrame': WHATEVER THE INPUT: true; the input reads as it did. -/
def fnExactRememberFrameSpec : ChangeSpec := { name := "fnExactRememberFrame", fn := fun _ => fun
  | [d1, d2, d3] => { results := [.lit (.bool true)], args := [d1, d2, d3] }
  | _ => none }
def fnExactRememberFrameRow : OpenClaim := { program := "ytcjppmihmfcagaa", sum := "7858faa28b27bbc66ec29ea74625291e29be3e6fd15c26e5a8c0f02b09760f91", func := "loop.example/g00511/laws.FnExactRememberFrame", spec := "fnExactRememberFrame", apart := false }
def FnExactRememberFrameSaid : Prop := fnExactRememberFrameRow.holds Try.pinned (OpenSpec.ofChange fnExactRememberFrameSpec)

/-- ITS FALSE NEIGHBOUR: 'it returns false'. Refute it at one input. -/
def fnExactRememberFrameWrong : ChangeSpec := { name := "fnExactRememberFrame", fn := fun _ => fun
  | [d1, d2, d3] => { results := [.lit (.bool false)], args := [d1, d2, d3] }
  | _ => none }
def FnExactRememberFrameWrongFalsely : Prop := fnExactRememberFrameRow.holds Try.pinned (OpenSpec.ofChange fnExactRememberFrameWrong)

/-- 'laws.FnExactAcceptFrame': WHATEVER THE INPUT: true; the input reads as it did. -/
def fnExactAcceptFrameSpec : ChangeSpec := { name := "fnExactAcceptFrame", fn := fun _ => fun
  | [d1, d2, d3] => { results := [.lit (.bool true)], args := [d1, d2, d3] }
  | _ => none }
def fnExactAcceptFrameRow : OpenClaim := { program := "ytcjppmihmfcagaa", sum := "7858faa28b27bbc66ec29ea74625291e29be3e6fd15c26e5a8c0f02b09760f91", func := "loop.example/g00511/laws.FnExactAcceptFrame", spec := "fnExactAcceptFrame", apart := false }
def FnExactAcceptFrameSaid : Prop := fnExactAcceptFrameRow.holds Try.pinned (OpenSpec.ofChange fnExactAcceptFrameSpec)

/-- ITS FALSE NEIGHBOUR: 'it returns false'. Refute it at one input. -/
def fnExactAcceptFrameWrong : ChangeSpec := { name := "fnExactAcceptFrame", fn := fun _ => fun
  | [d1, d2, d3] => { results := [.lit (.bool false)], args := [d1, d2, d3] }
  | _ => none }
def FnExactAcceptFrameWrongFalsely : Prop := fnExactAcceptFrameRow.holds Try.pinned (OpenSpec.ofChange fnExactAcceptFrameWrong)

/-- 'laws.FnExactTakeMessage': WHATEVER THE INPUT: true; the input reads as it did. -/
def fnExactTakeMessageSpec : ChangeSpec := { name := "fnExactTakeMessage", fn := fun _ => fun
  | [d1, d2] => { results := [.lit (.bool true)], args := [d1, d2] }
  | _ => none }
def fnExactTakeMessageRow : OpenClaim := { program := "ytcjppmihmfcagaa", sum := "7858faa28b27bbc66ec29ea74625291e29be3e6fd15c26e5a8c0f02b09760f91", func := "loop.example/g00511/laws.FnExactTakeMessage", spec := "fnExactTakeMessage", apart := false }
def FnExactTakeMessageSaid : Prop := fnExactTakeMessageRow.holds Try.pinned (OpenSpec.ofChange fnExactTakeMessageSpec)

/-- ITS FALSE NEIGHBOUR: 'it returns false'. Refute it at one input. -/
def fnExactTakeMessageWrong : ChangeSpec := { name := "fnExactTakeMessage", fn := fun _ => fun
  | [d1, d2] => { results := [.lit (.bool false)], args := [d1, d2] }
  | _ => none }
def FnExactTakeMessageWrongFalsely : Prop := fnExactTakeMessageRow.holds Try.pinned (OpenSpec.ofChange fnExactTakeMessageWrong)

/-- 'laws.FnExactEnqueueMessage': WHATEVER THE INPUT: true; the input reads as it did. -/
def fnExactEnqueueMessageSpec : ChangeSpec := { name := "fnExactEnqueueMessage", fn := fun _ => fun
  | [d1, d2] => { results := [.lit (.bool true)], args := [d1, d2] }
  | _ => none }
def fnExactEnqueueMessageRow : OpenClaim := { program := "ytcjppmihmfcagaa", sum := "7858faa28b27bbc66ec29ea74625291e29be3e6fd15c26e5a8c0f02b09760f91", func := "loop.example/g00511/laws.FnExactEnqueueMessage", spec := "fnExactEnqueueMessage", apart := false }
def FnExactEnqueueMessageSaid : Prop := fnExactEnqueueMessageRow.holds Try.pinned (OpenSpec.ofChange fnExactEnqueueMessageSpec)

/-- ITS FALSE NEIGHBOUR: 'it returns false'. Refute it at one input. -/
def fnExactEnqueueMessageWrong : ChangeSpec := { name := "fnExactEnqueueMessage", fn := fun _ => fun
  | [d1, d2] => { results := [.lit (.bool false)], args := [d1, d2] }
  | _ => none }
def FnExactEnqueueMessageWrongFalsely : Prop := fnExactEnqueueMessageRow.holds Try.pinned (OpenSpec.ofChange fnExactEnqueueMessageWrong)

/-- 'laws.FnExactFragments': WHATEVER THE INPUT: true; the input reads as it did. -/
def fnExactFragmentsSpec : ChangeSpec := { name := "fnExactFragments", fn := fun _ => fun
  | [d1, d2] => { results := [.lit (.bool true)], args := [d1, d2] }
  | _ => none }
def fnExactFragmentsRow : OpenClaim := { program := "ytcjppmihmfcagaa", sum := "7858faa28b27bbc66ec29ea74625291e29be3e6fd15c26e5a8c0f02b09760f91", func := "loop.example/g00511/laws.FnExactFragments", spec := "fnExactFragments", apart := false }
def FnExactFragmentsSaid : Prop := fnExactFragmentsRow.holds Try.pinned (OpenSpec.ofChange fnExactFragmentsSpec)

/-- ITS FALSE NEIGHBOUR: 'it returns false'. Refute it at one input. -/
def fnExactFragmentsWrong : ChangeSpec := { name := "fnExactFragments", fn := fun _ => fun
  | [d1, d2] => { results := [.lit (.bool false)], args := [d1, d2] }
  | _ => none }
def FnExactFragmentsWrongFalsely : Prop := fnExactFragmentsRow.holds Try.pinned (OpenSpec.ofChange fnExactFragmentsWrong)

/- THE SECOND FORM. 'bulk': how many values and letters a reading holds, each counted each time it is reached (what is shared counts as often as it is met; a slice's spare places count too). A statement '..UptoSaid' is the law's where the arguments, and the package variables that the reading takes, are together of bulk at most 1048576: NARROWER than '..Said'. Prove '..Said' where nothing that the law and all that it calls make is longer than what came in: it says more and counts as full. Else prove '..UptoSaid'. A law counts once. -/
mutual
def uptoBulk {H : Type} : DataW H → Nat
  | .lit (.string bytes) => bytes.length + 1
  | .lit _ => 1
  | .nil => 1
  | .ptr d => uptoBulk d + 1
  | .slice elems spare => uptoBulkAll elems + uptoBulkAll spare + 1
  | .agg parts => uptoBulkAll parts + 1
  | .iface _ d => uptoBulk d + 1
  | .map entries => uptoBulkEntries entries + 1
  | .held _ => 1
def uptoBulkAll {H : Type} : List (DataW H) → Nat
  | [] => 0
  | d :: r => uptoBulk d + uptoBulkAll r
def uptoBulkEntries {H : Type} : List (Lit × DataW H) → Nat
  | [] => 0
  | x :: r => uptoBulkEntry x + uptoBulkEntries r
def uptoBulkEntry {H : Type} : Lit × DataW H → Nat
  | (.string bytes, d) => bytes.length + uptoBulk d + 1
  | (_, d) => uptoBulk d + 1
 end
def uptoSmall : (H : Type) → List (DataW H) → Bool := fun _ ds => decide (uptoBulkAll ds ≤ 1048576)
def OpenSpec.upto (s : _root_.Go.ChangeSpec) : _root_.Go.OpenSpec := { _root_.Go.OpenSpec.ofChange s with cond := some uptoSmall }

/-- 'laws.FnExactDelimiterBytes', WHERE WHAT IT READS IS OF BULK AT MOST 1048576: true; the input reads as it did. -/
def fnExactDelimiterBytesUptoRow : OpenClaim := { program := "ytcjppmihmfcagaa", sum := "7858faa28b27bbc66ec29ea74625291e29be3e6fd15c26e5a8c0f02b09760f91", func := "loop.example/g00511/laws.FnExactDelimiterBytes", spec := "fnExactDelimiterBytes", apart := false, narrowed := true }
def FnExactDelimiterBytesUptoSaid : Prop := fnExactDelimiterBytesUptoRow.holds Try.pinned (OpenSpec.upto fnExactDelimiterBytesSpec)

/-- 'laws.FnExactStartReassembly', WHERE WHAT IT READS IS OF BULK AT MOST 1048576: true; the input reads as it did. -/
def fnExactStartReassemblyUptoRow : OpenClaim := { program := "ytcjppmihmfcagaa", sum := "7858faa28b27bbc66ec29ea74625291e29be3e6fd15c26e5a8c0f02b09760f91", func := "loop.example/g00511/laws.FnExactStartReassembly", spec := "fnExactStartReassembly", apart := false, narrowed := true }
def FnExactStartReassemblyUptoSaid : Prop := fnExactStartReassemblyUptoRow.holds Try.pinned (OpenSpec.upto fnExactStartReassemblySpec)

/-- 'laws.FnExactExpireReassemblies', WHERE WHAT IT READS IS OF BULK AT MOST 1048576: true; the input reads as it did. -/
def fnExactExpireReassembliesUptoRow : OpenClaim := { program := "ytcjppmihmfcagaa", sum := "7858faa28b27bbc66ec29ea74625291e29be3e6fd15c26e5a8c0f02b09760f91", func := "loop.example/g00511/laws.FnExactExpireReassemblies", spec := "fnExactExpireReassemblies", apart := false, narrowed := true }
def FnExactExpireReassembliesUptoSaid : Prop := fnExactExpireReassembliesUptoRow.holds Try.pinned (OpenSpec.upto fnExactExpireReassembliesSpec)

/-- 'laws.FnExactExpireMessages', WHERE WHAT IT READS IS OF BULK AT MOST 1048576: true; the input reads as it did. -/
def fnExactExpireMessagesUptoRow : OpenClaim := { program := "ytcjppmihmfcagaa", sum := "7858faa28b27bbc66ec29ea74625291e29be3e6fd15c26e5a8c0f02b09760f91", func := "loop.example/g00511/laws.FnExactExpireMessages", spec := "fnExactExpireMessages", apart := false, narrowed := true }
def FnExactExpireMessagesUptoSaid : Prop := fnExactExpireMessagesUptoRow.holds Try.pinned (OpenSpec.upto fnExactExpireMessagesSpec)

/-- 'laws.FnExactRememberFrame', WHERE WHAT IT READS IS OF BULK AT MOST 1048576: true; the input reads as it did. -/
def fnExactRememberFrameUptoRow : OpenClaim := { program := "ytcjppmihmfcagaa", sum := "7858faa28b27bbc66ec29ea74625291e29be3e6fd15c26e5a8c0f02b09760f91", func := "loop.example/g00511/laws.FnExactRememberFrame", spec := "fnExactRememberFrame", apart := false, narrowed := true }
def FnExactRememberFrameUptoSaid : Prop := fnExactRememberFrameUptoRow.holds Try.pinned (OpenSpec.upto fnExactRememberFrameSpec)

/-- 'laws.FnExactAcceptFrame', WHERE WHAT IT READS IS OF BULK AT MOST 1048576: true; the input reads as it did. -/
def fnExactAcceptFrameUptoRow : OpenClaim := { program := "ytcjppmihmfcagaa", sum := "7858faa28b27bbc66ec29ea74625291e29be3e6fd15c26e5a8c0f02b09760f91", func := "loop.example/g00511/laws.FnExactAcceptFrame", spec := "fnExactAcceptFrame", apart := false, narrowed := true }
def FnExactAcceptFrameUptoSaid : Prop := fnExactAcceptFrameUptoRow.holds Try.pinned (OpenSpec.upto fnExactAcceptFrameSpec)

/-- 'laws.FnExactTakeMessage', WHERE WHAT IT READS IS OF BULK AT MOST 1048576: true; the input reads as it did. -/
def fnExactTakeMessageUptoRow : OpenClaim := { program := "ytcjppmihmfcagaa", sum := "7858faa28b27bbc66ec29ea74625291e29be3e6fd15c26e5a8c0f02b09760f91", func := "loop.example/g00511/laws.FnExactTakeMessage", spec := "fnExactTakeMessage", apart := false, narrowed := true }
def FnExactTakeMessageUptoSaid : Prop := fnExactTakeMessageUptoRow.holds Try.pinned (OpenSpec.upto fnExactTakeMessageSpec)

/-- 'laws.FnExactEnqueueMessage', WHERE WHAT IT READS IS OF BULK AT MOST 1048576: true; the input reads as it did. -/
def fnExactEnqueueMessageUptoRow : OpenClaim := { program := "ytcjppmihmfcagaa", sum := "7858faa28b27bbc66ec29ea74625291e29be3e6fd15c26e5a8c0f02b09760f91", func := "loop.example/g00511/laws.FnExactEnqueueMessage", spec := "fnExactEnqueueMessage", apart := false, narrowed := true }
def FnExactEnqueueMessageUptoSaid : Prop := fnExactEnqueueMessageUptoRow.holds Try.pinned (OpenSpec.upto fnExactEnqueueMessageSpec)

/-- 'laws.FnExactFragments', WHERE WHAT IT READS IS OF BULK AT MOST 1048576: true; the input reads as it did. -/
def fnExactFragmentsUptoRow : OpenClaim := { program := "ytcjppmihmfcagaa", sum := "7858faa28b27bbc66ec29ea74625291e29be3e6fd15c26e5a8c0f02b09760f91", func := "loop.example/g00511/laws.FnExactFragments", spec := "fnExactFragments", apart := false, narrowed := true }
def FnExactFragmentsUptoSaid : Prop := fnExactFragmentsUptoRow.holds Try.pinned (OpenSpec.upto fnExactFragmentsSpec)

end Rows
end Go.Proofs.Ytcjppmihmfcagaa
