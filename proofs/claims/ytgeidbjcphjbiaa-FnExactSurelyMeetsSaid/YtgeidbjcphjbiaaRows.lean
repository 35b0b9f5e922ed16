/-
  No cell of these rows narrows 'for every input' (looked for: loops, veiled, ifaces, maps, wideKeys, modest, calm, conditions, laid).
  DERIVED. THE GIVEN ROWS OF THIS SEAT. 9 by the template 'for every input the law returns true; each argument reads behind the call as it read before'; 0 by the template 'total and deterministic' (their statements: YtgeidbjcphjbiaaTotals.lean).
  GIVEN WITH THE SEED: the statements are not yours to turn. If you find one false, say at which input.
  Laid BY PROGRAM, IN A SANDBOX (cutbox-rows.mjs): the forced cells as the released guide's own fill.sh prints them over the translation e33d685a5d5ac713… (all of the seat's roots in one cut). By AI agents, Wed Nov 11 2026. No macro, syntax, notation, axiom, sorry.
-/
import Derived.Test.YtgeidbjcphjbiaaChecked
import GoSem.Claim
import GoSem.ClaimJoined
import GoSem.ClaimMapViews
import Derived.JoinedTies
import Derived.KernelRfl
namespace Go.Proofs.Ytgeidbjcphjbiaa
/- THE CELL 'sum', in the pinned program and in every row, IS THE sha256 OF THE DUMP (.gsa) THAT YtgeidbjcphjbiaaProg.lean LOADS. Nothing in Lean hashes anything: it is a label: what it is worth is what the hold of that sum in a sandbox is worth. -/
noncomputable def Try.pinned : Pinned := { name := "ytgeidbjcphjbiaa", sum := "e33d685a5d5ac7138cea3b224b175b61099be17c07f2838c8ff1074cbf77ea52", checked := Try.checked }
namespace Rows
def none {H : Type} : Left H := { results := [], args := [] }

/-- 'laws.FnExactCodeName': WHATEVER THE INPUT: true; the input reads as it did. -/
def fnExactCodeNameSpec : ChangeSpec := { name := "fnExactCodeName", fn := fun _ => fun
  | [d] => { results := [.lit (.bool true)], args := [d] }
  | _ => none }
def fnExactCodeNameRow : OpenClaim := { program := "ytgeidbjcphjbiaa", sum := "e33d685a5d5ac7138cea3b224b175b61099be17c07f2838c8ff1074cbf77ea52", func := "loop.example/g01118/laws.FnExactCodeName", spec := "fnExactCodeName", apart := false }
def FnExactCodeNameSaid : Prop := fnExactCodeNameRow.holds Try.pinned (OpenSpec.ofChange fnExactCodeNameSpec)

/-- ITS FALSE NEIGHBOUR: 'it returns false'. Refute it at one input. -/
def fnExactCodeNameWrong : ChangeSpec := { name := "fnExactCodeName", fn := fun _ => fun
  | [d] => { results := [.lit (.bool false)], args := [d] }
  | _ => none }
def FnExactCodeNameWrongFalsely : Prop := fnExactCodeNameRow.holds Try.pinned (OpenSpec.ofChange fnExactCodeNameWrong)

/-- 'laws.FnExactArePaths': WHATEVER THE INPUT: true; the input reads as it did. -/
def fnExactArePathsSpec : ChangeSpec := { name := "fnExactArePaths", fn := fun _ => fun
  | [d1, d2] => { results := [.lit (.bool true)], args := [d1, d2] }
  | _ => none }
def fnExactArePathsRow : OpenClaim := { program := "ytgeidbjcphjbiaa", sum := "e33d685a5d5ac7138cea3b224b175b61099be17c07f2838c8ff1074cbf77ea52", func := "loop.example/g01118/laws.FnExactArePaths", spec := "fnExactArePaths", unfollowed := true, recurses := true, apart := false }
def FnExactArePathsSaid : Prop := fnExactArePathsRow.holds Try.pinned (OpenSpec.ofChange fnExactArePathsSpec)

/-- ITS FALSE NEIGHBOUR: 'it returns false'. Refute it at one input. -/
def fnExactArePathsWrong : ChangeSpec := { name := "fnExactArePaths", fn := fun _ => fun
  | [d1, d2] => { results := [.lit (.bool false)], args := [d1, d2] }
  | _ => none }
def FnExactArePathsWrongFalsely : Prop := fnExactArePathsRow.holds Try.pinned (OpenSpec.ofChange fnExactArePathsWrong)

/-- 'laws.FnExactRoadLengths': WHATEVER THE INPUT: true; the input reads as it did. -/
def fnExactRoadLengthsSpec : ChangeSpec := { name := "fnExactRoadLengths", fn := fun _ => fun
  | [d1, d2] => { results := [.lit (.bool true)], args := [d1, d2] }
  | _ => none }
def fnExactRoadLengthsRow : OpenClaim := { program := "ytgeidbjcphjbiaa", sum := "e33d685a5d5ac7138cea3b224b175b61099be17c07f2838c8ff1074cbf77ea52", func := "loop.example/g01118/laws.FnExactRoadLengths", spec := "fnExactRoadLengths", apart := false }
def FnExactRoadLengthsSaid : Prop := fnExactRoadLengthsRow.holds Try.pinned (OpenSpec.ofChange fnExactRoadLengthsSpec)

/-- ITS FALSE NEIGHBOUR: 'it returns false'. Refute it at one input. -/
def fnExactRoadLengthsWrong : ChangeSpec := { name := "fnExactRoadLengths", fn := fun _ => fun
  | [d1, d2] => { results := [.lit (.bool false)], args := [d1, d2] }
  | _ => none }
def FnExactRoadLengthsWrongFalsely : Prop := fnExactRoadLengthsRow.holds Try.pinned (OpenSpec.ofChange fnExactRoadLengthsWrong)

/-- 'laws.FnExactChainText': WHATEVER THE INPUT: true; the input reads as it did. -/
def fnExactChainTextSpec : ChangeSpec := { name := "fnExactChainText", fn := fun _ => fun
  | [d] => { results := [.lit (.bool true)], args := [d] }
  | _ => none }
def fnExactChainTextRow : OpenClaim := { program := "ytgeidbjcphjbiaa", sum := "e33d685a5d5ac7138cea3b224b175b61099be17c07f2838c8ff1074cbf77ea52", func := "loop.example/g01118/laws.FnExactChainText", spec := "fnExactChainText", recurses := true, apart := false }
def FnExactChainTextSaid : Prop := fnExactChainTextRow.holds Try.pinned (OpenSpec.ofChange fnExactChainTextSpec)

/-- ITS FALSE NEIGHBOUR: 'it returns false'. Refute it at one input. -/
def fnExactChainTextWrong : ChangeSpec := { name := "fnExactChainText", fn := fun _ => fun
  | [d] => { results := [.lit (.bool false)], args := [d] }
  | _ => none }
def FnExactChainTextWrongFalsely : Prop := fnExactChainTextRow.holds Try.pinned (OpenSpec.ofChange fnExactChainTextWrong)

/-- 'laws.FnExactMapsText': WHATEVER THE INPUT: true; the input reads as it did. -/
def fnExactMapsTextSpec : ChangeSpec := { name := "fnExactMapsText", fn := fun _ => fun
  | [d] => { results := [.lit (.bool true)], args := [d] }
  | _ => none }
def fnExactMapsTextRow : OpenClaim := { program := "ytgeidbjcphjbiaa", sum := "e33d685a5d5ac7138cea3b224b175b61099be17c07f2838c8ff1074cbf77ea52", func := "loop.example/g01118/laws.FnExactMapsText", spec := "fnExactMapsText", recurses := true, apart := false }
def FnExactMapsTextSaid : Prop := fnExactMapsTextRow.holds Try.pinned (OpenSpec.ofChange fnExactMapsTextSpec)

/-- ITS FALSE NEIGHBOUR: 'it returns false'. Refute it at one input. -/
def fnExactMapsTextWrong : ChangeSpec := { name := "fnExactMapsText", fn := fun _ => fun
  | [d] => { results := [.lit (.bool false)], args := [d] }
  | _ => none }
def FnExactMapsTextWrongFalsely : Prop := fnExactMapsTextRow.holds Try.pinned (OpenSpec.ofChange fnExactMapsTextWrong)

/-- 'laws.FnExactReadChain': WHATEVER THE INPUT: true; the input reads as it did. -/
def fnExactReadChainSpec : ChangeSpec := { name := "fnExactReadChain", fn := fun _ => fun
  | [d] => { results := [.lit (.bool true)], args := [d] }
  | _ => none }
def fnExactReadChainRow : OpenClaim := { program := "ytgeidbjcphjbiaa", sum := "e33d685a5d5ac7138cea3b224b175b61099be17c07f2838c8ff1074cbf77ea52", func := "loop.example/g01118/laws.FnExactReadChain", spec := "fnExactReadChain", recurses := true, apart := false }
def FnExactReadChainSaid : Prop := fnExactReadChainRow.holds Try.pinned (OpenSpec.ofChange fnExactReadChainSpec)

/-- ITS FALSE NEIGHBOUR: 'it returns false'. Refute it at one input. -/
def fnExactReadChainWrong : ChangeSpec := { name := "fnExactReadChain", fn := fun _ => fun
  | [d] => { results := [.lit (.bool false)], args := [d] }
  | _ => none }
def FnExactReadChainWrongFalsely : Prop := fnExactReadChainRow.holds Try.pinned (OpenSpec.ofChange fnExactReadChainWrong)

/-- 'laws.FnExactReadMaps': WHATEVER THE INPUT: true; the input reads as it did. -/
def fnExactReadMapsSpec : ChangeSpec := { name := "fnExactReadMaps", fn := fun _ => fun
  | [d] => { results := [.lit (.bool true)], args := [d] }
  | _ => none }
def fnExactReadMapsRow : OpenClaim := { program := "ytgeidbjcphjbiaa", sum := "e33d685a5d5ac7138cea3b224b175b61099be17c07f2838c8ff1074cbf77ea52", func := "loop.example/g01118/laws.FnExactReadMaps", spec := "fnExactReadMaps", recurses := true, apart := false }
def FnExactReadMapsSaid : Prop := fnExactReadMapsRow.holds Try.pinned (OpenSpec.ofChange fnExactReadMapsSpec)

/-- ITS FALSE NEIGHBOUR: 'it returns false'. Refute it at one input. -/
def fnExactReadMapsWrong : ChangeSpec := { name := "fnExactReadMaps", fn := fun _ => fun
  | [d] => { results := [.lit (.bool false)], args := [d] }
  | _ => none }
def FnExactReadMapsWrongFalsely : Prop := fnExactReadMapsRow.holds Try.pinned (OpenSpec.ofChange fnExactReadMapsWrong)

/-- 'laws.FnExactSurelyMeets': WHATEVER THE INPUT: true; the input reads as it did. -/
def fnExactSurelyMeetsSpec : ChangeSpec := { name := "fnExactSurelyMeets", fn := fun _ => fun
  | [d1, d2, d3, d4] => { results := [.lit (.bool true)], args := [d1, d2, d3, d4] }
  | _ => none }
def fnExactSurelyMeetsRow : OpenClaim := { program := "ytgeidbjcphjbiaa", sum := "e33d685a5d5ac7138cea3b224b175b61099be17c07f2838c8ff1074cbf77ea52", func := "loop.example/g01118/laws.FnExactSurelyMeets", spec := "fnExactSurelyMeets", unfollowed := true, recurses := true, apart := false }
def FnExactSurelyMeetsSaid : Prop := fnExactSurelyMeetsRow.holds Try.pinned (OpenSpec.ofChange fnExactSurelyMeetsSpec)

/-- ITS FALSE NEIGHBOUR: 'it returns false'. Refute it at one input. -/
def fnExactSurelyMeetsWrong : ChangeSpec := { name := "fnExactSurelyMeets", fn := fun _ => fun
  | [d1, d2, d3, d4] => { results := [.lit (.bool false)], args := [d1, d2, d3, d4] }
  | _ => none }
def FnExactSurelyMeetsWrongFalsely : Prop := fnExactSurelyMeetsRow.holds Try.pinned (OpenSpec.ofChange fnExactSurelyMeetsWrong)

/-- 'laws.FnExactStickyCoupled': WHATEVER THE INPUT: true; the input reads as it did. -/
def fnExactStickyCoupledSpec : ChangeSpec := { name := "fnExactStickyCoupled", fn := fun _ => fun
  | [d1, d2] => { results := [.lit (.bool true)], args := [d1, d2] }
  | _ => none }
def fnExactStickyCoupledRow : OpenClaim := { program := "ytgeidbjcphjbiaa", sum := "e33d685a5d5ac7138cea3b224b175b61099be17c07f2838c8ff1074cbf77ea52", func := "loop.example/g01118/laws.FnExactStickyCoupled", spec := "fnExactStickyCoupled", unfollowed := true, recurses := true, apart := false }
def FnExactStickyCoupledSaid : Prop := fnExactStickyCoupledRow.holds Try.pinned (OpenSpec.ofChange fnExactStickyCoupledSpec)

/-- ITS FALSE NEIGHBOUR: 'it returns false'. Refute it at one input. -/
def fnExactStickyCoupledWrong : ChangeSpec := { name := "fnExactStickyCoupled", fn := fun _ => fun
  | [d1, d2] => { results := [.lit (.bool false)], args := [d1, d2] }
  | _ => none }
def FnExactStickyCoupledWrongFalsely : Prop := fnExactStickyCoupledRow.holds Try.pinned (OpenSpec.ofChange fnExactStickyCoupledWrong)

/- THE SECOND FORM. 'bulk': how many values and letters a reading holds, each counted each time it is reached (what is shared counts as often as it is met; a slice's spare places count too). A statement '..UptoSaid' is the law's where the arguments, and the package variables that the reading takes, are together of bulk at most 1048576: NARROWER than '..Said'. Prove '..Said' where nothing that the law and all that it calls make is longer than what came in: it says more and counts as full. Else prove '..UptoSaid'. A law counts once. -/
mutual
def uptoBulk {H : Type} : DataW H → Nat
  | .lit (.string bytes) => bytes.length + 1
  | .lit _ => 1
  | .nil => 1
  | .ptr d => uptoBulk d + 1
  | .slice elems spare => uptoBulkAll elems + uptoBulkAll spare + 1
  | .agg parts => uptoBulkAll parts + 1
  | .iface _ d => uptoBulk d + 1
  | .map entries => uptoBulkEntries entries + 1
  | .held _ => 1
def uptoBulkAll {H : Type} : List (DataW H) → Nat
  | [] => 0
  | d :: r => uptoBulk d + uptoBulkAll r
def uptoBulkEntries {H : Type} : List (Lit × DataW H) → Nat
  | [] => 0
  | x :: r => uptoBulkEntry x + uptoBulkEntries r
def uptoBulkEntry {H : Type} : Lit × DataW H → Nat
  | (.string bytes, d) => bytes.length + uptoBulk d + 1
  | (_, d) => uptoBulk d + 1
 end
def uptoSmall : (H : Type) → List (DataW H) → Bool := fun _ ds => decide (uptoBulkAll ds ≤ 1048576)
def OpenSpec.upto (s : _root_.Go.ChangeSpec) : _root_.Go.OpenSpec := { _root_.Go.OpenSpec.ofChange s with cond := some uptoSmall }

/-- 'laws.FnExactCodeName', WHERE WHAT IT READS IS OF BULK AT MOST 1048576: true; the input reads as it did. -/
def fnExactCodeNameUptoRow : OpenClaim := { program := "ytgeidbjcphjbiaa", sum := "e33d685a5d5ac7138cea3b224b175b61099be17c07f2838c8ff1074cbf77ea52", func := "loop.example/g01118/laws.FnExactCodeName", spec := "fnExactCodeName", apart := false, narrowed := true }
def FnExactCodeNameUptoSaid : Prop := fnExactCodeNameUptoRow.holds Try.pinned (OpenSpec.upto fnExactCodeNameSpec)

/-- 'laws.FnExactArePaths', WHERE WHAT IT READS IS OF BULK AT MOST 1048576: true; the input reads as it did. -/
def fnExactArePathsUptoRow : OpenClaim := { program := "ytgeidbjcphjbiaa", sum := "e33d685a5d5ac7138cea3b224b175b61099be17c07f2838c8ff1074cbf77ea52", func := "loop.example/g01118/laws.FnExactArePaths", spec := "fnExactArePaths", unfollowed := true, recurses := true, apart := false, narrowed := true }
def FnExactArePathsUptoSaid : Prop := fnExactArePathsUptoRow.holds Try.pinned (OpenSpec.upto fnExactArePathsSpec)

/-- 'laws.FnExactRoadLengths', WHERE WHAT IT READS IS OF BULK AT MOST 1048576: true; the input reads as it did. -/
def fnExactRoadLengthsUptoRow : OpenClaim := { program := "ytgeidbjcphjbiaa", sum := "e33d685a5d5ac7138cea3b224b175b61099be17c07f2838c8ff1074cbf77ea52", func := "loop.example/g01118/laws.FnExactRoadLengths", spec := "fnExactRoadLengths", apart := false, narrowed := true }
def FnExactRoadLengthsUptoSaid : Prop := fnExactRoadLengthsUptoRow.holds Try.pinned (OpenSpec.upto fnExactRoadLengthsSpec)

/-- 'laws.FnExactChainText', WHERE WHAT IT READS IS OF BULK AT MOST 1048576: true; the input reads as it did. -/
def fnExactChainTextUptoRow : OpenClaim := { program := "ytgeidbjcphjbiaa", sum := "e33d685a5d5ac7138cea3b224b175b61099be17c07f2838c8ff1074cbf77ea52", func := "loop.example/g01118/laws.FnExactChainText", spec := "fnExactChainText", recurses := true, apart := false, narrowed := true }
def FnExactChainTextUptoSaid : Prop := fnExactChainTextUptoRow.holds Try.pinned (OpenSpec.upto fnExactChainTextSpec)

/-- 'laws.FnExactMapsText', WHERE WHAT IT READS IS OF BULK AT MOST 1048576: true; the input reads as it did. -/
def fnExactMapsTextUptoRow : OpenClaim := { program := "ytgeidbjcphjbiaa", sum := "e33d685a5d5ac7138cea3b224b175b61099be17c07f2838c8ff1074cbf77ea52", func := "loop.example/g01118/laws.FnExactMapsText", spec := "fnExactMapsText", recurses := true, apart := false, narrowed := true }
def FnExactMapsTextUptoSaid : Prop := fnExactMapsTextUptoRow.holds Try.pinned (OpenSpec.upto fnExactMapsTextSpec)

/-- 'laws.FnExactReadChain', WHERE WHAT IT READS IS OF BULK AT MOST 1048576: true; the input reads as it did. -/
def fnExactReadChainUptoRow : OpenClaim := { program := "ytgeidbjcphjbiaa", sum := "e33d685a5d5ac7138cea3b224b175b61099be17c07f2838c8ff1074cbf77ea52", func := "loop.example/g01118/laws.FnExactReadChain", spec := "fnExactReadChain", recurses := true, apart := false, narrowed := true }
def FnExactReadChainUptoSaid : Prop := fnExactReadChainUptoRow.holds Try.pinned (OpenSpec.upto fnExactReadChainSpec)

/-- 'laws.FnExactReadMaps', WHERE WHAT IT READS IS OF BULK AT MOST 1048576: true; the input reads as it did. -/
def fnExactReadMapsUptoRow : OpenClaim := { program := "ytgeidbjcphjbiaa", sum := "e33d685a5d5ac7138cea3b224b175b61099be17c07f2838c8ff1074cbf77ea52", func := "loop.example/g01118/laws.FnExactReadMaps", spec := "fnExactReadMaps", recurses := true, apart := false, narrowed := true }
def FnExactReadMapsUptoSaid : Prop := fnExactReadMapsUptoRow.holds Try.pinned (OpenSpec.upto fnExactReadMapsSpec)

/-- 'laws.FnExactSurelyMeets', WHERE WHAT IT READS IS OF BULK AT MOST 1048576: true; the input reads as it did. -/
def fnExactSurelyMeetsUptoRow : OpenClaim := { program := "ytgeidbjcphjbiaa", sum := "e33d685a5d5ac7138cea3b224b175b61099be17c07f2838c8ff1074cbf77ea52", func := "loop.example/g01118/laws.FnExactSurelyMeets", spec := "fnExactSurelyMeets", unfollowed := true, recurses := true, apart := false, narrowed := true }
def FnExactSurelyMeetsUptoSaid : Prop := fnExactSurelyMeetsUptoRow.holds Try.pinned (OpenSpec.upto fnExactSurelyMeetsSpec)

/-- 'laws.FnExactStickyCoupled', WHERE WHAT IT READS IS OF BULK AT MOST 1048576: true; the input reads as it did. -/
def fnExactStickyCoupledUptoRow : OpenClaim := { program := "ytgeidbjcphjbiaa", sum := "e33d685a5d5ac7138cea3b224b175b61099be17c07f2838c8ff1074cbf77ea52", func := "loop.example/g01118/laws.FnExactStickyCoupled", spec := "fnExactStickyCoupled", unfollowed := true, recurses := true, apart := false, narrowed := true }
def FnExactStickyCoupledUptoSaid : Prop := fnExactStickyCoupledUptoRow.holds Try.pinned (OpenSpec.upto fnExactStickyCoupledSpec)

end Rows
end Go.Proofs.Ytgeidbjcphjbiaa
