/-
  No cell of these rows narrows 'for every input' (looked for: loops, veiled, ifaces, maps, wideKeys, modest, calm, conditions, laid).
  DERIVED. THE GIVEN ROWS OF THIS SEAT. 9 by the template 'for every input the law returns true; each argument reads behind the call as it read before'; 0 by the template 'total and deterministic' (their statements: YthjoflgplbpeiaaTotals.lean).
  GIVEN WITH THE SEED: the statements are not yours to turn. If you find one false, say at which input.
  Laid BY PROGRAM, IN A SANDBOX (cutbox-rows.mjs): the forced cells as the released guide's own fill.sh prints them over the translation 87247934082f03c8… (all of the seat's roots in one cut). By AI agents, Wed Nov 11 2026. No macro, syntax, notation, axiom, sorry.
-/
import Derived.Test.YthjoflgplbpeiaaChecked
import GoSem.Claim
import GoSem.ClaimJoined
import GoSem.ClaimMapViews
import Derived.JoinedTies
import Derived.KernelRfl
namespace Go.Proofs.Ythjoflgplbpeiaa
/- THE CELL 'sum', in the pinned program and in every row, IS THE sha256 OF THE DUMP (.gsa) THAT YthjoflgplbpeiaaProg.lean LOADS. Nothing in Lean hashes anything: it is a label: what it is worth is what the hold of that sum in a sandbox is worth. -/
noncomputable def Try.pinned : Pinned := { name := "ythjoflgplbpeiaa", sum := "87247934082f03c8b8f21d8a73c0c39c1bb4b92f5ab0505ba40a28fdc1a5b336", checked := Try.checked }
namespace Rows
def none {H : Type} : Left H := { results := [], args := [] }

/-- 'laws.FnExactMapsText': WHATEVER THE INPUT: true; the input reads as it did. -/
def fnExactMapsTextSpec : ChangeSpec := { name := "fnExactMapsText", fn := fun _ => fun
  | [d] => { results := [.lit (.bool true)], args := [d] }
  | _ => none }
def fnExactMapsTextRow : OpenClaim := { program := "ythjoflgplbpeiaa", sum := "87247934082f03c8b8f21d8a73c0c39c1bb4b92f5ab0505ba40a28fdc1a5b336", func := "loop.example/g01118/laws.FnExactMapsText", spec := "fnExactMapsText", recurses := true, apart := false }
def FnExactMapsTextSaid : Prop := fnExactMapsTextRow.holds Try.pinned (OpenSpec.ofChange fnExactMapsTextSpec)

/-- ITS FALSE NEIGHBOUR: 'it returns false'. Refute it at one input. -/
def fnExactMapsTextWrong : ChangeSpec := { name := "fnExactMapsText", fn := fun _ => fun
  | [d] => { results := [.lit (.bool false)], args := [d] }
  | _ => none }
def FnExactMapsTextWrongFalsely : Prop := fnExactMapsTextRow.holds Try.pinned (OpenSpec.ofChange fnExactMapsTextWrong)

/-- 'laws.FnExactReadMaps': WHATEVER THE INPUT: true; the input reads as it did. -/
def fnExactReadMapsSpec : ChangeSpec := { name := "fnExactReadMaps", fn := fun _ => fun
  | [d] => { results := [.lit (.bool true)], args := [d] }
  | _ => none }
def fnExactReadMapsRow : OpenClaim := { program := "ythjoflgplbpeiaa", sum := "87247934082f03c8b8f21d8a73c0c39c1bb4b92f5ab0505ba40a28fdc1a5b336", func := "loop.example/g01118/laws.FnExactReadMaps", spec := "fnExactReadMaps", recurses := true, apart := false }
def FnExactReadMapsSaid : Prop := fnExactReadMapsRow.holds Try.pinned (OpenSpec.ofChange fnExactReadMapsSpec)

/-- ITS FALSE NEIGHBOUR: 'it returns false'. Refute it at one input. -/
def fnExactReadMapsWrong : ChangeSpec := { name := "fnExactReadMaps", fn := fun _ => fun
  | [d] => { results := [.lit (.bool false)], args := [d] }
  | _ => none }
def FnExactReadMapsWrongFalsely : Prop := fnExactReadMapsRow.holds Try.pinned (OpenSpec.ofChange fnExactReadMapsWrong)

/-- 'laws.FnExactValidCoupled': WHATEVER THE INPUT: true; the input reads as it did. -/
def fnExactValidCoupledSpec : ChangeSpec := { name := "fnExactValidCoupled", fn := fun _ => fun
  | [d1, d2] => { results := [.lit (.bool true)], args := [d1, d2] }
  | _ => none }
def fnExactValidCoupledRow : OpenClaim := { program := "ythjoflgplbpeiaa", sum := "87247934082f03c8b8f21d8a73c0c39c1bb4b92f5ab0505ba40a28fdc1a5b336", func := "loop.example/g01118/laws.FnExactValidCoupled", spec := "fnExactValidCoupled", apart := false }
def FnExactValidCoupledSaid : Prop := fnExactValidCoupledRow.holds Try.pinned (OpenSpec.ofChange fnExactValidCoupledSpec)

/-- ITS FALSE NEIGHBOUR: 'it returns false'. Refute it at one input. -/
def fnExactValidCoupledWrong : ChangeSpec := { name := "fnExactValidCoupled", fn := fun _ => fun
  | [d1, d2] => { results := [.lit (.bool false)], args := [d1, d2] }
  | _ => none }
def FnExactValidCoupledWrongFalsely : Prop := fnExactValidCoupledRow.holds Try.pinned (OpenSpec.ofChange fnExactValidCoupledWrong)

/-- 'laws.FnExactApartCoupled': WHATEVER THE INPUT: true; the input reads as it did. -/
def fnExactApartCoupledSpec : ChangeSpec := { name := "fnExactApartCoupled", fn := fun _ => fun
  | [d] => { results := [.lit (.bool true)], args := [d] }
  | _ => none }
def fnExactApartCoupledRow : OpenClaim := { program := "ythjoflgplbpeiaa", sum := "87247934082f03c8b8f21d8a73c0c39c1bb4b92f5ab0505ba40a28fdc1a5b336", func := "loop.example/g01118/laws.FnExactApartCoupled", spec := "fnExactApartCoupled", unfollowed := true, recurses := true, apart := false }
def FnExactApartCoupledSaid : Prop := fnExactApartCoupledRow.holds Try.pinned (OpenSpec.ofChange fnExactApartCoupledSpec)

/-- ITS FALSE NEIGHBOUR: 'it returns false'. Refute it at one input. -/
def fnExactApartCoupledWrong : ChangeSpec := { name := "fnExactApartCoupled", fn := fun _ => fun
  | [d] => { results := [.lit (.bool false)], args := [d] }
  | _ => none }
def FnExactApartCoupledWrongFalsely : Prop := fnExactApartCoupledRow.holds Try.pinned (OpenSpec.ofChange fnExactApartCoupledWrong)

/-- 'laws.FnExactPairStep': WHATEVER THE INPUT: true; the input reads as it did. -/
def fnExactPairStepSpec : ChangeSpec := { name := "fnExactPairStep", fn := fun _ => fun
  | [d1, d2, d3, d4, d5] => { results := [.lit (.bool true)], args := [d1, d2, d3, d4, d5] }
  | _ => none }
def fnExactPairStepRow : OpenClaim := { program := "ythjoflgplbpeiaa", sum := "87247934082f03c8b8f21d8a73c0c39c1bb4b92f5ab0505ba40a28fdc1a5b336", func := "loop.example/g01118/laws.FnExactPairStep", spec := "fnExactPairStep", apart := false }
def FnExactPairStepSaid : Prop := fnExactPairStepRow.holds Try.pinned (OpenSpec.ofChange fnExactPairStepSpec)

/-- ITS FALSE NEIGHBOUR: 'it returns false'. Refute it at one input. -/
def fnExactPairStepWrong : ChangeSpec := { name := "fnExactPairStep", fn := fun _ => fun
  | [d1, d2, d3, d4, d5] => { results := [.lit (.bool false)], args := [d1, d2, d3, d4, d5] }
  | _ => none }
def FnExactPairStepWrongFalsely : Prop := fnExactPairStepRow.holds Try.pinned (OpenSpec.ofChange fnExactPairStepWrong)

/-- 'laws.FnExactStairCoupled': WHATEVER THE INPUT: true; the input reads as it did. -/
def fnExactStairCoupledSpec : ChangeSpec := { name := "fnExactStairCoupled", fn := fun _ => fun
  | [d] => { results := [.lit (.bool true)], args := [d] }
  | _ => none }
def fnExactStairCoupledRow : OpenClaim := { program := "ythjoflgplbpeiaa", sum := "87247934082f03c8b8f21d8a73c0c39c1bb4b92f5ab0505ba40a28fdc1a5b336", func := "loop.example/g01118/laws.FnExactStairCoupled", spec := "fnExactStairCoupled", unfollowed := true, recurses := true, apart := false }
def FnExactStairCoupledSaid : Prop := fnExactStairCoupledRow.holds Try.pinned (OpenSpec.ofChange fnExactStairCoupledSpec)

/-- ITS FALSE NEIGHBOUR: 'it returns false'. Refute it at one input. -/
def fnExactStairCoupledWrong : ChangeSpec := { name := "fnExactStairCoupled", fn := fun _ => fun
  | [d] => { results := [.lit (.bool false)], args := [d] }
  | _ => none }
def FnExactStairCoupledWrongFalsely : Prop := fnExactStairCoupledRow.holds Try.pinned (OpenSpec.ofChange fnExactStairCoupledWrong)

/-- 'laws.FnExactBestCoupled': WHATEVER THE INPUT: true; the input reads as it did. -/
def fnExactBestCoupledSpec : ChangeSpec := { name := "fnExactBestCoupled", fn := fun _ => fun
  | [d] => { results := [.lit (.bool true)], args := [d] }
  | _ => none }
def fnExactBestCoupledRow : OpenClaim := { program := "ythjoflgplbpeiaa", sum := "87247934082f03c8b8f21d8a73c0c39c1bb4b92f5ab0505ba40a28fdc1a5b336", func := "loop.example/g01118/laws.FnExactBestCoupled", spec := "fnExactBestCoupled", unfollowed := true, recurses := true, apart := false }
def FnExactBestCoupledSaid : Prop := fnExactBestCoupledRow.holds Try.pinned (OpenSpec.ofChange fnExactBestCoupledSpec)

/-- ITS FALSE NEIGHBOUR: 'it returns false'. Refute it at one input. -/
def fnExactBestCoupledWrong : ChangeSpec := { name := "fnExactBestCoupled", fn := fun _ => fun
  | [d] => { results := [.lit (.bool false)], args := [d] }
  | _ => none }
def FnExactBestCoupledWrongFalsely : Prop := fnExactBestCoupledRow.holds Try.pinned (OpenSpec.ofChange fnExactBestCoupledWrong)

/-- 'laws.FnExactStickyCoupled': WHATEVER THE INPUT: true; the input reads as it did. -/
def fnExactStickyCoupledSpec : ChangeSpec := { name := "fnExactStickyCoupled", fn := fun _ => fun
  | [d1, d2] => { results := [.lit (.bool true)], args := [d1, d2] }
  | _ => none }
def fnExactStickyCoupledRow : OpenClaim := { program := "ythjoflgplbpeiaa", sum := "87247934082f03c8b8f21d8a73c0c39c1bb4b92f5ab0505ba40a28fdc1a5b336", func := "loop.example/g01118/laws.FnExactStickyCoupled", spec := "fnExactStickyCoupled", unfollowed := true, recurses := true, apart := false }
def FnExactStickyCoupledSaid : Prop := fnExactStickyCoupledRow.holds Try.pinned (OpenSpec.ofChange fnExactStickyCoupledSpec)

/-- ITS FALSE NEIGHBOUR: 'it returns false'. Refute it at one input. -/
def fnExactStickyCoupledWrong : ChangeSpec := { name := "fnExactStickyCoupled", fn := fun _ => fun
  | [d1, d2] => { results := [.lit (.bool false)], args := [d1, d2] }
  | _ => none }
def FnExactStickyCoupledWrongFalsely : Prop := fnExactStickyCoupledRow.holds Try.pinned (OpenSpec.ofChange fnExactStickyCoupledWrong)

/-- 'laws.FnExactSurelyMeets': WHATEVER THE INPUT: true; the input reads as it did. -/
def fnExactSurelyMeetsSpec : ChangeSpec := { name := "fnExactSurelyMeets", fn := fun _ => fun
  | [d1, d2, d3, d4] => { results := [.lit (.bool true)], args := [d1, d2, d3, d4] }
  | _ => none }
def fnExactSurelyMeetsRow : OpenClaim := { program := "ythjoflgplbpeiaa", sum := "87247934082f03c8b8f21d8a73c0c39c1bb4b92f5ab0505ba40a28fdc1a5b336", func := "loop.example/g01118/laws.FnExactSurelyMeets", spec := "fnExactSurelyMeets", unfollowed := true, recurses := true, apart := false }
def FnExactSurelyMeetsSaid : Prop := fnExactSurelyMeetsRow.holds Try.pinned (OpenSpec.ofChange fnExactSurelyMeetsSpec)

/-- ITS FALSE NEIGHBOUR: 'it returns false'. Refute it at one input. -/
def fnExactSurelyMeetsWrong : ChangeSpec := { name := "fnExactSurelyMeets", fn := fun _ => fun
  | [d1, d2, d3, d4] => { results := [.lit (.bool false)], args := [d1, d2, d3, d4] }
  | _ => none }
def FnExactSurelyMeetsWrongFalsely : Prop := fnExactSurelyMeetsRow.holds Try.pinned (OpenSpec.ofChange fnExactSurelyMeetsWrong)

/- THE SECOND FORM. 'bulk': how many values and letters a reading holds, each counted each time it is reached (what is shared counts as often as it is met; a slice's spare places count too). A statement '..UptoSaid' is the law's where the arguments, and the package variables that the reading takes, are together of bulk at most 1048576: NARROWER than '..Said'. Prove '..Said' where nothing that the law and all that it calls make is longer than what came in: it says more and counts as full. Else prove '..UptoSaid'. A law counts once. -/
mutual
def uptoBulk {H : Type} : DataW H → Nat
  | .lit (.string bytes) => bytes.length + 1
  | .lit _ => 1
  | .nil => 1
  | .ptr d => uptoBulk d + 1
  | .slice elems spare => uptoBulkAll elems + uptoBulkAll spare + 1
  | .agg parts => uptoBulkAll parts + 1
  | .iface _ d => uptoBulk d + 1
  | .map entries => uptoBulkEntries entries + 1
  | .held _ => 1
def uptoBulkAll {H : Type} : List (DataW H) → Nat
  | [] => 0
  | d :: r => uptoBulk d + uptoBulkAll r
def uptoBulkEntries {H : Type} : List (Lit × DataW H) → Nat
  | [] => 0
  | x :: r => uptoBulkEntry x + uptoBulkEntries r
def uptoBulkEntry {H : Type} : Lit × DataW H → Nat
  | (.string bytes, d) => bytes.length + uptoBulk d + 1
  | (_, d) => uptoBulk d + 1
 end
def uptoSmall : (H : Type) → List (DataW H) → Bool := fun _ ds => decide (uptoBulkAll ds ≤ 1048576)
def OpenSpec.upto (s : _root_.Go.ChangeSpec) : _root_.Go.OpenSpec := { _root_.Go.OpenSpec.ofChange s with cond := some uptoSmall }

/-- 'laws.FnExactMapsText', WHERE WHAT IT READS IS OF BULK AT MOST 1048576: true; the input reads as it did. -/
def fnExactMapsTextUptoRow : OpenClaim := { program := "ythjoflgplbpeiaa", sum := "87247934082f03c8b8f21d8a73c0c39c1bb4b92f5ab0505ba40a28fdc1a5b336", func := "loop.example/g01118/laws.FnExactMapsText", spec := "fnExactMapsText", recurses := true, apart := false, narrowed := true }
def FnExactMapsTextUptoSaid : Prop := fnExactMapsTextUptoRow.holds Try.pinned (OpenSpec.upto fnExactMapsTextSpec)

/-- 'laws.FnExactReadMaps', WHERE WHAT IT READS IS OF BULK AT MOST 1048576: true; the input reads as it did. -/
def fnExactReadMapsUptoRow : OpenClaim := { program := "ythjoflgplbpeiaa", sum := "87247934082f03c8b8f21d8a73c0c39c1bb4b92f5ab0505ba40a28fdc1a5b336", func := "loop.example/g01118/laws.FnExactReadMaps", spec := "fnExactReadMaps", recurses := true, apart := false, narrowed := true }
def FnExactReadMapsUptoSaid : Prop := fnExactReadMapsUptoRow.holds Try.pinned (OpenSpec.upto fnExactReadMapsSpec)

/-- 'laws.FnExactValidCoupled', WHERE WHAT IT READS IS OF BULK AT MOST 1048576: true; the input reads as it did. -/
def fnExactValidCoupledUptoRow : OpenClaim := { program := "ythjoflgplbpeiaa", sum := "87247934082f03c8b8f21d8a73c0c39c1bb4b92f5ab0505ba40a28fdc1a5b336", func := "loop.example/g01118/laws.FnExactValidCoupled", spec := "fnExactValidCoupled", apart := false, narrowed := true }
def FnExactValidCoupledUptoSaid : Prop := fnExactValidCoupledUptoRow.holds Try.pinned (OpenSpec.upto fnExactValidCoupledSpec)

/-- 'laws.FnExactApartCoupled', WHERE WHAT IT READS IS OF BULK AT MOST 1048576: true; the input reads as it did. -/
def fnExactApartCoupledUptoRow : OpenClaim := { program := "ythjoflgplbpeiaa", sum := "87247934082f03c8b8f21d8a73c0c39c1bb4b92f5ab0505ba40a28fdc1a5b336", func := "loop.example/g01118/laws.FnExactApartCoupled", spec := "fnExactApartCoupled", unfollowed := true, recurses := true, apart := false, narrowed := true }
def FnExactApartCoupledUptoSaid : Prop := fnExactApartCoupledUptoRow.holds Try.pinned (OpenSpec.upto fnExactApartCoupledSpec)

/-- 'laws.FnExactPairStep', WHERE WHAT IT READS IS OF BULK AT MOST 1048576: true; the input reads as it did. -/
def fnExactPairStepUptoRow : OpenClaim := { program := "ythjoflgplbpeiaa", sum := "87247934082f03c8b8f21d8a73c0c39c1bb4b92f5ab0505ba40a28fdc1a5b336", func := "loop.example/g01118/laws.FnExactPairStep", spec := "fnExactPairStep", apart := false, narrowed := true }
def FnExactPairStepUptoSaid : Prop := fnExactPairStepUptoRow.holds Try.pinned (OpenSpec.upto fnExactPairStepSpec)

/-- 'laws.FnExactStairCoupled', WHERE WHAT IT READS IS OF BULK AT MOST 1048576: true; the input reads as it did. -/
def fnExactStairCoupledUptoRow : OpenClaim := { program := "ythjoflgplbpeiaa", sum := "87247934082f03c8b8f21d8a73c0c39c1bb4b92f5ab0505ba40a28fdc1a5b336", func := "loop.example/g01118/laws.FnExactStairCoupled", spec := "fnExactStairCoupled", unfollowed := true, recurses := true, apart := false, narrowed := true }
def FnExactStairCoupledUptoSaid : Prop := fnExactStairCoupledUptoRow.holds Try.pinned (OpenSpec.upto fnExactStairCoupledSpec)

/-- 'laws.FnExactBestCoupled', WHERE WHAT IT READS IS OF BULK AT MOST 1048576: true; the input reads as it did. -/
def fnExactBestCoupledUptoRow : OpenClaim := { program := "ythjoflgplbpeiaa", sum := "87247934082f03c8b8f21d8a73c0c39c1bb4b92f5ab0505ba40a28fdc1a5b336", func := "loop.example/g01118/laws.FnExactBestCoupled", spec := "fnExactBestCoupled", unfollowed := true, recurses := true, apart := false, narrowed := true }
def FnExactBestCoupledUptoSaid : Prop := fnExactBestCoupledUptoRow.holds Try.pinned (OpenSpec.upto fnExactBestCoupledSpec)

/-- 'laws.FnExactStickyCoupled', WHERE WHAT IT READS IS OF BULK AT MOST 1048576: true; the input reads as it did. -/
def fnExactStickyCoupledUptoRow : OpenClaim := { program := "ythjoflgplbpeiaa", sum := "87247934082f03c8b8f21d8a73c0c39c1bb4b92f5ab0505ba40a28fdc1a5b336", func := "loop.example/g01118/laws.FnExactStickyCoupled", spec := "fnExactStickyCoupled", unfollowed := true, recurses := true, apart := false, narrowed := true }
def FnExactStickyCoupledUptoSaid : Prop := fnExactStickyCoupledUptoRow.holds Try.pinned (OpenSpec.upto fnExactStickyCoupledSpec)

/-- 'laws.FnExactSurelyMeets', WHERE WHAT IT READS IS OF BULK AT MOST 1048576: true; the input reads as it did. -/
def fnExactSurelyMeetsUptoRow : OpenClaim := { program := "ythjoflgplbpeiaa", sum := "87247934082f03c8b8f21d8a73c0c39c1bb4b92f5ab0505ba40a28fdc1a5b336", func := "loop.example/g01118/laws.FnExactSurelyMeets", spec := "fnExactSurelyMeets", unfollowed := true, recurses := true, apart := false, narrowed := true }
def FnExactSurelyMeetsUptoSaid : Prop := fnExactSurelyMeetsUptoRow.holds Try.pinned (OpenSpec.upto fnExactSurelyMeetsSpec)

end Rows
end Go.Proofs.Ythjoflgplbpeiaa
