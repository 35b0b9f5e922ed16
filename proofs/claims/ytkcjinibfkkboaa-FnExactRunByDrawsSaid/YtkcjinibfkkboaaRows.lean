/-
  No cell of these rows narrows 'for every input' (looked for: loops, veiled, ifaces, maps, wideKeys, modest, calm, conditions, laid).
  DERIVED. THE GIVEN ROWS OF THIS SEAT. 11 by the template 'for every input the law returns true; each argument reads behind the call as it read before'; 0 by the template 'total and deterministic' (their statements: YtkcjinibfkkboaaTotals.lean).
  GIVEN WITH THE SEED: the statements are not yours to turn. If you find one false, say at which input.
  Laid BY PROGRAM, IN A SANDBOX (cutbox-rows.mjs): the forced cells as the released guide's own fill.sh prints them over the translation c52ac9698bc3469c… (all of the seat's roots in one cut). By AI agents, Wed Nov 11 2026. No macro, syntax, notation, axiom, sorry.
-/
import Derived.Test.YtkcjinibfkkboaaChecked
import GoSem.Claim
import GoSem.ClaimJoined
import GoSem.ClaimMapViews
import Derived.JoinedTies
import Derived.KernelRfl
namespace Go.Proofs.Ytkcjinibfkkboaa
/- THE CELL 'sum', in the pinned program and in every row, IS THE sha256 OF THE DUMP (.gsa) THAT YtkcjinibfkkboaaProg.lean LOADS. Nothing in Lean hashes anything: it is a label: what it is worth is what the hold of that sum in a sandbox is worth. -/
noncomputable def Try.pinned : Pinned := { name := "ytkcjinibfkkboaa", sum := "c52ac9698bc3469cbdad3b7167f6abae1670a537a8cd1018588e95e4af8b38f6", checked := Try.checked }
namespace Rows
def none {H : Type} : Left H := { results := [], args := [] }

/-- 'laws.FnExactStepByDraw': WHATEVER THE INPUT: true; the input reads as it did. -/
def fnExactStepByDrawSpec : ChangeSpec := { name := "fnExactStepByDraw", fn := fun _ => fun
  | [d1, d2, d3] => { results := [.lit (.bool true)], args := [d1, d2, d3] }
  | _ => none }
def fnExactStepByDrawRow : OpenClaim := { program := "ytkcjinibfkkboaa", sum := "c52ac9698bc3469cbdad3b7167f6abae1670a537a8cd1018588e95e4af8b38f6", func := "loop.example/g01118/laws.FnExactStepByDraw", spec := "fnExactStepByDraw", apart := false }
def FnExactStepByDrawSaid : Prop := fnExactStepByDrawRow.holds Try.pinned (OpenSpec.ofChange fnExactStepByDrawSpec)

/-- ITS FALSE NEIGHBOUR: 'it returns false'. Refute it at one input. -/
def fnExactStepByDrawWrong : ChangeSpec := { name := "fnExactStepByDraw", fn := fun _ => fun
  | [d1, d2, d3] => { results := [.lit (.bool false)], args := [d1, d2, d3] }
  | _ => none }
def FnExactStepByDrawWrongFalsely : Prop := fnExactStepByDrawRow.holds Try.pinned (OpenSpec.ofChange fnExactStepByDrawWrong)

/-- 'laws.FnExactChainText': WHATEVER THE INPUT: true; the input reads as it did. -/
def fnExactChainTextSpec : ChangeSpec := { name := "fnExactChainText", fn := fun _ => fun
  | [d] => { results := [.lit (.bool true)], args := [d] }
  | _ => none }
def fnExactChainTextRow : OpenClaim := { program := "ytkcjinibfkkboaa", sum := "c52ac9698bc3469cbdad3b7167f6abae1670a537a8cd1018588e95e4af8b38f6", func := "loop.example/g01118/laws.FnExactChainText", spec := "fnExactChainText", recurses := true, apart := false }
def FnExactChainTextSaid : Prop := fnExactChainTextRow.holds Try.pinned (OpenSpec.ofChange fnExactChainTextSpec)

/-- ITS FALSE NEIGHBOUR: 'it returns false'. Refute it at one input. -/
def fnExactChainTextWrong : ChangeSpec := { name := "fnExactChainText", fn := fun _ => fun
  | [d] => { results := [.lit (.bool false)], args := [d] }
  | _ => none }
def FnExactChainTextWrongFalsely : Prop := fnExactChainTextRow.holds Try.pinned (OpenSpec.ofChange fnExactChainTextWrong)

/-- 'laws.FnExactRunByDraws': WHATEVER THE INPUT: true; the input reads as it did. -/
def fnExactRunByDrawsSpec : ChangeSpec := { name := "fnExactRunByDraws", fn := fun _ => fun
  | [d1, d2, d3] => { results := [.lit (.bool true)], args := [d1, d2, d3] }
  | _ => none }
def fnExactRunByDrawsRow : OpenClaim := { program := "ytkcjinibfkkboaa", sum := "c52ac9698bc3469cbdad3b7167f6abae1670a537a8cd1018588e95e4af8b38f6", func := "loop.example/g01118/laws.FnExactRunByDraws", spec := "fnExactRunByDraws", unfollowed := true, recurses := true, apart := false }
def FnExactRunByDrawsSaid : Prop := fnExactRunByDrawsRow.holds Try.pinned (OpenSpec.ofChange fnExactRunByDrawsSpec)

/-- ITS FALSE NEIGHBOUR: 'it returns false'. Refute it at one input. -/
def fnExactRunByDrawsWrong : ChangeSpec := { name := "fnExactRunByDraws", fn := fun _ => fun
  | [d1, d2, d3] => { results := [.lit (.bool false)], args := [d1, d2, d3] }
  | _ => none }
def FnExactRunByDrawsWrongFalsely : Prop := fnExactRunByDrawsRow.holds Try.pinned (OpenSpec.ofChange fnExactRunByDrawsWrong)

/-- 'laws.FnExactLazyChain': WHATEVER THE INPUT: true; the input reads as it did. -/
def fnExactLazyChainSpec : ChangeSpec := { name := "fnExactLazyChain", fn := fun _ => fun
  | [d] => { results := [.lit (.bool true)], args := [d] }
  | _ => none }
def fnExactLazyChainRow : OpenClaim := { program := "ytkcjinibfkkboaa", sum := "c52ac9698bc3469cbdad3b7167f6abae1670a537a8cd1018588e95e4af8b38f6", func := "loop.example/g01118/laws.FnExactLazyChain", spec := "fnExactLazyChain", unfollowed := true, recurses := true, apart := false }
def FnExactLazyChainSaid : Prop := fnExactLazyChainRow.holds Try.pinned (OpenSpec.ofChange fnExactLazyChainSpec)

/-- ITS FALSE NEIGHBOUR: 'it returns false'. Refute it at one input. -/
def fnExactLazyChainWrong : ChangeSpec := { name := "fnExactLazyChain", fn := fun _ => fun
  | [d] => { results := [.lit (.bool false)], args := [d] }
  | _ => none }
def FnExactLazyChainWrongFalsely : Prop := fnExactLazyChainRow.holds Try.pinned (OpenSpec.ofChange fnExactLazyChainWrong)

/-- 'laws.FnExactMixChains': WHATEVER THE INPUT: true; the input reads as it did. -/
def fnExactMixChainsSpec : ChangeSpec := { name := "fnExactMixChains", fn := fun _ => fun
  | [d1, d2] => { results := [.lit (.bool true)], args := [d1, d2] }
  | _ => none }
def fnExactMixChainsRow : OpenClaim := { program := "ytkcjinibfkkboaa", sum := "c52ac9698bc3469cbdad3b7167f6abae1670a537a8cd1018588e95e4af8b38f6", func := "loop.example/g01118/laws.FnExactMixChains", spec := "fnExactMixChains", unfollowed := true, recurses := true, apart := false }
def FnExactMixChainsSaid : Prop := fnExactMixChainsRow.holds Try.pinned (OpenSpec.ofChange fnExactMixChainsSpec)

/-- ITS FALSE NEIGHBOUR: 'it returns false'. Refute it at one input. -/
def fnExactMixChainsWrong : ChangeSpec := { name := "fnExactMixChains", fn := fun _ => fun
  | [d1, d2] => { results := [.lit (.bool false)], args := [d1, d2] }
  | _ => none }
def FnExactMixChainsWrongFalsely : Prop := fnExactMixChainsRow.holds Try.pinned (OpenSpec.ofChange fnExactMixChainsWrong)

/-- 'laws.FnExactThenChain': WHATEVER THE INPUT: true; the input reads as it did. -/
def fnExactThenChainSpec : ChangeSpec := { name := "fnExactThenChain", fn := fun _ => fun
  | [d1, d2] => { results := [.lit (.bool true)], args := [d1, d2] }
  | _ => none }
def fnExactThenChainRow : OpenClaim := { program := "ytkcjinibfkkboaa", sum := "c52ac9698bc3469cbdad3b7167f6abae1670a537a8cd1018588e95e4af8b38f6", func := "loop.example/g01118/laws.FnExactThenChain", spec := "fnExactThenChain", unfollowed := true, recurses := true, apart := false }
def FnExactThenChainSaid : Prop := fnExactThenChainRow.holds Try.pinned (OpenSpec.ofChange fnExactThenChainSpec)

/-- ITS FALSE NEIGHBOUR: 'it returns false'. Refute it at one input. -/
def fnExactThenChainWrong : ChangeSpec := { name := "fnExactThenChain", fn := fun _ => fun
  | [d1, d2] => { results := [.lit (.bool false)], args := [d1, d2] }
  | _ => none }
def FnExactThenChainWrongFalsely : Prop := fnExactThenChainRow.holds Try.pinned (OpenSpec.ofChange fnExactThenChainWrong)

/-- 'laws.FnExactSkipChain': WHATEVER THE INPUT: true; the input reads as it did. -/
def fnExactSkipChainSpec : ChangeSpec := { name := "fnExactSkipChain", fn := fun _ => fun
  | [d1, d2] => { results := [.lit (.bool true)], args := [d1, d2] }
  | _ => none }
def fnExactSkipChainRow : OpenClaim := { program := "ytkcjinibfkkboaa", sum := "c52ac9698bc3469cbdad3b7167f6abae1670a537a8cd1018588e95e4af8b38f6", func := "loop.example/g01118/laws.FnExactSkipChain", spec := "fnExactSkipChain", unfollowed := true, recurses := true, apart := false }
def FnExactSkipChainSaid : Prop := fnExactSkipChainRow.holds Try.pinned (OpenSpec.ofChange fnExactSkipChainSpec)

/-- ITS FALSE NEIGHBOUR: 'it returns false'. Refute it at one input. -/
def fnExactSkipChainWrong : ChangeSpec := { name := "fnExactSkipChain", fn := fun _ => fun
  | [d1, d2] => { results := [.lit (.bool false)], args := [d1, d2] }
  | _ => none }
def FnExactSkipChainWrongFalsely : Prop := fnExactSkipChainRow.holds Try.pinned (OpenSpec.ofChange fnExactSkipChainWrong)

/-- 'laws.FnExactBesideChain': WHATEVER THE INPUT: true; the input reads as it did. -/
def fnExactBesideChainSpec : ChangeSpec := { name := "fnExactBesideChain", fn := fun _ => fun
  | [d1, d2] => { results := [.lit (.bool true)], args := [d1, d2] }
  | _ => none }
def fnExactBesideChainRow : OpenClaim := { program := "ytkcjinibfkkboaa", sum := "c52ac9698bc3469cbdad3b7167f6abae1670a537a8cd1018588e95e4af8b38f6", func := "loop.example/g01118/laws.FnExactBesideChain", spec := "fnExactBesideChain", unfollowed := true, recurses := true, apart := false }
def FnExactBesideChainSaid : Prop := fnExactBesideChainRow.holds Try.pinned (OpenSpec.ofChange fnExactBesideChainSpec)

/-- ITS FALSE NEIGHBOUR: 'it returns false'. Refute it at one input. -/
def fnExactBesideChainWrong : ChangeSpec := { name := "fnExactBesideChain", fn := fun _ => fun
  | [d1, d2] => { results := [.lit (.bool false)], args := [d1, d2] }
  | _ => none }
def FnExactBesideChainWrongFalsely : Prop := fnExactBesideChainRow.holds Try.pinned (OpenSpec.ofChange fnExactBesideChainWrong)

/-- 'laws.FnExactRenameStates': WHATEVER THE INPUT: true; the input reads as it did. -/
def fnExactRenameStatesSpec : ChangeSpec := { name := "fnExactRenameStates", fn := fun _ => fun
  | [d1, d2] => { results := [.lit (.bool true)], args := [d1, d2] }
  | _ => none }
def fnExactRenameStatesRow : OpenClaim := { program := "ytkcjinibfkkboaa", sum := "c52ac9698bc3469cbdad3b7167f6abae1670a537a8cd1018588e95e4af8b38f6", func := "loop.example/g01118/laws.FnExactRenameStates", spec := "fnExactRenameStates", unfollowed := true, recurses := true, apart := false }
def FnExactRenameStatesSaid : Prop := fnExactRenameStatesRow.holds Try.pinned (OpenSpec.ofChange fnExactRenameStatesSpec)

/-- ITS FALSE NEIGHBOUR: 'it returns false'. Refute it at one input. -/
def fnExactRenameStatesWrong : ChangeSpec := { name := "fnExactRenameStates", fn := fun _ => fun
  | [d1, d2] => { results := [.lit (.bool false)], args := [d1, d2] }
  | _ => none }
def FnExactRenameStatesWrongFalsely : Prop := fnExactRenameStatesRow.holds Try.pinned (OpenSpec.ofChange fnExactRenameStatesWrong)

/-- 'laws.FnExactReadChain': WHATEVER THE INPUT: true; the input reads as it did. -/
def fnExactReadChainSpec : ChangeSpec := { name := "fnExactReadChain", fn := fun _ => fun
  | [d] => { results := [.lit (.bool true)], args := [d] }
  | _ => none }
def fnExactReadChainRow : OpenClaim := { program := "ytkcjinibfkkboaa", sum := "c52ac9698bc3469cbdad3b7167f6abae1670a537a8cd1018588e95e4af8b38f6", func := "loop.example/g01118/laws.FnExactReadChain", spec := "fnExactReadChain", recurses := true, apart := false }
def FnExactReadChainSaid : Prop := fnExactReadChainRow.holds Try.pinned (OpenSpec.ofChange fnExactReadChainSpec)

/-- ITS FALSE NEIGHBOUR: 'it returns false'. Refute it at one input. -/
def fnExactReadChainWrong : ChangeSpec := { name := "fnExactReadChain", fn := fun _ => fun
  | [d] => { results := [.lit (.bool false)], args := [d] }
  | _ => none }
def FnExactReadChainWrongFalsely : Prop := fnExactReadChainRow.holds Try.pinned (OpenSpec.ofChange fnExactReadChainWrong)

/-- 'laws.FnExactRoadLengths': WHATEVER THE INPUT: true; the input reads as it did. -/
def fnExactRoadLengthsSpec : ChangeSpec := { name := "fnExactRoadLengths", fn := fun _ => fun
  | [d1, d2] => { results := [.lit (.bool true)], args := [d1, d2] }
  | _ => none }
def fnExactRoadLengthsRow : OpenClaim := { program := "ytkcjinibfkkboaa", sum := "c52ac9698bc3469cbdad3b7167f6abae1670a537a8cd1018588e95e4af8b38f6", func := "loop.example/g01118/laws.FnExactRoadLengths", spec := "fnExactRoadLengths", apart := false }
def FnExactRoadLengthsSaid : Prop := fnExactRoadLengthsRow.holds Try.pinned (OpenSpec.ofChange fnExactRoadLengthsSpec)

/-- ITS FALSE NEIGHBOUR: 'it returns false'. Refute it at one input. -/
def fnExactRoadLengthsWrong : ChangeSpec := { name := "fnExactRoadLengths", fn := fun _ => fun
  | [d1, d2] => { results := [.lit (.bool false)], args := [d1, d2] }
  | _ => none }
def FnExactRoadLengthsWrongFalsely : Prop := fnExactRoadLengthsRow.holds Try.pinned (OpenSpec.ofChange fnExactRoadLengthsWrong)

/- THE SECOND FORM. 'bulk': how many values and letters a reading holds, each counted each time it is reached (what is shared counts as often as it is met; a slice's spare places count too). A statement '..UptoSaid' is the law's where the arguments, and the package variables that the reading takes, are together of bulk at most 1048576: NARROWER than '..Said'. Prove '..Said' where nothing that the law and all that it calls make is longer than what came in: it says more and counts as full. Else prove '..UptoSaid'. A law counts once. -/
mutual
def uptoBulk {H : Type} : DataW H → Nat
  | .lit (.string bytes) => bytes.length + 1
  | .lit _ => 1
  | .nil => 1
  | .ptr d => uptoBulk d + 1
  | .slice elems spare => uptoBulkAll elems + uptoBulkAll spare + 1
  | .agg parts => uptoBulkAll parts + 1
  | .iface _ d => uptoBulk d + 1
  | .map entries => uptoBulkEntries entries + 1
  | .held _ => 1
def uptoBulkAll {H : Type} : List (DataW H) → Nat
  | [] => 0
  | d :: r => uptoBulk d + uptoBulkAll r
def uptoBulkEntries {H : Type} : List (Lit × DataW H) → Nat
  | [] => 0
  | x :: r => uptoBulkEntry x + uptoBulkEntries r
def uptoBulkEntry {H : Type} : Lit × DataW H → Nat
  | (.string bytes, d) => bytes.length + uptoBulk d + 1
  | (_, d) => uptoBulk d + 1
 end
def uptoSmall : (H : Type) → List (DataW H) → Bool := fun _ ds => decide (uptoBulkAll ds ≤ 1048576)
def OpenSpec.upto (s : _root_.Go.ChangeSpec) : _root_.Go.OpenSpec := { _root_.Go.OpenSpec.ofChange s with cond := some uptoSmall }

/-- 'laws.FnExactStepByDraw', WHERE WHAT IT READS IS OF BULK AT MOST 1048576: true; the input reads as it did. -/
def fnExactStepByDrawUptoRow : OpenClaim := { program := "ytkcjinibfkkboaa", sum := "c52ac9698bc3469cbdad3b7167f6abae1670a537a8cd1018588e95e4af8b38f6", func := "loop.example/g01118/laws.FnExactStepByDraw", spec := "fnExactStepByDraw", apart := false, narrowed := true }
def FnExactStepByDrawUptoSaid : Prop := fnExactStepByDrawUptoRow.holds Try.pinned (OpenSpec.upto fnExactStepByDrawSpec)

/-- 'laws.FnExactChainText', WHERE WHAT IT READS IS OF BULK AT MOST 1048576: true; the input reads as it did. -/
def fnExactChainTextUptoRow : OpenClaim := { program := "ytkcjinibfkkboaa", sum := "c52ac9698bc3469cbdad3b7167f6abae1670a537a8cd1018588e95e4af8b38f6", func := "loop.example/g01118/laws.FnExactChainText", spec := "fnExactChainText", recurses := true, apart := false, narrowed := true }
def FnExactChainTextUptoSaid : Prop := fnExactChainTextUptoRow.holds Try.pinned (OpenSpec.upto fnExactChainTextSpec)

/-- 'laws.FnExactRunByDraws', WHERE WHAT IT READS IS OF BULK AT MOST 1048576: true; the input reads as it did. -/
def fnExactRunByDrawsUptoRow : OpenClaim := { program := "ytkcjinibfkkboaa", sum := "c52ac9698bc3469cbdad3b7167f6abae1670a537a8cd1018588e95e4af8b38f6", func := "loop.example/g01118/laws.FnExactRunByDraws", spec := "fnExactRunByDraws", unfollowed := true, recurses := true, apart := false, narrowed := true }
def FnExactRunByDrawsUptoSaid : Prop := fnExactRunByDrawsUptoRow.holds Try.pinned (OpenSpec.upto fnExactRunByDrawsSpec)

/-- 'laws.FnExactLazyChain', WHERE WHAT IT READS IS OF BULK AT MOST 1048576: true; the input reads as it did. -/
def fnExactLazyChainUptoRow : OpenClaim := { program := "ytkcjinibfkkboaa", sum := "c52ac9698bc3469cbdad3b7167f6abae1670a537a8cd1018588e95e4af8b38f6", func := "loop.example/g01118/laws.FnExactLazyChain", spec := "fnExactLazyChain", unfollowed := true, recurses := true, apart := false, narrowed := true }
def FnExactLazyChainUptoSaid : Prop := fnExactLazyChainUptoRow.holds Try.pinned (OpenSpec.upto fnExactLazyChainSpec)

/-- 'laws.FnExactMixChains', WHERE WHAT IT READS IS OF BULK AT MOST 1048576: true; the input reads as it did. -/
def fnExactMixChainsUptoRow : OpenClaim := { program := "ytkcjinibfkkboaa", sum := "c52ac9698bc3469cbdad3b7167f6abae1670a537a8cd1018588e95e4af8b38f6", func := "loop.example/g01118/laws.FnExactMixChains", spec := "fnExactMixChains", unfollowed := true, recurses := true, apart := false, narrowed := true }
def FnExactMixChainsUptoSaid : Prop := fnExactMixChainsUptoRow.holds Try.pinned (OpenSpec.upto fnExactMixChainsSpec)

/-- 'laws.FnExactThenChain', WHERE WHAT IT READS IS OF BULK AT MOST 1048576: true; the input reads as it did. -/
def fnExactThenChainUptoRow : OpenClaim := { program := "ytkcjinibfkkboaa", sum := "c52ac9698bc3469cbdad3b7167f6abae1670a537a8cd1018588e95e4af8b38f6", func := "loop.example/g01118/laws.FnExactThenChain", spec := "fnExactThenChain", unfollowed := true, recurses := true, apart := false, narrowed := true }
def FnExactThenChainUptoSaid : Prop := fnExactThenChainUptoRow.holds Try.pinned (OpenSpec.upto fnExactThenChainSpec)

/-- 'laws.FnExactSkipChain', WHERE WHAT IT READS IS OF BULK AT MOST 1048576: true; the input reads as it did. -/
def fnExactSkipChainUptoRow : OpenClaim := { program := "ytkcjinibfkkboaa", sum := "c52ac9698bc3469cbdad3b7167f6abae1670a537a8cd1018588e95e4af8b38f6", func := "loop.example/g01118/laws.FnExactSkipChain", spec := "fnExactSkipChain", unfollowed := true, recurses := true, apart := false, narrowed := true }
def FnExactSkipChainUptoSaid : Prop := fnExactSkipChainUptoRow.holds Try.pinned (OpenSpec.upto fnExactSkipChainSpec)

/-- 'laws.FnExactBesideChain', WHERE WHAT IT READS IS OF BULK AT MOST 1048576: true; the input reads as it did. -/
def fnExactBesideChainUptoRow : OpenClaim := { program := "ytkcjinibfkkboaa", sum := "c52ac9698bc3469cbdad3b7167f6abae1670a537a8cd1018588e95e4af8b38f6", func := "loop.example/g01118/laws.FnExactBesideChain", spec := "fnExactBesideChain", unfollowed := true, recurses := true, apart := false, narrowed := true }
def FnExactBesideChainUptoSaid : Prop := fnExactBesideChainUptoRow.holds Try.pinned (OpenSpec.upto fnExactBesideChainSpec)

/-- 'laws.FnExactRenameStates', WHERE WHAT IT READS IS OF BULK AT MOST 1048576: true; the input reads as it did. -/
def fnExactRenameStatesUptoRow : OpenClaim := { program := "ytkcjinibfkkboaa", sum := "c52ac9698bc3469cbdad3b7167f6abae1670a537a8cd1018588e95e4af8b38f6", func := "loop.example/g01118/laws.FnExactRenameStates", spec := "fnExactRenameStates", unfollowed := true, recurses := true, apart := false, narrowed := true }
def FnExactRenameStatesUptoSaid : Prop := fnExactRenameStatesUptoRow.holds Try.pinned (OpenSpec.upto fnExactRenameStatesSpec)

/-- 'laws.FnExactReadChain', WHERE WHAT IT READS IS OF BULK AT MOST 1048576: true; the input reads as it did. -/
def fnExactReadChainUptoRow : OpenClaim := { program := "ytkcjinibfkkboaa", sum := "c52ac9698bc3469cbdad3b7167f6abae1670a537a8cd1018588e95e4af8b38f6", func := "loop.example/g01118/laws.FnExactReadChain", spec := "fnExactReadChain", recurses := true, apart := false, narrowed := true }
def FnExactReadChainUptoSaid : Prop := fnExactReadChainUptoRow.holds Try.pinned (OpenSpec.upto fnExactReadChainSpec)

/-- 'laws.FnExactRoadLengths', WHERE WHAT IT READS IS OF BULK AT MOST 1048576: true; the input reads as it did. -/
def fnExactRoadLengthsUptoRow : OpenClaim := { program := "ytkcjinibfkkboaa", sum := "c52ac9698bc3469cbdad3b7167f6abae1670a537a8cd1018588e95e4af8b38f6", func := "loop.example/g01118/laws.FnExactRoadLengths", spec := "fnExactRoadLengths", apart := false, narrowed := true }
def FnExactRoadLengthsUptoSaid : Prop := fnExactRoadLengthsUptoRow.holds Try.pinned (OpenSpec.upto fnExactRoadLengthsSpec)

end Rows
end Go.Proofs.Ytkcjinibfkkboaa
