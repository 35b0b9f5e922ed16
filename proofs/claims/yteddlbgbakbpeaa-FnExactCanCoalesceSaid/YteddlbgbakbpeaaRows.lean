/-
  No cell of these rows narrows 'for every input' (looked for: loops, veiled, ifaces, maps, wideKeys, modest, calm, conditions, laid).
  DERIVED. THE GIVEN ROWS OF THIS SEAT. 12 by the template 'for every input the law returns true; each argument reads behind the call as it read before'; 0 by the template 'total and deterministic' (their statements: YteddlbgbakbpeaaTotals.lean).
  GIVEN WITH THE SEED: the statements are not yours to turn. If you find one false, say at which input.
  Laid BY PROGRAM, IN A SANDBOX (cutbox-rows.mjs): the forced cells as the released guide's own fill.sh prints them over the translation c9f4169007ede47f… (all of the seat's roots in one cut). By AI agents, Wed Nov 11 2026. No macro, syntax, notation, axiom, sorry.
-/
import Derived.Test.YteddlbgbakbpeaaChecked
import GoSem.Claim
import GoSem.ClaimJoined
import GoSem.ClaimMapViews
import Derived.JoinedTies
import Derived.KernelRfl
namespace Go.Proofs.Yteddlbgbakbpeaa
/- THE CELL 'sum', in the pinned program and in every row, IS THE sha256 OF THE DUMP (.gsa) THAT YteddlbgbakbpeaaProg.lean LOADS. Nothing in Lean hashes anything: it is a label: what it is worth is what the hold of that sum in a sandbox is worth. -/
noncomputable def Try.pinned : Pinned := { name := "yteddlbgbakbpeaa", sum := "c9f4169007ede47f306d2fe028e28ac17026289ef762d5d32b34e0045daf2961", checked := Try.checked }
namespace Rows
def none {H : Type} : Left H := { results := [], args := [] }

/-- 'laws.FnExactSandwichRun': WHATEVER THE INPUT: true; the input reads as it did. -/
def fnExactSandwichRunSpec : ChangeSpec := { name := "fnExactSandwichRun", fn := fun _ => fun
  | [d1, d2, d3] => { results := [.lit (.bool true)], args := [d1, d2, d3] }
  | _ => none }
def fnExactSandwichRunRow : OpenClaim := { program := "yteddlbgbakbpeaa", sum := "c9f4169007ede47f306d2fe028e28ac17026289ef762d5d32b34e0045daf2961", func := "loop.example/g01118/laws.FnExactSandwichRun", spec := "fnExactSandwichRun", unfollowed := true, recurses := true, apart := false }
def FnExactSandwichRunSaid : Prop := fnExactSandwichRunRow.holds Try.pinned (OpenSpec.ofChange fnExactSandwichRunSpec)

/-- ITS FALSE NEIGHBOUR: 'it returns false'. Refute it at one input. -/
def fnExactSandwichRunWrong : ChangeSpec := { name := "fnExactSandwichRun", fn := fun _ => fun
  | [d1, d2, d3] => { results := [.lit (.bool false)], args := [d1, d2, d3] }
  | _ => none }
def FnExactSandwichRunWrongFalsely : Prop := fnExactSandwichRunRow.holds Try.pinned (OpenSpec.ofChange fnExactSandwichRunWrong)

/-- 'laws.FnExactThenMaps': WHATEVER THE INPUT: true; the input reads as it did. -/
def fnExactThenMapsSpec : ChangeSpec := { name := "fnExactThenMaps", fn := fun _ => fun
  | [d1, d2] => { results := [.lit (.bool true)], args := [d1, d2] }
  | _ => none }
def fnExactThenMapsRow : OpenClaim := { program := "yteddlbgbakbpeaa", sum := "c9f4169007ede47f306d2fe028e28ac17026289ef762d5d32b34e0045daf2961", func := "loop.example/g01118/laws.FnExactThenMaps", spec := "fnExactThenMaps", apart := false }
def FnExactThenMapsSaid : Prop := fnExactThenMapsRow.holds Try.pinned (OpenSpec.ofChange fnExactThenMapsSpec)

/-- ITS FALSE NEIGHBOUR: 'it returns false'. Refute it at one input. -/
def fnExactThenMapsWrong : ChangeSpec := { name := "fnExactThenMaps", fn := fun _ => fun
  | [d1, d2] => { results := [.lit (.bool false)], args := [d1, d2] }
  | _ => none }
def FnExactThenMapsWrongFalsely : Prop := fnExactThenMapsRow.holds Try.pinned (OpenSpec.ofChange fnExactThenMapsWrong)

/-- 'laws.FnExactCanCoalesce': WHATEVER THE INPUT: true; the input reads as it did. -/
def fnExactCanCoalesceSpec : ChangeSpec := { name := "fnExactCanCoalesce", fn := fun _ => fun
  | [d] => { results := [.lit (.bool true)], args := [d] }
  | _ => none }
def fnExactCanCoalesceRow : OpenClaim := { program := "yteddlbgbakbpeaa", sum := "c9f4169007ede47f306d2fe028e28ac17026289ef762d5d32b34e0045daf2961", func := "loop.example/g01118/laws.FnExactCanCoalesce", spec := "fnExactCanCoalesce", unfollowed := true, recurses := true, apart := false }
def FnExactCanCoalesceSaid : Prop := fnExactCanCoalesceRow.holds Try.pinned (OpenSpec.ofChange fnExactCanCoalesceSpec)

/-- ITS FALSE NEIGHBOUR: 'it returns false'. Refute it at one input. -/
def fnExactCanCoalesceWrong : ChangeSpec := { name := "fnExactCanCoalesce", fn := fun _ => fun
  | [d] => { results := [.lit (.bool false)], args := [d] }
  | _ => none }
def FnExactCanCoalesceWrongFalsely : Prop := fnExactCanCoalesceRow.holds Try.pinned (OpenSpec.ofChange fnExactCanCoalesceWrong)

/-- 'laws.FnExactApplyPicks': WHATEVER THE INPUT: true; the input reads as it did. -/
def fnExactApplyPicksSpec : ChangeSpec := { name := "fnExactApplyPicks", fn := fun _ => fun
  | [d1, d2] => { results := [.lit (.bool true)], args := [d1, d2] }
  | _ => none }
def fnExactApplyPicksRow : OpenClaim := { program := "yteddlbgbakbpeaa", sum := "c9f4169007ede47f306d2fe028e28ac17026289ef762d5d32b34e0045daf2961", func := "loop.example/g01118/laws.FnExactApplyPicks", spec := "fnExactApplyPicks", unfollowed := true, recurses := true, apart := false }
def FnExactApplyPicksSaid : Prop := fnExactApplyPicksRow.holds Try.pinned (OpenSpec.ofChange fnExactApplyPicksSpec)

/-- ITS FALSE NEIGHBOUR: 'it returns false'. Refute it at one input. -/
def fnExactApplyPicksWrong : ChangeSpec := { name := "fnExactApplyPicks", fn := fun _ => fun
  | [d1, d2] => { results := [.lit (.bool false)], args := [d1, d2] }
  | _ => none }
def FnExactApplyPicksWrongFalsely : Prop := fnExactApplyPicksRow.holds Try.pinned (OpenSpec.ofChange fnExactApplyPicksWrong)

/-- 'laws.FnExactMapsByDraws': WHATEVER THE INPUT: true; the input reads as it did. -/
def fnExactMapsByDrawsSpec : ChangeSpec := { name := "fnExactMapsByDraws", fn := fun _ => fun
  | [d] => { results := [.lit (.bool true)], args := [d] }
  | _ => none }
def fnExactMapsByDrawsRow : OpenClaim := { program := "yteddlbgbakbpeaa", sum := "c9f4169007ede47f306d2fe028e28ac17026289ef762d5d32b34e0045daf2961", func := "loop.example/g01118/laws.FnExactMapsByDraws", spec := "fnExactMapsByDraws", apart := false }
def FnExactMapsByDrawsSaid : Prop := fnExactMapsByDrawsRow.holds Try.pinned (OpenSpec.ofChange fnExactMapsByDrawsSpec)

/-- ITS FALSE NEIGHBOUR: 'it returns false'. Refute it at one input. -/
def fnExactMapsByDrawsWrong : ChangeSpec := { name := "fnExactMapsByDraws", fn := fun _ => fun
  | [d] => { results := [.lit (.bool false)], args := [d] }
  | _ => none }
def FnExactMapsByDrawsWrongFalsely : Prop := fnExactMapsByDrawsRow.holds Try.pinned (OpenSpec.ofChange fnExactMapsByDrawsWrong)

/-- 'laws.FnExactTidyMaps': WHATEVER THE INPUT: true; the input reads as it did. -/
def fnExactTidyMapsSpec : ChangeSpec := { name := "fnExactTidyMaps", fn := fun _ => fun
  | [d] => { results := [.lit (.bool true)], args := [d] }
  | _ => none }
def fnExactTidyMapsRow : OpenClaim := { program := "yteddlbgbakbpeaa", sum := "c9f4169007ede47f306d2fe028e28ac17026289ef762d5d32b34e0045daf2961", func := "loop.example/g01118/laws.FnExactTidyMaps", spec := "fnExactTidyMaps", unfollowed := true, recurses := true, apart := false }
def FnExactTidyMapsSaid : Prop := fnExactTidyMapsRow.holds Try.pinned (OpenSpec.ofChange fnExactTidyMapsSpec)

/-- ITS FALSE NEIGHBOUR: 'it returns false'. Refute it at one input. -/
def fnExactTidyMapsWrong : ChangeSpec := { name := "fnExactTidyMaps", fn := fun _ => fun
  | [d] => { results := [.lit (.bool false)], args := [d] }
  | _ => none }
def FnExactTidyMapsWrongFalsely : Prop := fnExactTidyMapsRow.holds Try.pinned (OpenSpec.ofChange fnExactTidyMapsWrong)

/-- 'laws.FnExactChainOfMaps': WHATEVER THE INPUT: true; the input reads as it did. -/
def fnExactChainOfMapsSpec : ChangeSpec := { name := "fnExactChainOfMaps", fn := fun _ => fun
  | [d] => { results := [.lit (.bool true)], args := [d] }
  | _ => none }
def fnExactChainOfMapsRow : OpenClaim := { program := "yteddlbgbakbpeaa", sum := "c9f4169007ede47f306d2fe028e28ac17026289ef762d5d32b34e0045daf2961", func := "loop.example/g01118/laws.FnExactChainOfMaps", spec := "fnExactChainOfMaps", unfollowed := true, recurses := true, apart := false }
def FnExactChainOfMapsSaid : Prop := fnExactChainOfMapsRow.holds Try.pinned (OpenSpec.ofChange fnExactChainOfMapsSpec)

/-- ITS FALSE NEIGHBOUR: 'it returns false'. Refute it at one input. -/
def fnExactChainOfMapsWrong : ChangeSpec := { name := "fnExactChainOfMaps", fn := fun _ => fun
  | [d] => { results := [.lit (.bool false)], args := [d] }
  | _ => none }
def FnExactChainOfMapsWrongFalsely : Prop := fnExactChainOfMapsRow.holds Try.pinned (OpenSpec.ofChange fnExactChainOfMapsWrong)

/-- 'laws.FnExactForwardRun': WHATEVER THE INPUT: true; the input reads as it did. -/
def fnExactForwardRunSpec : ChangeSpec := { name := "fnExactForwardRun", fn := fun _ => fun
  | [d1, d2] => { results := [.lit (.bool true)], args := [d1, d2] }
  | _ => none }
def fnExactForwardRunRow : OpenClaim := { program := "yteddlbgbakbpeaa", sum := "c9f4169007ede47f306d2fe028e28ac17026289ef762d5d32b34e0045daf2961", func := "loop.example/g01118/laws.FnExactForwardRun", spec := "fnExactForwardRun", unfollowed := true, recurses := true, apart := false }
def FnExactForwardRunSaid : Prop := fnExactForwardRunRow.holds Try.pinned (OpenSpec.ofChange fnExactForwardRunSpec)

/-- ITS FALSE NEIGHBOUR: 'it returns false'. Refute it at one input. -/
def fnExactForwardRunWrong : ChangeSpec := { name := "fnExactForwardRun", fn := fun _ => fun
  | [d1, d2] => { results := [.lit (.bool false)], args := [d1, d2] }
  | _ => none }
def FnExactForwardRunWrongFalsely : Prop := fnExactForwardRunRow.holds Try.pinned (OpenSpec.ofChange fnExactForwardRunWrong)

/-- 'laws.FnExactWindowRun': WHATEVER THE INPUT: true; the input reads as it did. -/
def fnExactWindowRunSpec : ChangeSpec := { name := "fnExactWindowRun", fn := fun _ => fun
  | [d1, d2] => { results := [.lit (.bool true)], args := [d1, d2] }
  | _ => none }
def fnExactWindowRunRow : OpenClaim := { program := "yteddlbgbakbpeaa", sum := "c9f4169007ede47f306d2fe028e28ac17026289ef762d5d32b34e0045daf2961", func := "loop.example/g01118/laws.FnExactWindowRun", spec := "fnExactWindowRun", unfollowed := true, recurses := true, apart := false }
def FnExactWindowRunSaid : Prop := fnExactWindowRunRow.holds Try.pinned (OpenSpec.ofChange fnExactWindowRunSpec)

/-- ITS FALSE NEIGHBOUR: 'it returns false'. Refute it at one input. -/
def fnExactWindowRunWrong : ChangeSpec := { name := "fnExactWindowRun", fn := fun _ => fun
  | [d1, d2] => { results := [.lit (.bool false)], args := [d1, d2] }
  | _ => none }
def FnExactWindowRunWrongFalsely : Prop := fnExactWindowRunRow.holds Try.pinned (OpenSpec.ofChange fnExactWindowRunWrong)

/-- 'laws.FnExactPastRun': WHATEVER THE INPUT: true; the input reads as it did. -/
def fnExactPastRunSpec : ChangeSpec := { name := "fnExactPastRun", fn := fun _ => fun
  | [d1, d2] => { results := [.lit (.bool true)], args := [d1, d2] }
  | _ => none }
def fnExactPastRunRow : OpenClaim := { program := "yteddlbgbakbpeaa", sum := "c9f4169007ede47f306d2fe028e28ac17026289ef762d5d32b34e0045daf2961", func := "loop.example/g01118/laws.FnExactPastRun", spec := "fnExactPastRun", unfollowed := true, recurses := true, apart := false }
def FnExactPastRunSaid : Prop := fnExactPastRunRow.holds Try.pinned (OpenSpec.ofChange fnExactPastRunSpec)

/-- ITS FALSE NEIGHBOUR: 'it returns false'. Refute it at one input. -/
def fnExactPastRunWrong : ChangeSpec := { name := "fnExactPastRun", fn := fun _ => fun
  | [d1, d2] => { results := [.lit (.bool false)], args := [d1, d2] }
  | _ => none }
def FnExactPastRunWrongFalsely : Prop := fnExactPastRunRow.holds Try.pinned (OpenSpec.ofChange fnExactPastRunWrong)

/-- 'laws.FnExactIsMonotone': WHATEVER THE INPUT: true; the input reads as it did. -/
def fnExactIsMonotoneSpec : ChangeSpec := { name := "fnExactIsMonotone", fn := fun _ => fun
  | [d1, d2] => { results := [.lit (.bool true)], args := [d1, d2] }
  | _ => none }
def fnExactIsMonotoneRow : OpenClaim := { program := "yteddlbgbakbpeaa", sum := "c9f4169007ede47f306d2fe028e28ac17026289ef762d5d32b34e0045daf2961", func := "loop.example/g01118/laws.FnExactIsMonotone", spec := "fnExactIsMonotone", apart := false }
def FnExactIsMonotoneSaid : Prop := fnExactIsMonotoneRow.holds Try.pinned (OpenSpec.ofChange fnExactIsMonotoneSpec)

/-- ITS FALSE NEIGHBOUR: 'it returns false'. Refute it at one input. -/
def fnExactIsMonotoneWrong : ChangeSpec := { name := "fnExactIsMonotone", fn := fun _ => fun
  | [d1, d2] => { results := [.lit (.bool false)], args := [d1, d2] }
  | _ => none }
def FnExactIsMonotoneWrongFalsely : Prop := fnExactIsMonotoneRow.holds Try.pinned (OpenSpec.ofChange fnExactIsMonotoneWrong)

/-- 'laws.FnExactAreMapsOf': WHATEVER THE INPUT: true; the input reads as it did. -/
def fnExactAreMapsOfSpec : ChangeSpec := { name := "fnExactAreMapsOf", fn := fun _ => fun
  | [d1, d2] => { results := [.lit (.bool true)], args := [d1, d2] }
  | _ => none }
def fnExactAreMapsOfRow : OpenClaim := { program := "yteddlbgbakbpeaa", sum := "c9f4169007ede47f306d2fe028e28ac17026289ef762d5d32b34e0045daf2961", func := "loop.example/g01118/laws.FnExactAreMapsOf", spec := "fnExactAreMapsOf", unfollowed := true, recurses := true, apart := false }
def FnExactAreMapsOfSaid : Prop := fnExactAreMapsOfRow.holds Try.pinned (OpenSpec.ofChange fnExactAreMapsOfSpec)

/-- ITS FALSE NEIGHBOUR: 'it returns false'. Refute it at one input. -/
def fnExactAreMapsOfWrong : ChangeSpec := { name := "fnExactAreMapsOf", fn := fun _ => fun
  | [d1, d2] => { results := [.lit (.bool false)], args := [d1, d2] }
  | _ => none }
def FnExactAreMapsOfWrongFalsely : Prop := fnExactAreMapsOfRow.holds Try.pinned (OpenSpec.ofChange fnExactAreMapsOfWrong)

/- THE SECOND FORM. 'bulk': how many values and letters a reading holds, each counted each time it is reached (what is shared counts as often as it is met; a slice's spare places count too). A statement '..UptoSaid' is the law's where the arguments, and the package variables that the reading takes, are together of bulk at most 1048576: NARROWER than '..Said'. Prove '..Said' where nothing that the law and all that it calls make is longer than what came in: it says more and counts as full. Else prove '..UptoSaid'. A law counts once. -/
mutual
def uptoBulk {H : Type} : DataW H → Nat
  | .lit (.string bytes) => bytes.length + 1
  | .lit _ => 1
  | .nil => 1
  | .ptr d => uptoBulk d + 1
  | .slice elems spare => uptoBulkAll elems + uptoBulkAll spare + 1
  | .agg parts => uptoBulkAll parts + 1
  | .iface _ d => uptoBulk d + 1
  | .map entries => uptoBulkEntries entries + 1
  | .held _ => 1
def uptoBulkAll {H : Type} : List (DataW H) → Nat
  | [] => 0
  | d :: r => uptoBulk d + uptoBulkAll r
def uptoBulkEntries {H : Type} : List (Lit × DataW H) → Nat
  | [] => 0
  | x :: r => uptoBulkEntry x + uptoBulkEntries r
def uptoBulkEntry {H : Type} : Lit × DataW H → Nat
  | (.string bytes, d) => bytes.length + uptoBulk d + 1
  | (_, d) => uptoBulk d + 1
 end
def uptoSmall : (H : Type) → List (DataW H) → Bool := fun _ ds => decide (uptoBulkAll ds ≤ 1048576)
def OpenSpec.upto (s : _root_.Go.ChangeSpec) : _root_.Go.OpenSpec := { _root_.Go.OpenSpec.ofChange s with cond := some uptoSmall }

/-- 'laws.FnExactSandwichRun', WHERE WHAT IT READS IS OF BULK AT MOST 1048576: true; the input reads as it did. -/
def fnExactSandwichRunUptoRow : OpenClaim := { program := "yteddlbgbakbpeaa", sum := "c9f4169007ede47f306d2fe028e28ac17026289ef762d5d32b34e0045daf2961", func := "loop.example/g01118/laws.FnExactSandwichRun", spec := "fnExactSandwichRun", unfollowed := true, recurses := true, apart := false, narrowed := true }
def FnExactSandwichRunUptoSaid : Prop := fnExactSandwichRunUptoRow.holds Try.pinned (OpenSpec.upto fnExactSandwichRunSpec)

/-- 'laws.FnExactThenMaps', WHERE WHAT IT READS IS OF BULK AT MOST 1048576: true; the input reads as it did. -/
def fnExactThenMapsUptoRow : OpenClaim := { program := "yteddlbgbakbpeaa", sum := "c9f4169007ede47f306d2fe028e28ac17026289ef762d5d32b34e0045daf2961", func := "loop.example/g01118/laws.FnExactThenMaps", spec := "fnExactThenMaps", apart := false, narrowed := true }
def FnExactThenMapsUptoSaid : Prop := fnExactThenMapsUptoRow.holds Try.pinned (OpenSpec.upto fnExactThenMapsSpec)

/-- 'laws.FnExactCanCoalesce', WHERE WHAT IT READS IS OF BULK AT MOST 1048576: true; the input reads as it did. -/
def fnExactCanCoalesceUptoRow : OpenClaim := { program := "yteddlbgbakbpeaa", sum := "c9f4169007ede47f306d2fe028e28ac17026289ef762d5d32b34e0045daf2961", func := "loop.example/g01118/laws.FnExactCanCoalesce", spec := "fnExactCanCoalesce", unfollowed := true, recurses := true, apart := false, narrowed := true }
def FnExactCanCoalesceUptoSaid : Prop := fnExactCanCoalesceUptoRow.holds Try.pinned (OpenSpec.upto fnExactCanCoalesceSpec)

/-- 'laws.FnExactApplyPicks', WHERE WHAT IT READS IS OF BULK AT MOST 1048576: true; the input reads as it did. -/
def fnExactApplyPicksUptoRow : OpenClaim := { program := "yteddlbgbakbpeaa", sum := "c9f4169007ede47f306d2fe028e28ac17026289ef762d5d32b34e0045daf2961", func := "loop.example/g01118/laws.FnExactApplyPicks", spec := "fnExactApplyPicks", unfollowed := true, recurses := true, apart := false, narrowed := true }
def FnExactApplyPicksUptoSaid : Prop := fnExactApplyPicksUptoRow.holds Try.pinned (OpenSpec.upto fnExactApplyPicksSpec)

/-- 'laws.FnExactMapsByDraws', WHERE WHAT IT READS IS OF BULK AT MOST 1048576: true; the input reads as it did. -/
def fnExactMapsByDrawsUptoRow : OpenClaim := { program := "yteddlbgbakbpeaa", sum := "c9f4169007ede47f306d2fe028e28ac17026289ef762d5d32b34e0045daf2961", func := "loop.example/g01118/laws.FnExactMapsByDraws", spec := "fnExactMapsByDraws", apart := false, narrowed := true }
def FnExactMapsByDrawsUptoSaid : Prop := fnExactMapsByDrawsUptoRow.holds Try.pinned (OpenSpec.upto fnExactMapsByDrawsSpec)

/-- 'laws.FnExactTidyMaps', WHERE WHAT IT READS IS OF BULK AT MOST 1048576: true; the input reads as it did. -/
def fnExactTidyMapsUptoRow : OpenClaim := { program := "yteddlbgbakbpeaa", sum := "c9f4169007ede47f306d2fe028e28ac17026289ef762d5d32b34e0045daf2961", func := "loop.example/g01118/laws.FnExactTidyMaps", spec := "fnExactTidyMaps", unfollowed := true, recurses := true, apart := false, narrowed := true }
def FnExactTidyMapsUptoSaid : Prop := fnExactTidyMapsUptoRow.holds Try.pinned (OpenSpec.upto fnExactTidyMapsSpec)

/-- 'laws.FnExactChainOfMaps', WHERE WHAT IT READS IS OF BULK AT MOST 1048576: true; the input reads as it did. -/
def fnExactChainOfMapsUptoRow : OpenClaim := { program := "yteddlbgbakbpeaa", sum := "c9f4169007ede47f306d2fe028e28ac17026289ef762d5d32b34e0045daf2961", func := "loop.example/g01118/laws.FnExactChainOfMaps", spec := "fnExactChainOfMaps", unfollowed := true, recurses := true, apart := false, narrowed := true }
def FnExactChainOfMapsUptoSaid : Prop := fnExactChainOfMapsUptoRow.holds Try.pinned (OpenSpec.upto fnExactChainOfMapsSpec)

/-- 'laws.FnExactForwardRun', WHERE WHAT IT READS IS OF BULK AT MOST 1048576: true; the input reads as it did. -/
def fnExactForwardRunUptoRow : OpenClaim := { program := "yteddlbgbakbpeaa", sum := "c9f4169007ede47f306d2fe028e28ac17026289ef762d5d32b34e0045daf2961", func := "loop.example/g01118/laws.FnExactForwardRun", spec := "fnExactForwardRun", unfollowed := true, recurses := true, apart := false, narrowed := true }
def FnExactForwardRunUptoSaid : Prop := fnExactForwardRunUptoRow.holds Try.pinned (OpenSpec.upto fnExactForwardRunSpec)

/-- 'laws.FnExactWindowRun', WHERE WHAT IT READS IS OF BULK AT MOST 1048576: true; the input reads as it did. -/
def fnExactWindowRunUptoRow : OpenClaim := { program := "yteddlbgbakbpeaa", sum := "c9f4169007ede47f306d2fe028e28ac17026289ef762d5d32b34e0045daf2961", func := "loop.example/g01118/laws.FnExactWindowRun", spec := "fnExactWindowRun", unfollowed := true, recurses := true, apart := false, narrowed := true }
def FnExactWindowRunUptoSaid : Prop := fnExactWindowRunUptoRow.holds Try.pinned (OpenSpec.upto fnExactWindowRunSpec)

/-- 'laws.FnExactPastRun', WHERE WHAT IT READS IS OF BULK AT MOST 1048576: true; the input reads as it did. -/
def fnExactPastRunUptoRow : OpenClaim := { program := "yteddlbgbakbpeaa", sum := "c9f4169007ede47f306d2fe028e28ac17026289ef762d5d32b34e0045daf2961", func := "loop.example/g01118/laws.FnExactPastRun", spec := "fnExactPastRun", unfollowed := true, recurses := true, apart := false, narrowed := true }
def FnExactPastRunUptoSaid : Prop := fnExactPastRunUptoRow.holds Try.pinned (OpenSpec.upto fnExactPastRunSpec)

/-- 'laws.FnExactIsMonotone', WHERE WHAT IT READS IS OF BULK AT MOST 1048576: true; the input reads as it did. -/
def fnExactIsMonotoneUptoRow : OpenClaim := { program := "yteddlbgbakbpeaa", sum := "c9f4169007ede47f306d2fe028e28ac17026289ef762d5d32b34e0045daf2961", func := "loop.example/g01118/laws.FnExactIsMonotone", spec := "fnExactIsMonotone", apart := false, narrowed := true }
def FnExactIsMonotoneUptoSaid : Prop := fnExactIsMonotoneUptoRow.holds Try.pinned (OpenSpec.upto fnExactIsMonotoneSpec)

/-- 'laws.FnExactAreMapsOf', WHERE WHAT IT READS IS OF BULK AT MOST 1048576: true; the input reads as it did. -/
def fnExactAreMapsOfUptoRow : OpenClaim := { program := "yteddlbgbakbpeaa", sum := "c9f4169007ede47f306d2fe028e28ac17026289ef762d5d32b34e0045daf2961", func := "loop.example/g01118/laws.FnExactAreMapsOf", spec := "fnExactAreMapsOf", unfollowed := true, recurses := true, apart := false, narrowed := true }
def FnExactAreMapsOfUptoSaid : Prop := fnExactAreMapsOfUptoRow.holds Try.pinned (OpenSpec.upto fnExactAreMapsOfSpec)

end Rows
end Go.Proofs.Yteddlbgbakbpeaa
