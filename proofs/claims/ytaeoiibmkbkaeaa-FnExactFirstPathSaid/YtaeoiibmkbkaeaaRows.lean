/-
  No cell of these rows narrows 'for every input' (looked for: loops, veiled, ifaces, maps, wideKeys, modest, calm, conditions, laid).
  DERIVED. THE GIVEN ROWS OF THIS SEAT. 8 by the template 'for every input the law returns true; each argument reads behind the call as it read before'; 0 by the template 'total and deterministic' (their statements: YtaeoiibmkbkaeaaTotals.lean).
  GIVEN WITH THE SEED: the statements are not yours to turn. If you find one false, say at which input.
  Laid BY PROGRAM, IN A SANDBOX (cutbox-rows.mjs): the forced cells as the released guide's own fill.sh prints them over the translation 25cf26a1e5d02f16… (all of the seat's roots in one cut). By AI agents, Wed Nov 11 2026. No macro, syntax, notation, axiom, sorry.
-/
import Derived.Test.YtaeoiibmkbkaeaaChecked
import GoSem.Claim
import GoSem.ClaimJoined
import GoSem.ClaimMapViews
import Derived.JoinedTies
import Derived.KernelRfl
namespace Go.Proofs.Ytaeoiibmkbkaeaa
/- THE CELL 'sum', in the pinned program and in every row, IS THE sha256 OF THE DUMP (.gsa) THAT YtaeoiibmkbkaeaaProg.lean LOADS. Nothing in Lean hashes anything: it is a label: what it is worth is what the hold of that sum in a sandbox is worth. -/
noncomputable def Try.pinned : Pinned := { name := "ytaeoiibmkbkaeaa", sum := "25cf26a1e5d02f16dd18106818befaff03f12e3f3bec1970ed5137c4d64ce415", checked := Try.checked }
namespace Rows
def none {H : Type} : Left H := { results := [], args := [] }

/-- 'laws.FnExactFirstMisfit': WHATEVER THE INPUT: true; the input reads as it did. -/
def fnExactFirstMisfitSpec : ChangeSpec := { name := "fnExactFirstMisfit", fn := fun _ => fun
  | [d] => { results := [.lit (.bool true)], args := [d] }
  | _ => none }
def fnExactFirstMisfitRow : OpenClaim := { program := "ytaeoiibmkbkaeaa", sum := "25cf26a1e5d02f16dd18106818befaff03f12e3f3bec1970ed5137c4d64ce415", func := "loop.example/g01118/laws.FnExactFirstMisfit", spec := "fnExactFirstMisfit", unfollowed := true, recurses := true, apart := false }
def FnExactFirstMisfitSaid : Prop := fnExactFirstMisfitRow.holds Try.pinned (OpenSpec.ofChange fnExactFirstMisfitSpec)

/-- ITS FALSE NEIGHBOUR: 'it returns false'. Refute it at one input. -/
def fnExactFirstMisfitWrong : ChangeSpec := { name := "fnExactFirstMisfit", fn := fun _ => fun
  | [d] => { results := [.lit (.bool false)], args := [d] }
  | _ => none }
def FnExactFirstMisfitWrongFalsely : Prop := fnExactFirstMisfitRow.holds Try.pinned (OpenSpec.ofChange fnExactFirstMisfitWrong)

/-- 'laws.FnExactIsConnected': WHATEVER THE INPUT: true; the input reads as it did. -/
def fnExactIsConnectedSpec : ChangeSpec := { name := "fnExactIsConnected", fn := fun _ => fun
  | [d] => { results := [.lit (.bool true)], args := [d] }
  | _ => none }
def fnExactIsConnectedRow : OpenClaim := { program := "ytaeoiibmkbkaeaa", sum := "25cf26a1e5d02f16dd18106818befaff03f12e3f3bec1970ed5137c4d64ce415", func := "loop.example/g01118/laws.FnExactIsConnected", spec := "fnExactIsConnected", unfollowed := true, recurses := true, apart := false }
def FnExactIsConnectedSaid : Prop := fnExactIsConnectedRow.holds Try.pinned (OpenSpec.ofChange fnExactIsConnectedSpec)

/-- ITS FALSE NEIGHBOUR: 'it returns false'. Refute it at one input. -/
def fnExactIsConnectedWrong : ChangeSpec := { name := "fnExactIsConnected", fn := fun _ => fun
  | [d] => { results := [.lit (.bool false)], args := [d] }
  | _ => none }
def FnExactIsConnectedWrongFalsely : Prop := fnExactIsConnectedRow.holds Try.pinned (OpenSpec.ofChange fnExactIsConnectedWrong)

/-- 'laws.FnExactCanReach': WHATEVER THE INPUT: true; the input reads as it did. -/
def fnExactCanReachSpec : ChangeSpec := { name := "fnExactCanReach", fn := fun _ => fun
  | [d1, d2] => { results := [.lit (.bool true)], args := [d1, d2] }
  | _ => none }
def fnExactCanReachRow : OpenClaim := { program := "ytaeoiibmkbkaeaa", sum := "25cf26a1e5d02f16dd18106818befaff03f12e3f3bec1970ed5137c4d64ce415", func := "loop.example/g01118/laws.FnExactCanReach", spec := "fnExactCanReach", apart := false }
def FnExactCanReachSaid : Prop := fnExactCanReachRow.holds Try.pinned (OpenSpec.ofChange fnExactCanReachSpec)

/-- ITS FALSE NEIGHBOUR: 'it returns false'. Refute it at one input. -/
def fnExactCanReachWrong : ChangeSpec := { name := "fnExactCanReach", fn := fun _ => fun
  | [d1, d2] => { results := [.lit (.bool false)], args := [d1, d2] }
  | _ => none }
def FnExactCanReachWrongFalsely : Prop := fnExactCanReachRow.holds Try.pinned (OpenSpec.ofChange fnExactCanReachWrong)

/-- 'laws.FnExactClassesOf': WHATEVER THE INPUT: true; the input reads as it did. -/
def fnExactClassesOfSpec : ChangeSpec := { name := "fnExactClassesOf", fn := fun _ => fun
  | [d] => { results := [.lit (.bool true)], args := [d] }
  | _ => none }
def fnExactClassesOfRow : OpenClaim := { program := "ytaeoiibmkbkaeaa", sum := "25cf26a1e5d02f16dd18106818befaff03f12e3f3bec1970ed5137c4d64ce415", func := "loop.example/g01118/laws.FnExactClassesOf", spec := "fnExactClassesOf", apart := false }
def FnExactClassesOfSaid : Prop := fnExactClassesOfRow.holds Try.pinned (OpenSpec.ofChange fnExactClassesOfSpec)

/-- ITS FALSE NEIGHBOUR: 'it returns false'. Refute it at one input. -/
def fnExactClassesOfWrong : ChangeSpec := { name := "fnExactClassesOf", fn := fun _ => fun
  | [d] => { results := [.lit (.bool false)], args := [d] }
  | _ => none }
def FnExactClassesOfWrongFalsely : Prop := fnExactClassesOfRow.holds Try.pinned (OpenSpec.ofChange fnExactClassesOfWrong)

/-- 'laws.FnExactClosedClasses': WHATEVER THE INPUT: true; the input reads as it did. -/
def fnExactClosedClassesSpec : ChangeSpec := { name := "fnExactClosedClasses", fn := fun _ => fun
  | [d] => { results := [.lit (.bool true)], args := [d] }
  | _ => none }
def fnExactClosedClassesRow : OpenClaim := { program := "ytaeoiibmkbkaeaa", sum := "25cf26a1e5d02f16dd18106818befaff03f12e3f3bec1970ed5137c4d64ce415", func := "loop.example/g01118/laws.FnExactClosedClasses", spec := "fnExactClosedClasses", unfollowed := true, recurses := true, apart := false }
def FnExactClosedClassesSaid : Prop := fnExactClosedClassesRow.holds Try.pinned (OpenSpec.ofChange fnExactClosedClassesSpec)

/-- ITS FALSE NEIGHBOUR: 'it returns false'. Refute it at one input. -/
def fnExactClosedClassesWrong : ChangeSpec := { name := "fnExactClosedClasses", fn := fun _ => fun
  | [d] => { results := [.lit (.bool false)], args := [d] }
  | _ => none }
def FnExactClosedClassesWrongFalsely : Prop := fnExactClosedClassesRow.holds Try.pinned (OpenSpec.ofChange fnExactClosedClassesWrong)

/-- 'laws.FnExactPeriodOf': WHATEVER THE INPUT: true; the input reads as it did. -/
def fnExactPeriodOfSpec : ChangeSpec := { name := "fnExactPeriodOf", fn := fun _ => fun
  | [d] => { results := [.lit (.bool true)], args := [d] }
  | _ => none }
def fnExactPeriodOfRow : OpenClaim := { program := "ytaeoiibmkbkaeaa", sum := "25cf26a1e5d02f16dd18106818befaff03f12e3f3bec1970ed5137c4d64ce415", func := "loop.example/g01118/laws.FnExactPeriodOf", spec := "fnExactPeriodOf", unfollowed := true, recurses := true, apart := false }
def FnExactPeriodOfSaid : Prop := fnExactPeriodOfRow.holds Try.pinned (OpenSpec.ofChange fnExactPeriodOfSpec)

/-- ITS FALSE NEIGHBOUR: 'it returns false'. Refute it at one input. -/
def fnExactPeriodOfWrong : ChangeSpec := { name := "fnExactPeriodOf", fn := fun _ => fun
  | [d] => { results := [.lit (.bool false)], args := [d] }
  | _ => none }
def FnExactPeriodOfWrongFalsely : Prop := fnExactPeriodOfRow.holds Try.pinned (OpenSpec.ofChange fnExactPeriodOfWrong)

/-- 'laws.FnExactIsPath': WHATEVER THE INPUT: true; the input reads as it did. -/
def fnExactIsPathSpec : ChangeSpec := { name := "fnExactIsPath", fn := fun _ => fun
  | [d1, d2] => { results := [.lit (.bool true)], args := [d1, d2] }
  | _ => none }
def fnExactIsPathRow : OpenClaim := { program := "ytaeoiibmkbkaeaa", sum := "25cf26a1e5d02f16dd18106818befaff03f12e3f3bec1970ed5137c4d64ce415", func := "loop.example/g01118/laws.FnExactIsPath", spec := "fnExactIsPath", unfollowed := true, recurses := true, apart := false }
def FnExactIsPathSaid : Prop := fnExactIsPathRow.holds Try.pinned (OpenSpec.ofChange fnExactIsPathSpec)

/-- ITS FALSE NEIGHBOUR: 'it returns false'. Refute it at one input. -/
def fnExactIsPathWrong : ChangeSpec := { name := "fnExactIsPath", fn := fun _ => fun
  | [d1, d2] => { results := [.lit (.bool false)], args := [d1, d2] }
  | _ => none }
def FnExactIsPathWrongFalsely : Prop := fnExactIsPathRow.holds Try.pinned (OpenSpec.ofChange fnExactIsPathWrong)

/-- 'laws.FnExactFirstPath': WHATEVER THE INPUT: true; the input reads as it did. -/
def fnExactFirstPathSpec : ChangeSpec := { name := "fnExactFirstPath", fn := fun _ => fun
  | [d1, d2, d3] => { results := [.lit (.bool true)], args := [d1, d2, d3] }
  | _ => none }
def fnExactFirstPathRow : OpenClaim := { program := "ytaeoiibmkbkaeaa", sum := "25cf26a1e5d02f16dd18106818befaff03f12e3f3bec1970ed5137c4d64ce415", func := "loop.example/g01118/laws.FnExactFirstPath", spec := "fnExactFirstPath", unfollowed := true, recurses := true, apart := false }
def FnExactFirstPathSaid : Prop := fnExactFirstPathRow.holds Try.pinned (OpenSpec.ofChange fnExactFirstPathSpec)

/-- ITS FALSE NEIGHBOUR: 'it returns false'. Refute it at one input. -/
def fnExactFirstPathWrong : ChangeSpec := { name := "fnExactFirstPath", fn := fun _ => fun
  | [d1, d2, d3] => { results := [.lit (.bool false)], args := [d1, d2, d3] }
  | _ => none }
def FnExactFirstPathWrongFalsely : Prop := fnExactFirstPathRow.holds Try.pinned (OpenSpec.ofChange fnExactFirstPathWrong)

/- THE SECOND FORM. 'bulk': how many values and letters a reading holds, each counted each time it is reached (what is shared counts as often as it is met; a slice's spare places count too). A statement '..UptoSaid' is the law's where the arguments, and the package variables that the reading takes, are together of bulk at most 1048576: NARROWER than '..Said'. Prove '..Said' where nothing that the law and all that it calls make is longer than what came in: it says more and counts as full. Else prove '..UptoSaid'. A law counts once. -/
mutual
def uptoBulk {H : Type} : DataW H → Nat
  | .lit (.string bytes) => bytes.length + 1
  | .lit _ => 1
  | .nil => 1
  | .ptr d => uptoBulk d + 1
  | .slice elems spare => uptoBulkAll elems + uptoBulkAll spare + 1
  | .agg parts => uptoBulkAll parts + 1
  | .iface _ d => uptoBulk d + 1
  | .map entries => uptoBulkEntries entries + 1
  | .held _ => 1
def uptoBulkAll {H : Type} : List (DataW H) → Nat
  | [] => 0
  | d :: r => uptoBulk d + uptoBulkAll r
def uptoBulkEntries {H : Type} : List (Lit × DataW H) → Nat
  | [] => 0
  | x :: r => uptoBulkEntry x + uptoBulkEntries r
def uptoBulkEntry {H : Type} : Lit × DataW H → Nat
  | (.string bytes, d) => bytes.length + uptoBulk d + 1
  | (_, d) => uptoBulk d + 1
 end
def uptoSmall : (H : Type) → List (DataW H) → Bool := fun _ ds => decide (uptoBulkAll ds ≤ 1048576)
def OpenSpec.upto (s : _root_.Go.ChangeSpec) : _root_.Go.OpenSpec := { _root_.Go.OpenSpec.ofChange s with cond := some uptoSmall }

/-- 'laws.FnExactFirstMisfit', WHERE WHAT IT READS IS OF BULK AT MOST 1048576: true; the input reads as it did. -/
def fnExactFirstMisfitUptoRow : OpenClaim := { program := "ytaeoiibmkbkaeaa", sum := "25cf26a1e5d02f16dd18106818befaff03f12e3f3bec1970ed5137c4d64ce415", func := "loop.example/g01118/laws.FnExactFirstMisfit", spec := "fnExactFirstMisfit", unfollowed := true, recurses := true, apart := false, narrowed := true }
def FnExactFirstMisfitUptoSaid : Prop := fnExactFirstMisfitUptoRow.holds Try.pinned (OpenSpec.upto fnExactFirstMisfitSpec)

/-- 'laws.FnExactIsConnected', WHERE WHAT IT READS IS OF BULK AT MOST 1048576: true; the input reads as it did. -/
def fnExactIsConnectedUptoRow : OpenClaim := { program := "ytaeoiibmkbkaeaa", sum := "25cf26a1e5d02f16dd18106818befaff03f12e3f3bec1970ed5137c4d64ce415", func := "loop.example/g01118/laws.FnExactIsConnected", spec := "fnExactIsConnected", unfollowed := true, recurses := true, apart := false, narrowed := true }
def FnExactIsConnectedUptoSaid : Prop := fnExactIsConnectedUptoRow.holds Try.pinned (OpenSpec.upto fnExactIsConnectedSpec)

/-- 'laws.FnExactCanReach', WHERE WHAT IT READS IS OF BULK AT MOST 1048576: true; the input reads as it did. -/
def fnExactCanReachUptoRow : OpenClaim := { program := "ytaeoiibmkbkaeaa", sum := "25cf26a1e5d02f16dd18106818befaff03f12e3f3bec1970ed5137c4d64ce415", func := "loop.example/g01118/laws.FnExactCanReach", spec := "fnExactCanReach", apart := false, narrowed := true }
def FnExactCanReachUptoSaid : Prop := fnExactCanReachUptoRow.holds Try.pinned (OpenSpec.upto fnExactCanReachSpec)

/-- 'laws.FnExactClassesOf', WHERE WHAT IT READS IS OF BULK AT MOST 1048576: true; the input reads as it did. -/
def fnExactClassesOfUptoRow : OpenClaim := { program := "ytaeoiibmkbkaeaa", sum := "25cf26a1e5d02f16dd18106818befaff03f12e3f3bec1970ed5137c4d64ce415", func := "loop.example/g01118/laws.FnExactClassesOf", spec := "fnExactClassesOf", apart := false, narrowed := true }
def FnExactClassesOfUptoSaid : Prop := fnExactClassesOfUptoRow.holds Try.pinned (OpenSpec.upto fnExactClassesOfSpec)

/-- 'laws.FnExactClosedClasses', WHERE WHAT IT READS IS OF BULK AT MOST 1048576: true; the input reads as it did. -/
def fnExactClosedClassesUptoRow : OpenClaim := { program := "ytaeoiibmkbkaeaa", sum := "25cf26a1e5d02f16dd18106818befaff03f12e3f3bec1970ed5137c4d64ce415", func := "loop.example/g01118/laws.FnExactClosedClasses", spec := "fnExactClosedClasses", unfollowed := true, recurses := true, apart := false, narrowed := true }
def FnExactClosedClassesUptoSaid : Prop := fnExactClosedClassesUptoRow.holds Try.pinned (OpenSpec.upto fnExactClosedClassesSpec)

/-- 'laws.FnExactPeriodOf', WHERE WHAT IT READS IS OF BULK AT MOST 1048576: true; the input reads as it did. -/
def fnExactPeriodOfUptoRow : OpenClaim := { program := "ytaeoiibmkbkaeaa", sum := "25cf26a1e5d02f16dd18106818befaff03f12e3f3bec1970ed5137c4d64ce415", func := "loop.example/g01118/laws.FnExactPeriodOf", spec := "fnExactPeriodOf", unfollowed := true, recurses := true, apart := false, narrowed := true }
def FnExactPeriodOfUptoSaid : Prop := fnExactPeriodOfUptoRow.holds Try.pinned (OpenSpec.upto fnExactPeriodOfSpec)

/-- 'laws.FnExactIsPath', WHERE WHAT IT READS IS OF BULK AT MOST 1048576: true; the input reads as it did. -/
def fnExactIsPathUptoRow : OpenClaim := { program := "ytaeoiibmkbkaeaa", sum := "25cf26a1e5d02f16dd18106818befaff03f12e3f3bec1970ed5137c4d64ce415", func := "loop.example/g01118/laws.FnExactIsPath", spec := "fnExactIsPath", unfollowed := true, recurses := true, apart := false, narrowed := true }
def FnExactIsPathUptoSaid : Prop := fnExactIsPathUptoRow.holds Try.pinned (OpenSpec.upto fnExactIsPathSpec)

/-- 'laws.FnExactFirstPath', WHERE WHAT IT READS IS OF BULK AT MOST 1048576: true; the input reads as it did. -/
def fnExactFirstPathUptoRow : OpenClaim := { program := "ytaeoiibmkbkaeaa", sum := "25cf26a1e5d02f16dd18106818befaff03f12e3f3bec1970ed5137c4d64ce415", func := "loop.example/g01118/laws.FnExactFirstPath", spec := "fnExactFirstPath", unfollowed := true, recurses := true, apart := false, narrowed := true }
def FnExactFirstPathUptoSaid : Prop := fnExactFirstPathUptoRow.holds Try.pinned (OpenSpec.upto fnExactFirstPathSpec)

end Rows
end Go.Proofs.Ytaeoiibmkbkaeaa
