/-
  No cell of these rows narrows 'for every input' (looked for: loops, veiled, ifaces, maps, wideKeys, modest, calm, conditions, laid).
  DERIVED. THE GIVEN ROWS OF THIS SEAT. 12 by the template 'for every input the law returns true; each argument reads behind the call as it read before'; 0 by the template 'total and deterministic' (their statements: YtcbdihlmnhaaiaaTotals.lean).
  GIVEN WITH THE SEED: the statements are not yours to turn. If you find one false, say at which input.
  Laid BY PROGRAM, IN A SANDBOX (cutbox-rows.mjs): the forced cells as the released guide's own fill.sh prints them over the translation 2ea816f1ae3f00a5… (all of the seat's roots in one cut). By AI agents, Wed Nov 11 2026. No macro, syntax, notation, axiom, sorry.
-/
import Derived.Test.YtcbdihlmnhaaiaaChecked
import GoSem.Claim
import GoSem.ClaimJoined
import GoSem.ClaimMapViews
import Derived.JoinedTies
import Derived.KernelRfl
namespace Go.Proofs.Ytcbdihlmnhaaiaa
/- THE CELL 'sum', in the pinned program and in every row, IS THE sha256 OF THE DUMP (.gsa) THAT YtcbdihlmnhaaiaaProg.lean LOADS. Nothing in Lean hashes anything: it is a label: what it is worth is what the hold of that sum in a sandbox is worth. -/
noncomputable def Try.pinned : Pinned := { name := "ytcbdihlmnhaaiaa", sum := "2ea816f1ae3f00a56ba2e554eb82ea840838fc635555a878b56ad5fe1715d00c", checked := Try.checked }
namespace Rows
def none {H : Type} : Left H := { results := [], args := [] }

/-- 'laws.FnExactConstants': WHATEVER THE INPUT: true; the input reads as it did. -/
def fnExactConstantsSpec : ChangeSpec := { name := "fnExactConstants", fn := fun _ => fun
  | [] => { results := [.lit (.bool true)], args := [] }
  | _ => none }
def fnExactConstantsRow : OpenClaim := { program := "ytcbdihlmnhaaiaa", sum := "2ea816f1ae3f00a56ba2e554eb82ea840838fc635555a878b56ad5fe1715d00c", func := "loop.example/g01118/laws.FnExactConstants", spec := "fnExactConstants", apart := false }
def FnExactConstantsSaid : Prop := fnExactConstantsRow.holds Try.pinned (OpenSpec.ofChange fnExactConstantsSpec)

/-- ITS FALSE NEIGHBOUR: 'it returns false'. Refute it at one input. -/
def fnExactConstantsWrong : ChangeSpec := { name := "fnExactConstants", fn := fun _ => fun
  | [] => { results := [.lit (.bool false)], args := [] }
  | _ => none }
def FnExactConstantsWrongFalsely : Prop := fnExactConstantsRow.holds Try.pinned (OpenSpec.ofChange fnExactConstantsWrong)

/-- 'laws.FnExactCodeName': WHATEVER THE INPUT: true; the input reads as it did. -/
def fnExactCodeNameSpec : ChangeSpec := { name := "fnExactCodeName", fn := fun _ => fun
  | [d] => { results := [.lit (.bool true)], args := [d] }
  | _ => none }
def fnExactCodeNameRow : OpenClaim := { program := "ytcbdihlmnhaaiaa", sum := "2ea816f1ae3f00a56ba2e554eb82ea840838fc635555a878b56ad5fe1715d00c", func := "loop.example/g01118/laws.FnExactCodeName", spec := "fnExactCodeName", apart := false }
def FnExactCodeNameSaid : Prop := fnExactCodeNameRow.holds Try.pinned (OpenSpec.ofChange fnExactCodeNameSpec)

/-- ITS FALSE NEIGHBOUR: 'it returns false'. Refute it at one input. -/
def fnExactCodeNameWrong : ChangeSpec := { name := "fnExactCodeName", fn := fun _ => fun
  | [d] => { results := [.lit (.bool false)], args := [d] }
  | _ => none }
def FnExactCodeNameWrongFalsely : Prop := fnExactCodeNameRow.holds Try.pinned (OpenSpec.ofChange fnExactCodeNameWrong)

/-- 'laws.FnExactLineOrder': WHATEVER THE INPUT: true; the input reads as it did. -/
def fnExactLineOrderSpec : ChangeSpec := { name := "fnExactLineOrder", fn := fun _ => fun
  | [d] => { results := [.lit (.bool true)], args := [d] }
  | _ => none }
def fnExactLineOrderRow : OpenClaim := { program := "ytcbdihlmnhaaiaa", sum := "2ea816f1ae3f00a56ba2e554eb82ea840838fc635555a878b56ad5fe1715d00c", func := "loop.example/g01118/laws.FnExactLineOrder", spec := "fnExactLineOrder", apart := false }
def FnExactLineOrderSaid : Prop := fnExactLineOrderRow.holds Try.pinned (OpenSpec.ofChange fnExactLineOrderSpec)

/-- ITS FALSE NEIGHBOUR: 'it returns false'. Refute it at one input. -/
def fnExactLineOrderWrong : ChangeSpec := { name := "fnExactLineOrder", fn := fun _ => fun
  | [d] => { results := [.lit (.bool false)], args := [d] }
  | _ => none }
def FnExactLineOrderWrongFalsely : Prop := fnExactLineOrderRow.holds Try.pinned (OpenSpec.ofChange fnExactLineOrderWrong)

/-- 'laws.FnExactValidOrder': WHATEVER THE INPUT: true; the input reads as it did. -/
def fnExactValidOrderSpec : ChangeSpec := { name := "fnExactValidOrder", fn := fun _ => fun
  | [d1, d2] => { results := [.lit (.bool true)], args := [d1, d2] }
  | _ => none }
def fnExactValidOrderRow : OpenClaim := { program := "ytcbdihlmnhaaiaa", sum := "2ea816f1ae3f00a56ba2e554eb82ea840838fc635555a878b56ad5fe1715d00c", func := "loop.example/g01118/laws.FnExactValidOrder", spec := "fnExactValidOrder", apart := false }
def FnExactValidOrderSaid : Prop := fnExactValidOrderRow.holds Try.pinned (OpenSpec.ofChange fnExactValidOrderSpec)

/-- ITS FALSE NEIGHBOUR: 'it returns false'. Refute it at one input. -/
def fnExactValidOrderWrong : ChangeSpec := { name := "fnExactValidOrder", fn := fun _ => fun
  | [d1, d2] => { results := [.lit (.bool false)], args := [d1, d2] }
  | _ => none }
def FnExactValidOrderWrongFalsely : Prop := fnExactValidOrderRow.holds Try.pinned (OpenSpec.ofChange fnExactValidOrderWrong)

/-- 'laws.FnExactValidChain': WHATEVER THE INPUT: true; the input reads as it did. -/
def fnExactValidChainSpec : ChangeSpec := { name := "fnExactValidChain", fn := fun _ => fun
  | [d] => { results := [.lit (.bool true)], args := [d] }
  | _ => none }
def fnExactValidChainRow : OpenClaim := { program := "ytcbdihlmnhaaiaa", sum := "2ea816f1ae3f00a56ba2e554eb82ea840838fc635555a878b56ad5fe1715d00c", func := "loop.example/g01118/laws.FnExactValidChain", spec := "fnExactValidChain", apart := false }
def FnExactValidChainSaid : Prop := fnExactValidChainRow.holds Try.pinned (OpenSpec.ofChange fnExactValidChainSpec)

/-- ITS FALSE NEIGHBOUR: 'it returns false'. Refute it at one input. -/
def fnExactValidChainWrong : ChangeSpec := { name := "fnExactValidChain", fn := fun _ => fun
  | [d] => { results := [.lit (.bool false)], args := [d] }
  | _ => none }
def FnExactValidChainWrongFalsely : Prop := fnExactValidChainRow.holds Try.pinned (OpenSpec.ofChange fnExactValidChainWrong)

/-- 'laws.FnExactSameChain': WHATEVER THE INPUT: true; the input reads as it did. -/
def fnExactSameChainSpec : ChangeSpec := { name := "fnExactSameChain", fn := fun _ => fun
  | [d1, d2] => { results := [.lit (.bool true)], args := [d1, d2] }
  | _ => none }
def fnExactSameChainRow : OpenClaim := { program := "ytcbdihlmnhaaiaa", sum := "2ea816f1ae3f00a56ba2e554eb82ea840838fc635555a878b56ad5fe1715d00c", func := "loop.example/g01118/laws.FnExactSameChain", spec := "fnExactSameChain", unfollowed := true, recurses := true, apart := false }
def FnExactSameChainSaid : Prop := fnExactSameChainRow.holds Try.pinned (OpenSpec.ofChange fnExactSameChainSpec)

/-- ITS FALSE NEIGHBOUR: 'it returns false'. Refute it at one input. -/
def fnExactSameChainWrong : ChangeSpec := { name := "fnExactSameChain", fn := fun _ => fun
  | [d1, d2] => { results := [.lit (.bool false)], args := [d1, d2] }
  | _ => none }
def FnExactSameChainWrongFalsely : Prop := fnExactSameChainRow.holds Try.pinned (OpenSpec.ofChange fnExactSameChainWrong)

/-- 'laws.FnExactArePaths': WHATEVER THE INPUT: true; the input reads as it did. -/
def fnExactArePathsSpec : ChangeSpec := { name := "fnExactArePaths", fn := fun _ => fun
  | [d1, d2] => { results := [.lit (.bool true)], args := [d1, d2] }
  | _ => none }
def fnExactArePathsRow : OpenClaim := { program := "ytcbdihlmnhaaiaa", sum := "2ea816f1ae3f00a56ba2e554eb82ea840838fc635555a878b56ad5fe1715d00c", func := "loop.example/g01118/laws.FnExactArePaths", spec := "fnExactArePaths", unfollowed := true, recurses := true, apart := false }
def FnExactArePathsSaid : Prop := fnExactArePathsRow.holds Try.pinned (OpenSpec.ofChange fnExactArePathsSpec)

/-- ITS FALSE NEIGHBOUR: 'it returns false'. Refute it at one input. -/
def fnExactArePathsWrong : ChangeSpec := { name := "fnExactArePaths", fn := fun _ => fun
  | [d1, d2] => { results := [.lit (.bool false)], args := [d1, d2] }
  | _ => none }
def FnExactArePathsWrongFalsely : Prop := fnExactArePathsRow.holds Try.pinned (OpenSpec.ofChange fnExactArePathsWrong)

/-- 'laws.FnExactSameCoupled': WHATEVER THE INPUT: true; the input reads as it did. -/
def fnExactSameCoupledSpec : ChangeSpec := { name := "fnExactSameCoupled", fn := fun _ => fun
  | [d1, d2] => { results := [.lit (.bool true)], args := [d1, d2] }
  | _ => none }
def fnExactSameCoupledRow : OpenClaim := { program := "ytcbdihlmnhaaiaa", sum := "2ea816f1ae3f00a56ba2e554eb82ea840838fc635555a878b56ad5fe1715d00c", func := "loop.example/g01118/laws.FnExactSameCoupled", spec := "fnExactSameCoupled", unfollowed := true, recurses := true, apart := false }
def FnExactSameCoupledSaid : Prop := fnExactSameCoupledRow.holds Try.pinned (OpenSpec.ofChange fnExactSameCoupledSpec)

/-- ITS FALSE NEIGHBOUR: 'it returns false'. Refute it at one input. -/
def fnExactSameCoupledWrong : ChangeSpec := { name := "fnExactSameCoupled", fn := fun _ => fun
  | [d1, d2] => { results := [.lit (.bool false)], args := [d1, d2] }
  | _ => none }
def FnExactSameCoupledWrongFalsely : Prop := fnExactSameCoupledRow.holds Try.pinned (OpenSpec.ofChange fnExactSameCoupledWrong)

/-- 'laws.FnExactValidMaps': WHATEVER THE INPUT: true; the input reads as it did. -/
def fnExactValidMapsSpec : ChangeSpec := { name := "fnExactValidMaps", fn := fun _ => fun
  | [d] => { results := [.lit (.bool true)], args := [d] }
  | _ => none }
def fnExactValidMapsRow : OpenClaim := { program := "ytcbdihlmnhaaiaa", sum := "2ea816f1ae3f00a56ba2e554eb82ea840838fc635555a878b56ad5fe1715d00c", func := "loop.example/g01118/laws.FnExactValidMaps", spec := "fnExactValidMaps", apart := false }
def FnExactValidMapsSaid : Prop := fnExactValidMapsRow.holds Try.pinned (OpenSpec.ofChange fnExactValidMapsSpec)

/-- ITS FALSE NEIGHBOUR: 'it returns false'. Refute it at one input. -/
def fnExactValidMapsWrong : ChangeSpec := { name := "fnExactValidMaps", fn := fun _ => fun
  | [d] => { results := [.lit (.bool false)], args := [d] }
  | _ => none }
def FnExactValidMapsWrongFalsely : Prop := fnExactValidMapsRow.holds Try.pinned (OpenSpec.ofChange fnExactValidMapsWrong)

/-- 'laws.FnExactSameMaps': WHATEVER THE INPUT: true; the input reads as it did. -/
def fnExactSameMapsSpec : ChangeSpec := { name := "fnExactSameMaps", fn := fun _ => fun
  | [d1, d2] => { results := [.lit (.bool true)], args := [d1, d2] }
  | _ => none }
def fnExactSameMapsRow : OpenClaim := { program := "ytcbdihlmnhaaiaa", sum := "2ea816f1ae3f00a56ba2e554eb82ea840838fc635555a878b56ad5fe1715d00c", func := "loop.example/g01118/laws.FnExactSameMaps", spec := "fnExactSameMaps", unfollowed := true, recurses := true, apart := false }
def FnExactSameMapsSaid : Prop := fnExactSameMapsRow.holds Try.pinned (OpenSpec.ofChange fnExactSameMapsSpec)

/-- ITS FALSE NEIGHBOUR: 'it returns false'. Refute it at one input. -/
def fnExactSameMapsWrong : ChangeSpec := { name := "fnExactSameMaps", fn := fun _ => fun
  | [d1, d2] => { results := [.lit (.bool false)], args := [d1, d2] }
  | _ => none }
def FnExactSameMapsWrongFalsely : Prop := fnExactSameMapsRow.holds Try.pinned (OpenSpec.ofChange fnExactSameMapsWrong)

/-- 'laws.FnExactIsEven': WHATEVER THE INPUT: true; the input reads as it did. -/
def fnExactIsEvenSpec : ChangeSpec := { name := "fnExactIsEven", fn := fun _ => fun
  | [d] => { results := [.lit (.bool true)], args := [d] }
  | _ => none }
def fnExactIsEvenRow : OpenClaim := { program := "ytcbdihlmnhaaiaa", sum := "2ea816f1ae3f00a56ba2e554eb82ea840838fc635555a878b56ad5fe1715d00c", func := "loop.example/g01118/laws.FnExactIsEven", spec := "fnExactIsEven", apart := false }
def FnExactIsEvenSaid : Prop := fnExactIsEvenRow.holds Try.pinned (OpenSpec.ofChange fnExactIsEvenSpec)

/-- ITS FALSE NEIGHBOUR: 'it returns false'. Refute it at one input. -/
def fnExactIsEvenWrong : ChangeSpec := { name := "fnExactIsEven", fn := fun _ => fun
  | [d] => { results := [.lit (.bool false)], args := [d] }
  | _ => none }
def FnExactIsEvenWrongFalsely : Prop := fnExactIsEvenRow.holds Try.pinned (OpenSpec.ofChange fnExactIsEvenWrong)

/-- 'laws.FnExactEndsOf': WHATEVER THE INPUT: true; the input reads as it did. -/
def fnExactEndsOfSpec : ChangeSpec := { name := "fnExactEndsOf", fn := fun _ => fun
  | [d] => { results := [.lit (.bool true)], args := [d] }
  | _ => none }
def fnExactEndsOfRow : OpenClaim := { program := "ytcbdihlmnhaaiaa", sum := "2ea816f1ae3f00a56ba2e554eb82ea840838fc635555a878b56ad5fe1715d00c", func := "loop.example/g01118/laws.FnExactEndsOf", spec := "fnExactEndsOf", apart := false }
def FnExactEndsOfSaid : Prop := fnExactEndsOfRow.holds Try.pinned (OpenSpec.ofChange fnExactEndsOfSpec)

/-- ITS FALSE NEIGHBOUR: 'it returns false'. Refute it at one input. -/
def fnExactEndsOfWrong : ChangeSpec := { name := "fnExactEndsOf", fn := fun _ => fun
  | [d] => { results := [.lit (.bool false)], args := [d] }
  | _ => none }
def FnExactEndsOfWrongFalsely : Prop := fnExactEndsOfRow.holds Try.pinned (OpenSpec.ofChange fnExactEndsOfWrong)

/- THE SECOND FORM. 'bulk': how many values and letters a reading holds, each counted each time it is reached (what is shared counts as often as it is met; a slice's spare places count too). A statement '..UptoSaid' is the law's where the arguments, and the package variables that the reading takes, are together of bulk at most 1048576: NARROWER than '..Said'. Prove '..Said' where nothing that the law and all that it calls make is longer than what came in: it says more and counts as full. Else prove '..UptoSaid'. A law counts once. -/
mutual
def uptoBulk {H : Type} : DataW H → Nat
  | .lit (.string bytes) => bytes.length + 1
  | .lit _ => 1
  | .nil => 1
  | .ptr d => uptoBulk d + 1
  | .slice elems spare => uptoBulkAll elems + uptoBulkAll spare + 1
  | .agg parts => uptoBulkAll parts + 1
  | .iface _ d => uptoBulk d + 1
  | .map entries => uptoBulkEntries entries + 1
  | .held _ => 1
def uptoBulkAll {H : Type} : List (DataW H) → Nat
  | [] => 0
  | d :: r => uptoBulk d + uptoBulkAll r
def uptoBulkEntries {H : Type} : List (Lit × DataW H) → Nat
  | [] => 0
  | x :: r => uptoBulkEntry x + uptoBulkEntries r
def uptoBulkEntry {H : Type} : Lit × DataW H → Nat
  | (.string bytes, d) => bytes.length + uptoBulk d + 1
  | (_, d) => uptoBulk d + 1
 end
def uptoSmall : (H : Type) → List (DataW H) → Bool := fun _ ds => decide (uptoBulkAll ds ≤ 1048576)
def OpenSpec.upto (s : _root_.Go.ChangeSpec) : _root_.Go.OpenSpec := { _root_.Go.OpenSpec.ofChange s with cond := some uptoSmall }

/-- 'laws.FnExactConstants', WHERE WHAT IT READS IS OF BULK AT MOST 1048576: true; the input reads as it did. -/
def fnExactConstantsUptoRow : OpenClaim := { program := "ytcbdihlmnhaaiaa", sum := "2ea816f1ae3f00a56ba2e554eb82ea840838fc635555a878b56ad5fe1715d00c", func := "loop.example/g01118/laws.FnExactConstants", spec := "fnExactConstants", apart := false, narrowed := true }
def FnExactConstantsUptoSaid : Prop := fnExactConstantsUptoRow.holds Try.pinned (OpenSpec.upto fnExactConstantsSpec)

/-- 'laws.FnExactCodeName', WHERE WHAT IT READS IS OF BULK AT MOST 1048576: true; the input reads as it did. -/
def fnExactCodeNameUptoRow : OpenClaim := { program := "ytcbdihlmnhaaiaa", sum := "2ea816f1ae3f00a56ba2e554eb82ea840838fc635555a878b56ad5fe1715d00c", func := "loop.example/g01118/laws.FnExactCodeName", spec := "fnExactCodeName", apart := false, narrowed := true }
def FnExactCodeNameUptoSaid : Prop := fnExactCodeNameUptoRow.holds Try.pinned (OpenSpec.upto fnExactCodeNameSpec)

/-- 'laws.FnExactLineOrder', WHERE WHAT IT READS IS OF BULK AT MOST 1048576: true; the input reads as it did. -/
def fnExactLineOrderUptoRow : OpenClaim := { program := "ytcbdihlmnhaaiaa", sum := "2ea816f1ae3f00a56ba2e554eb82ea840838fc635555a878b56ad5fe1715d00c", func := "loop.example/g01118/laws.FnExactLineOrder", spec := "fnExactLineOrder", apart := false, narrowed := true }
def FnExactLineOrderUptoSaid : Prop := fnExactLineOrderUptoRow.holds Try.pinned (OpenSpec.upto fnExactLineOrderSpec)

/-- 'laws.FnExactValidOrder', WHERE WHAT IT READS IS OF BULK AT MOST 1048576: true; the input reads as it did. -/
def fnExactValidOrderUptoRow : OpenClaim := { program := "ytcbdihlmnhaaiaa", sum := "2ea816f1ae3f00a56ba2e554eb82ea840838fc635555a878b56ad5fe1715d00c", func := "loop.example/g01118/laws.FnExactValidOrder", spec := "fnExactValidOrder", apart := false, narrowed := true }
def FnExactValidOrderUptoSaid : Prop := fnExactValidOrderUptoRow.holds Try.pinned (OpenSpec.upto fnExactValidOrderSpec)

/-- 'laws.FnExactValidChain', WHERE WHAT IT READS IS OF BULK AT MOST 1048576: true; the input reads as it did. -/
def fnExactValidChainUptoRow : OpenClaim := { program := "ytcbdihlmnhaaiaa", sum := "2ea816f1ae3f00a56ba2e554eb82ea840838fc635555a878b56ad5fe1715d00c", func := "loop.example/g01118/laws.FnExactValidChain", spec := "fnExactValidChain", apart := false, narrowed := true }
def FnExactValidChainUptoSaid : Prop := fnExactValidChainUptoRow.holds Try.pinned (OpenSpec.upto fnExactValidChainSpec)

/-- 'laws.FnExactSameChain', WHERE WHAT IT READS IS OF BULK AT MOST 1048576: true; the input reads as it did. -/
def fnExactSameChainUptoRow : OpenClaim := { program := "ytcbdihlmnhaaiaa", sum := "2ea816f1ae3f00a56ba2e554eb82ea840838fc635555a878b56ad5fe1715d00c", func := "loop.example/g01118/laws.FnExactSameChain", spec := "fnExactSameChain", unfollowed := true, recurses := true, apart := false, narrowed := true }
def FnExactSameChainUptoSaid : Prop := fnExactSameChainUptoRow.holds Try.pinned (OpenSpec.upto fnExactSameChainSpec)

/-- 'laws.FnExactArePaths', WHERE WHAT IT READS IS OF BULK AT MOST 1048576: true; the input reads as it did. -/
def fnExactArePathsUptoRow : OpenClaim := { program := "ytcbdihlmnhaaiaa", sum := "2ea816f1ae3f00a56ba2e554eb82ea840838fc635555a878b56ad5fe1715d00c", func := "loop.example/g01118/laws.FnExactArePaths", spec := "fnExactArePaths", unfollowed := true, recurses := true, apart := false, narrowed := true }
def FnExactArePathsUptoSaid : Prop := fnExactArePathsUptoRow.holds Try.pinned (OpenSpec.upto fnExactArePathsSpec)

/-- 'laws.FnExactSameCoupled', WHERE WHAT IT READS IS OF BULK AT MOST 1048576: true; the input reads as it did. -/
def fnExactSameCoupledUptoRow : OpenClaim := { program := "ytcbdihlmnhaaiaa", sum := "2ea816f1ae3f00a56ba2e554eb82ea840838fc635555a878b56ad5fe1715d00c", func := "loop.example/g01118/laws.FnExactSameCoupled", spec := "fnExactSameCoupled", unfollowed := true, recurses := true, apart := false, narrowed := true }
def FnExactSameCoupledUptoSaid : Prop := fnExactSameCoupledUptoRow.holds Try.pinned (OpenSpec.upto fnExactSameCoupledSpec)

/-- 'laws.FnExactValidMaps', WHERE WHAT IT READS IS OF BULK AT MOST 1048576: true; the input reads as it did. -/
def fnExactValidMapsUptoRow : OpenClaim := { program := "ytcbdihlmnhaaiaa", sum := "2ea816f1ae3f00a56ba2e554eb82ea840838fc635555a878b56ad5fe1715d00c", func := "loop.example/g01118/laws.FnExactValidMaps", spec := "fnExactValidMaps", apart := false, narrowed := true }
def FnExactValidMapsUptoSaid : Prop := fnExactValidMapsUptoRow.holds Try.pinned (OpenSpec.upto fnExactValidMapsSpec)

/-- 'laws.FnExactSameMaps', WHERE WHAT IT READS IS OF BULK AT MOST 1048576: true; the input reads as it did. -/
def fnExactSameMapsUptoRow : OpenClaim := { program := "ytcbdihlmnhaaiaa", sum := "2ea816f1ae3f00a56ba2e554eb82ea840838fc635555a878b56ad5fe1715d00c", func := "loop.example/g01118/laws.FnExactSameMaps", spec := "fnExactSameMaps", unfollowed := true, recurses := true, apart := false, narrowed := true }
def FnExactSameMapsUptoSaid : Prop := fnExactSameMapsUptoRow.holds Try.pinned (OpenSpec.upto fnExactSameMapsSpec)

/-- 'laws.FnExactIsEven', WHERE WHAT IT READS IS OF BULK AT MOST 1048576: true; the input reads as it did. -/
def fnExactIsEvenUptoRow : OpenClaim := { program := "ytcbdihlmnhaaiaa", sum := "2ea816f1ae3f00a56ba2e554eb82ea840838fc635555a878b56ad5fe1715d00c", func := "loop.example/g01118/laws.FnExactIsEven", spec := "fnExactIsEven", apart := false, narrowed := true }
def FnExactIsEvenUptoSaid : Prop := fnExactIsEvenUptoRow.holds Try.pinned (OpenSpec.upto fnExactIsEvenSpec)

/-- 'laws.FnExactEndsOf', WHERE WHAT IT READS IS OF BULK AT MOST 1048576: true; the input reads as it did. -/
def fnExactEndsOfUptoRow : OpenClaim := { program := "ytcbdihlmnhaaiaa", sum := "2ea816f1ae3f00a56ba2e554eb82ea840838fc635555a878b56ad5fe1715d00c", func := "loop.example/g01118/laws.FnExactEndsOf", spec := "fnExactEndsOf", apart := false, narrowed := true }
def FnExactEndsOfUptoSaid : Prop := fnExactEndsOfUptoRow.holds Try.pinned (OpenSpec.upto fnExactEndsOfSpec)

end Rows
end Go.Proofs.Ytcbdihlmnhaaiaa
