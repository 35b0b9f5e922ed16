/- Contracts: what is reached. -/
import Derived.Test.YthjoflgplbpeiaaPureR
import Derived.Test.YthjoflgplbpeiaaLibW
namespace Go.Proofs.Ythjoflgplbpeiaa
open Go.Eng Go.RowKit
set_option linter.unusedVariables false

/-- One slice. -/
def OutE {α : Type} (e : TypeId) (enc : α → Value) (xs : List α) (v : Value) (rs : List Res) : Prop := rs = [rE e enc v xs] ∧ SlOk v xs.length
def eN (k : Nat) : Value := .int .i64 (k : Int)

end Go.Proofs.Ythjoflgplbpeiaa
