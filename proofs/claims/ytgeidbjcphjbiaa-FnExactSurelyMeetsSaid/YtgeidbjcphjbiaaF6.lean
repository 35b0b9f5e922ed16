/- Contracts: the ends of an order. -/
import Derived.Test.YtgeidbjcphjbiaaF5
namespace Go.Proofs.Ytgeidbjcphjbiaa
open Go.Eng Go.RowKit
set_option linter.unusedVariables false

/-- Whether the first k states lie above s; below s. -/
def lowAll (xss : List (List Bool)) (s : Nat) : Nat → Bool
  | 0 => true
  | k + 1 => lowAll xss s k && bAt xss s k
def highAll (xss : List (List Bool)) (s : Nat) : Nat → Bool
  | 0 => true
  | k + 1 => highAll xss s k && bAt xss k s
/-- The last of the first k states that is below, above all. -/
def lowOf (xss : List (List Bool)) : Nat → Int
  | 0 => -1
  | k + 1 => if lowAll xss k xss.length = true then (k : Int) else lowOf xss k
def highOf (xss : List (List Bool)) : Nat → Int
  | 0 => -1
  | k + 1 => if highAll xss k xss.length = true then (k : Int) else highOf xss k
noncomputable def endsV (xss : List (List Bool)) : Value :=
  if OrderP xss.length xss then
    if 0 ≤ lowOf xss xss.length ∧ 0 ≤ highOf xss xss.length then .tuple #[.int .i64 (lowOf xss xss.length), .int .i64 (highOf xss xss.length), .int .i64 0] else .tuple #[.int .i64 0, .int .i64 0, .int .i64 6]
  else .tuple #[.int .i64 0, .int .i64 0, .int .i64 1]

end Go.Proofs.Ytgeidbjcphjbiaa
