/- Contracts: orders. -/
import Derived.Test.YtgeidbjcphjbiaaF1
namespace Go.Proofs.Ytgeidbjcphjbiaa
open Go.Eng Go.RowKit
set_option linter.unusedVariables false

/-- One cell of a square of Bools. -/
def bAt (xss : List (List Bool)) (s t : Nat) : Bool := (xss.getD s []).getD t false

structure OrderP (st : Int) (xss : List (List Bool)) : Prop where
  s1 : 1 ≤ st ∧ st ≤ 6
  len : (xss.length : Int) = st
  rows : ∀ s, s < xss.length → ((xss.getD s []).length : Int) = st
  refl : ∀ s, s < xss.length → bAt xss s s = true
  anti : ∀ s t, s < xss.length → t < xss.length → s ≠ t → bAt xss s t = true → bAt xss t s = true → False
  trans : ∀ s t u, s < xss.length → t < xss.length → u < xss.length → bAt xss s t = true → bAt xss t u = true → bAt xss s u = true
noncomputable instance (st : Int) (xss : List (List Bool)) : Decidable (OrderP st xss) := Classical.propDecidable _

theorem _root_.Go.Eng.RdS.bget {w : World} {v : Value} {xss : List (List Bool)} {row : Nat → Value} (hr : RdS Value.bool false w v xss row) (s t : Nat) (hs : s < xss.length) (ht : t < (xss.getD s []).length) :
    w.cell? (vAt (row s) t) = some (.bool (bAt xss s t)) := (hr.row s hs).get t ht

end Go.Proofs.Ytgeidbjcphjbiaa
