/- Contracts: chains that are built cell by cell. -/
import Derived.Test.YtgeidbjcphjbiaaF9
namespace Go.Proofs.Ytgeidbjcphjbiaa
open Go.Eng Go.RowKit
set_option linter.unusedVariables false

/-- The square of f below n. -/
def mat (n : Nat) (f : Nat → Nat → Int) : List (List Int) := tab n fun s => tab n (f s)
theorem mat_length (n : Nat) (f : Nat → Nat → Int) : (mat n f).length = n := tab_length _ _
theorem mat_row (n : Nat) (f : Nat → Nat → Int) (s : Nat) (h : s < n) : (mat n f).getD s [] = tab n (f s) := tab_getD _ _ _ _ h
theorem mat_small (n : Nat) (hn : n ≤ 1000) (f : Nat → Nat → Int) : Small (mat n f) := by
  refine ⟨by rw [mat_length]; omega, fun i hi => ?_⟩
  rw [mat_length] at hi
  rw [mat_row _ _ _ hi, tab_length]; omega
theorem mat_congr (n : Nat) (f g : Nat → Nat → Int) (h : ∀ s t, s < n → t < n → f s t = g s t) : mat n f = mat n g :=
  tab_congr _ _ _ fun s hs => tab_congr _ _ _ fun t ht => h s t hs ht
def mErr (c : Int) : ChM := ⟨0, 0, [], c⟩
theorem chErr (e1 e2 : TypeId) (c : Int) {rs : List Res} (h : rs = [rRows e1 e2 (Value.int .i64) (.slice none 0 0) [] []]) : ChOut e1 e2 (mErr c) (.tuple #[.agg #[.int .i64 0, .int .i64 0, .slice none 0 0], .int .i64 c]) rs :=
  ⟨_, [], rfl, h, rfl, nil_ok⟩
/-- What 'built' hands back. -/
def builtM (n : Nat) (tot : Int) (g : Nat → Nat → Int) : ChM := if 6 < (n : Int) ∨ 60 < tot then mErr 3 else ⟨n, tot, mat n g, 0⟩

end Go.Proofs.Ytgeidbjcphjbiaa
