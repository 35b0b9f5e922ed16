/- Contracts: products of chains: the reference's functions; what LazyChain, MixChains, ThenChain of the reference hand back. -/
import Derived.Test.YtgeidbjcphjbiaaF12
namespace Go.Proofs.Ytgeidbjcphjbiaa
open Go.Eng Go.RowKit
set_option linter.unusedVariables false

theorem tab_set {α : Type} (n i : Nat) (f : Nat → α) (x : α) : (tab n f).set i x = tab n fun j => if j = i then x else f j := by
  apply List.ext_getElem (by simp [tab_length])
  intro j h1 h2
  simp only [tab, List.getElem_set, List.getElem_map, List.getElem_range]
  by_cases e : i = j
  · subst e; simp
  · rw [if_neg e, if_neg (fun e' => e e'.symm)]
/-- A row of a product, while it is summed up: k factors, one more below t. -/
def rowP (n : Nat) (xss yss : List (List Int)) (s k t : Nat) : List Int := tab n fun q => (tab (if q < t then k + 1 else k) fun j => cAt xss s j * cAt yss j q).sum
theorem rowP_0 (n : Nat) (xss yss : List (List Int)) (s k : Nat) : rowP n xss yss s k 0 = tab n fun q => (tab k fun j => cAt xss s j * cAt yss j q).sum := tab_congr _ _ _ fun q _ => by rw [if_neg (by omega)]
theorem rowP_n (n : Nat) (xss yss : List (List Int)) (s k : Nat) : rowP n xss yss s k n = rowP n xss yss s (k + 1) 0 := tab_congr _ _ _ fun q hq => by rw [if_pos hq, if_neg (by omega)]
theorem rowP_set (n : Nat) (xss yss : List (List Int)) (s k t : Nat) : (rowP n xss yss s k t).set t ((tab k fun j => cAt xss s j * cAt yss j t).sum + cAt xss s k * cAt yss k t) = rowP n xss yss s k (t + 1) := by
  unfold rowP
  rw [tab_set]
  refine tab_congr _ _ _ fun q hq => ?_
  by_cases e : q = t
  · subst e; rw [if_pos rfl, if_pos (by omega), tsum_succ]
  · rw [if_neg e]
    by_cases h : q < t
    · rw [if_pos h, if_pos (by omega)]
    · rw [if_neg h, if_neg (by omega)]
theorem rowP_getD (n : Nat) (xss yss : List (List Int)) (s k t : Nat) (ht : t < n) : (rowP n xss yss s k t).getD t 0 = (tab k fun j => cAt xss s j * cAt yss j t).sum := by
  unfold rowP
  rw [tab_getD _ _ _ _ ht, if_neg (by omega)]
theorem tab0 (n : Nat) : List.replicate n (Value.int .i64 0) = (tab n fun _ => (0 : Int)).map (Value.int .i64) := by
  apply List.ext_getElem (by simp [tab_length])
  intro i h1 h2
  simp [tab]


theorem builtM_ok (n : Nat) (tot : Int) (g : Nat → Nat → Int) (hn : n ≤ 6) (ht : tot ≤ 60) : builtM n tot g = ⟨n, tot, mat n g, 0⟩ := by rw [builtM, if_neg (by omega)]
theorem builtM_err (n : Nat) (tot : Int) (g : Nat → Nat → Int) (ht : ¬ tot ≤ 60) : builtM n tot g = mErr 3 := by rw [builtM, if_pos (by omega)]

end Go.Proofs.Ytgeidbjcphjbiaa
