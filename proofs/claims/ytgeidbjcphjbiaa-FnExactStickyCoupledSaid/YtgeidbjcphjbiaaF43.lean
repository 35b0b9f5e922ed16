/- Contracts: ApartCoupled, StairCoupled, BestCoupled. -/
import Derived.Test.YtgeidbjcphjbiaaF42
namespace Go.Proofs.Ytgeidbjcphjbiaa
open Go.Eng Go.RowKit
set_option linter.unusedVariables false

/-! the three ways -/
def rowS (xss : List (List Int)) (s t : Nat) : List Int := stG xss.length (2 * xss.length) 0 0 (xss.getD s []) (xss.getD t []) (zer (xss.length * xss.length))
def apL (n : Nat) (a b : List Int) (J : Nat) : List Int := tab (n * n) fun k => if k < J then a.getD (k / n) 0 * b.getD (k % n) 0 else 0
def rowA (xss : List (List Int)) (s t : Nat) : List Int := apL xss.length (xss.getD s []) (xss.getD t []) (xss.length * xss.length)
theorem apL_length (n : Nat) (a b : List Int) (J : Nat) : (apL n a b J).length = n * n := tab_length _ _
theorem apL_0 (n : Nat) (a b : List Int) : apL n a b 0 = zer (n * n) := tab_congr _ _ _ fun k _ => by rw [if_neg (by omega)]
theorem apL_getD (n : Nat) (a b : List Int) (J : Nat) (h : J < n * n) : (apL n a b J).getD J 0 = 0 := by rw [apL, tab_getD _ _ _ _ h, if_neg (by omega)]
theorem apL_set (n : Nat) (a b : List Int) (u v : Nat) (hv : v < n) (h : u * n + v < n * n) : (apL n a b (u * n + v)).set (u * n + v) (a.getD u 0 * b.getD v 0) = apL n a b (u * n + (v + 1)) := by
  unfold apL
  rw [tab_set]
  refine tab_congr _ _ _ fun k hk => ?_
  by_cases e : k = u * n + v
  · subst e; rw [if_pos rfl, if_pos (by omega), (dvC u hv).1, (dvC u hv).2]
  · rw [if_neg e]
    by_cases h1 : k < u * n + v
    · rw [if_pos h1, if_pos (by omega)]
    · rw [if_neg h1, if_neg (by omega)]
theorem apL_add (n : Nat) (a b : List Int) (u v : Nat) (hv : v < n) (h : u * n + v < n * n) : addAt n (apL n a b (u * n + v)) u v (a.getD u 0 * b.getD v 0) = apL n a b (u * n + (v + 1)) := by
  unfold addAt
  rw [apL_getD _ _ _ _ h, Int.zero_add, apL_set n a b u v hv h]
/-- What is the same in both rows, taken out first. -/
def bsA (n : Nat) (a b : List Int) : Nat → List Int × List Int × List Int
  | 0 => (a, b, zer (n * n))
  | k + 1 =>
    ((bsA n a b k).1.set k ((bsA n a b k).1.getD k 0 - mnI ((bsA n a b k).1.getD k 0) ((bsA n a b k).2.1.getD k 0)),
     (bsA n a b k).2.1.set k ((bsA n a b k).2.1.getD k 0 - mnI ((bsA n a b k).1.getD k 0) ((bsA n a b k).2.1.getD k 0)),
     addAt n (bsA n a b k).2.2 k k (mnI ((bsA n a b k).1.getD k 0) ((bsA n a b k).2.1.getD k 0)))
def rowB (xss : List (List Int)) (s t : Nat) : List Int :=
  stG xss.length (2 * xss.length) 0 0 (bsA xss.length (xss.getD s []) (xss.getD t []) xss.length).1 (bsA xss.length (xss.getD s []) (xss.getD t []) xss.length).2.1 (bsA xss.length (xss.getD s []) (xss.getD t []) xss.length).2.2
structure BsOk (n k : Nat) (p : List Int × List Int × List Int) : Prop where
  l1 : p.1.length = n
  l2 : p.2.1.length = n
  l3 : p.2.2.length = n * n
  b1 : Bd 60 p.1
  b2 : Bd 60 p.2.1
  b3 : Bd 60 p.2.2
  z : ∀ i, k * n ≤ i → p.2.2.getD i 0 = 0
theorem bsA_ok {n : Nat} {a b : List Int} (ha : a.length = n) (hb : b.length = n) (h1 : Bd 60 a) (h2 : Bd 60 b) : ∀ k, k ≤ n → BsOk n k (bsA n a b k)
  | 0, _ => ⟨ha, hb, zer_length _, h1, h2, bd_zer _ _ (by decide), fun i _ => zer_getD _ _⟩
  | k + 1, hk => by
    have ih := bsA_ok ha hb h1 h2 k (by omega)
    have hw := mnI_bd (ih.b1 k) (ih.b2 k)
    have c1 := ih.b1 k
    have c2 := ih.b2 k
    have hi : k * n + k < n * n := idx_lt (show k < n by omega) (show k < n by omega)
    have hz : (bsA n a b k).2.2.getD (k * n + k) 0 = 0 := ih.z _ (by omega)
    refine ⟨by simp [bsA, ih.l1], by simp [bsA, ih.l2], by simp only [bsA, addAt_length]; exact ih.l3, ih.b1.set (by omega) _, ih.b2.set (by omega) _, ?_, fun i hi2 => ?_⟩
    · exact ih.b3.set (by rw [hz]; omega) _
    · rw [Nat.succ_mul] at hi2
      show (addAt n _ k k _).getD i 0 = 0
      unfold addAt
      rw [setD _ _ _ _ (by rw [ih.l3]; exact hi), if_neg (by omega)]
      exact ih.z i (by omega)
theorem rowS_length (xss : List (List Int)) (s t : Nat) : (rowS xss s t).length = xss.length * xss.length := by rw [rowS, stG_length, zer_length]
theorem bsA_len (n : Nat) (a b : List Int) : ∀ k, (bsA n a b k).2.2.length = n * n
  | 0 => zer_length _
  | k + 1 => by show (addAt n _ k k _).length = _; rw [addAt_length]; exact bsA_len n a b k
theorem rowB_length (xss : List (List Int)) (s t : Nat) : (rowB xss s t).length = xss.length * xss.length := by rw [rowB, stG_length, bsA_len]
theorem rowA_length (xss : List (List Int)) (s t : Nat) : (rowA xss s t).length = xss.length * xss.length := apL_length _ _ _ _

section
variable {w0 : World} {pc : Addr} {st tot : Int} {v : Value} {xss : List (List Int)} {row : Nat → Value}
end
/-- The product of the totals, as it is reckoned. -/
noncomputable def apT (st tot : Int) (xss : List (List Int)) : Int := if Valid st tot xss then tot * tot else 0
theorem coupM_tot {st tot : Int} {xss : List (List Int)} {T T' : Int} {rowF : Nat → Nat → List Int} (h : Valid st tot xss → T = T') : coupM st tot xss T rowF = coupM st tot xss T' rowF := by
  unfold coupM
  split
  · rename_i hv; rw [h hv]
  · rfl
end Go.Proofs.Ytgeidbjcphjbiaa
