/- The texts of chains and of maps. -/
import Derived.Test.YtgeidbjcphjbiaaPureT
import Derived.Test.YtgeidbjcphjbiaaPureM
import Derived.Test.YtgeidbjcphjbiaaF2
namespace Go.Proofs.Ytgeidbjcphjbiaa
open Go.Eng
set_option linter.unusedVariables false

theorem Valid.small2 {st tot : Int} {xss : List (List Int)} (hv : Valid st tot xss) {i : Nat} (hi : i < xss.length) : Small2 (xss.getD i []) := by
  intro x hx
  obtain ⟨j, hj, rfl⟩ := List.mem_iff_getElem.1 hx
  have h1 := (hv.rows i hi).all j hj
  have h2 := hv.t1
  rw [getD_lt _ _ _ hj] at h1
  omega
theorem Valid.head2 {st tot : Int} {xss : List (List Int)} (hv : Valid st tot xss) : Small2 [st, tot] := by
  have h1 := hv.s1; have h2 := hv.t1
  intro x hx
  simp at hx
  omega
theorem ValidM.small2 {st tot : Int} {ks : List Int} {xss : List (List Int)} (hv : ValidM st tot ks xss) {i : Nat} (hi : i < xss.length) : Small2 (xss.getD i []) := by
  intro x hx
  obtain ⟨j, hj, rfl⟩ := List.mem_iff_getElem.1 hx
  have h1 := (hv.row i hi).all j hj
  have h2 := hv.s1
  rw [getD_lt _ _ _ hj] at h1
  omega
theorem ValidM.head2 {st tot : Int} {ks : List Int} {xss : List (List Int)} (hv : ValidM st tot ks xss) : Small2 [st, tot] := by
  have h1 := hv.s1; have h2 := hv.t1
  intro x hx
  simp at hx
  omega
theorem ValidM.key2 {st tot : Int} {ks : List Int} {xss : List (List Int)} (hv : ValidM st tot ks xss) {i : Nat} (hi : i < xss.length) : 0 ≤ ks.getD i 0 ∧ ks.getD i 0 < 100 := by
  have h1 := hv.key i hi; have h2 := hv.t1
  omega
def lineC (xs : List Int) : List UInt8 := wFrom ++ numsT xs
def linesC (st tot : Int) (xss : List (List Int)) (k : Nat) : List (List UInt8) := (wChain ++ numsT [st, tot]) :: tab k fun i => lineC (xss.getD i [])
def textC (st tot : Int) (xss : List (List Int)) (k : Nat) : List UInt8 := textOf (linesC st tot xss k)
theorem textC_0 (st tot : Int) (xss : List (List Int)) : textC st tot xss 0 = (wChain ++ numsT [st, tot]) ++ [10] := by simp [textC, linesC, tab, textOf]
theorem textC_succ (st tot : Int) (xss : List (List Int)) (k : Nat) : textC st tot xss (k + 1) = textC st tot xss k ++ (lineC (xss.getD k []) ++ [10]) := by
  unfold textC linesC
  rw [tab_succ, ← List.cons_append, textOf_snoc, List.append_assoc]
theorem textC_len {st tot : Int} {xss : List (List Int)} (hv : Valid st tot xss) : ∀ k, k ≤ xss.length → (textC st tot xss k).length ≤ 12 + k * 23
  | 0, _ => by
    have := numsT_len hv.head2
    rw [textC_0]; simp [wChain] at this ⊢; omega
  | k + 1, hk => by
    have h1 := textC_len hv k (by omega)
    have h2 := numsT_len (hv.small2 (i := k) (by omega))
    have h3 := (hv.rows k (by omega)).len
    have h4 := hv.s1
    rw [textC_succ, List.length_append, List.length_append, lineC, List.length_append, Nat.succ_mul]
    simp only [wFrom, List.length_cons, List.length_nil] at h2 ⊢
    omega
def lineM (k : Int) (xs : List Int) : List UInt8 := (wMap ++ numsT [k]) ++ ([32, 58] ++ numsT xs)
def linesM (st tot : Int) (ks : List Int) (xss : List (List Int)) (k : Nat) : List (List UInt8) := (wMaps ++ numsT [st, tot]) :: tab k fun i => lineM (ks.getD i 0) (xss.getD i [])
def textM (st tot : Int) (ks : List Int) (xss : List (List Int)) (k : Nat) : List UInt8 := textOf (linesM st tot ks xss k)
theorem textM_0 (st tot : Int) (ks : List Int) (xss : List (List Int)) : textM st tot ks xss 0 = (wMaps ++ numsT [st, tot]) ++ [10] := by simp [textM, linesM, tab, textOf]
theorem textM_succ (st tot : Int) (ks : List Int) (xss : List (List Int)) (k : Nat) : textM st tot ks xss (k + 1) = textM st tot ks xss k ++ (lineM (ks.getD k 0) (xss.getD k []) ++ [10]) := by
  unfold textM linesM
  rw [tab_succ, ← List.cons_append, textOf_snoc, List.append_assoc]
theorem small2_one {x : Int} (h : 0 ≤ x ∧ x < 100) : Small2 [x] := by
  intro y hy; simp at hy; subst hy; exact h
theorem textM_len {st tot : Int} {ks : List Int} {xss : List (List Int)} (hv : ValidM st tot ks xss) : ∀ k, k ≤ xss.length → (textM st tot ks xss k).length ≤ 12 + k * 28
  | 0, _ => by
    have := numsT_len hv.head2
    rw [textM_0]; simp [wMaps] at this ⊢; omega
  | k + 1, hk => by
    have h1 := textM_len hv k (by omega)
    have h2 := numsT_len (hv.small2 (i := k) (by omega))
    have h3 := hv.rlen k (by omega)
    have h4 := hv.s1
    have h5 := numsT_len (small2_one (hv.key2 (i := k) (by omega)))
    rw [textM_succ, List.length_append, List.length_append, lineM, List.length_append, List.length_append, List.length_append, Nat.succ_mul]
    simp only [wMap, List.length_cons, List.length_nil] at h2 h5 ⊢
    omega
end Go.Proofs.Ytgeidbjcphjbiaa
