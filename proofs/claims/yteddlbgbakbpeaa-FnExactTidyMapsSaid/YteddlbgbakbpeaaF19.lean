/- Contracts: what is reached, by the book; CanReach. -/
import Derived.Test.YteddlbgbakbpeaaF18
namespace Go.Proofs.Yteddlbgbakbpeaa
open Go.Eng Go.RowKit
set_option linter.unusedVariables false

theorem filt_one {n s : Nat} (hs : s < n) : filt n (fun j => decide (j ∈ [s])) = [(s : Int)] := by
  have h1 := putL_filt hs (fun _ => false) (fun j => decide (j ∈ [s])) (fun i _ => by simp)
  have h2 : filt n (fun _ => false) = [] := by unfold filt; simp
  rw [h2] at h1
  exact h1.symm
theorem filt_add {n t : Nat} (ht : t < n) (L : List Nat) : putL (t : Int) (filt n fun j => decide (j ∈ L)) = filt n fun j => decide (j ∈ L ++ [t]) :=
  putL_filt ht _ _ fun i _ => by simp; exact ⟨Or.symm, Or.symm⟩

noncomputable def stC (st tot : Int) (xss : List (List Int)) (xs : List Int) : Int := if Valid st tot xss then @ite _ (∀ i, i < xs.length → 0 ≤ xs.getD i 0 ∧ xs.getD i 0 ≤ st - 1) (Classical.propDecidable _) 0 2 else 1
theorem stC_1 {st tot : Int} {xss : List (List Int)} {a : Int} (hv : Valid st tot xss) : stC st tot xss [a] = if 0 ≤ a ∧ a ≤ st - 1 then 0 else 2 := by
  rw [stC, if_pos hv]
  by_cases h : 0 ≤ a ∧ a ≤ st - 1
  · rw [if_pos h, if_pos (fun i hi => by simp at hi; subst hi; exact h)]
  · rw [if_neg h, if_neg (fun e => h (e 0 (by simp)))]
noncomputable def canXs (st tot : Int) (xss : List (List Int)) (a : Int) : List Int := if stC st tot xss [a] = 0 then filt xss.length (rB xss a.toNat) else []
theorem stC_0 {st tot : Int} {xss : List (List Int)} {a : Int} (h : stC st tot xss [a] = 0) : Valid st tot xss ∧ ∃ s : Nat, s < xss.length ∧ a = (s : Int) := by
  by_cases hv : Valid st tot xss
  · rw [stC_1 hv] at h
    split at h
    · rename_i h1
      have := hv.len
      exact ⟨hv, a.toNat, by omega, by omega⟩
    · cases h
  · rw [stC, if_neg hv] at h; cases h
theorem canXs_small (st tot : Int) (xss : List (List Int)) (a : Int) : (canXs st tot xss a).length ≤ 1048576 := by
  unfold canXs
  split
  · rename_i h
    have := (stC_0 h).1.nat
    have := filt_len xss.length (rB xss a.toNat)
    omega
  · simp
end Go.Proofs.Yteddlbgbakbpeaa
