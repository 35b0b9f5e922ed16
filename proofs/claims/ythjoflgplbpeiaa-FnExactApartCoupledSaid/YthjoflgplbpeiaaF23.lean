/- Contracts: the period. -/
import Derived.Test.YthjoflgplbpeiaaPureP
namespace Go.Proofs.Ythjoflgplbpeiaa
open Go.Eng Go.RowKit
set_option linter.unusedVariables false


theorem rdN {w : World} {v : Value} {L : List Nat} (h : RdE eN 0 w v L) : RdE (Value.int .i64) 0 w v (L.map fun j : Nat => (j : Int)) := by
  refine ⟨by rw [List.length_map]; exact h.sl, fun j hj => ?_⟩
  rw [List.length_map] at hj
  rw [h.get j hj]
  simp [List.getD_eq_getElem?_getD, hj, eN]
/-- What the levels' array holds. -/
def lvl (S : Bs) (j : Nat) : Int := if j ∈ S.L then (S.D j : Int) else -1
theorem lvl_add {S : Bs} {q k : Nat} (j : Nat) (hk : k ∉ S.L) : (if j = k then (S.D q : Int) + 1 else lvl S j) = lvl ⟨S.L ++ [k], fun j => if j = k then S.D q + 1 else S.D j⟩ j := by
  unfold lvl
  by_cases e : j = k
  · subst e; simp
  · simp [e]
theorem lvl_init (n j : Nat) (h : j < n) : (if j = 0 then (0 : Int) else if j < n then -1 else 0) = lvl ⟨[0], fun _ => 0⟩ j := by
  unfold lvl
  by_cases e : j = 0 <;> simp [e, h]
theorem abs_max (a : Int) : (if 0 - a > a then 0 - a else a) = ((a.natAbs : Nat) : Int) := by split <;> omega
theorem conC_0 {st tot : Int} {xss : List (List Int)} (h : conC st tot xss = 0) : Valid st tot xss ∧ conB xss := by
  unfold conC at h
  split at h
  · rename_i hv
    split at h
    · rename_i hc; exact ⟨hv, hc⟩
    · cases h
  · cases h
theorem far_add {S : Bs} {q k : Nat} (j : Nat) : (if j = k then (S.D q : Int) + 1 else (S.D j : Int)) = ((if j = k then S.D q + 1 else S.D j : Nat) : Int) := by split <;> simp
end Go.Proofs.Ythjoflgplbpeiaa
