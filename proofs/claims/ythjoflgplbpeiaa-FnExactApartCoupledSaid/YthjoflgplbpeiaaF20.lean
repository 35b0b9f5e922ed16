/- Contracts: closed classes; chains that are connected. -/
import Derived.Test.YthjoflgplbpeiaaF19
namespace Go.Proofs.Ythjoflgplbpeiaa
open Go.Eng Go.RowKit
set_option linter.unusedVariables false

/-- Lists of numbers. -/
def Out2 (e1 e2 : TypeId) (xss : List (List Int)) (v : Value) (rs : List Res) : Prop := ∃ vs : List Value, rs = [rRows e1 e2 (Value.int .i64) v vs xss] ∧ vs.length = xss.length ∧ SlOk v xss.length
noncomputable def rS (xss : List (List Int)) (s : Nat) : List Int := filt xss.length (rB xss s)
def clP (xss : List (List Int)) (s : Nat) : Prop := (rS xss s).getD 0 0 = (s : Int) ∧ ∀ x ∈ rS xss s, rB xss x.toNat s = true
noncomputable def clL (xss : List (List Int)) : Nat → List (List Int)
  | 0 => []
  | k + 1 => clL xss k ++ @ite _ (clP xss k) (Classical.propDecidable _) [rS xss k] []
theorem clL_yes {xss : List (List Int)} {k : Nat} (h : clP xss k) : clL xss (k + 1) = clL xss k ++ [rS xss k] := by rw [clL, if_pos h]
theorem clL_no {xss : List (List Int)} {k : Nat} (h : ¬ clP xss k) : clL xss (k + 1) = clL xss k := by rw [clL, if_neg h, List.append_nil]
theorem clL_len (xss : List (List Int)) : ∀ k, (clL xss k).length ≤ k
  | 0 => by simp [clL]
  | k + 1 => by
    have := clL_len xss k
    by_cases h : clP xss k
    · rw [clL_yes h]; simp; omega
    · rw [clL_no h]; omega
theorem rS_pos {xss : List (List Int)} {s : Nat} (hs : s < xss.length) : 0 < (rS xss s).length :=
  List.length_pos_of_mem (nat_mem_filt.2 ⟨hs, rB_iff.2 .refl⟩)
theorem rS_len (xss : List (List Int)) (s : Nat) : (rS xss s).length ≤ xss.length := filt_len _ _

theorem dec_int {p q : Prop} {dp : Decidable p} {dq : Decidable q} (h : p ↔ q) : Ending.returned (Value.bool (@decide p dp)) = Ending.returned (Value.bool (@decide q dq)) := by
  have := dec_congr (dp := dp) (dq := dq) h
  simp only [Option.some.injEq] at this
  rw [this]
def conB (xss : List (List Int)) : Prop := (clL xss xss.length).length = 1 ∧ ((clL xss xss.length).getD 0 []).length = xss.length
noncomputable instance (xss : List (List Int)) : Decidable (conB xss) := Classical.propDecidable _
def clI (xss : List (List Int)) (k i : Nat) : Prop := (rS xss k).getD 0 0 = (k : Int) ∧ ∀ j, j < i → rB xss ((rS xss k).getD j 0).toNat k = true
noncomputable instance (xss : List (List Int)) (k i : Nat) : Decidable (clI xss k i) := Classical.propDecidable _
noncomputable def isConV (st tot : Int) (xss : List (List Int)) : Prop := Valid st tot xss ∧ conB xss
noncomputable instance (st tot : Int) (xss : List (List Int)) : Decidable (isConV st tot xss) := Classical.propDecidable _
noncomputable def vC (st tot : Int) (xss : List (List Int)) : Int := if Valid st tot xss then 0 else 1
noncomputable def cloXss (st tot : Int) (xss : List (List Int)) : List (List Int) := if Valid st tot xss then clL xss xss.length else []
theorem clL_rows (xss : List (List Int)) : ∀ k, ∀ ys ∈ clL xss k, ys.length ≤ xss.length
  | 0, ys, h => by simp [clL] at h
  | k + 1, ys, h => by
    by_cases hc : clP xss k
    · rw [clL_yes hc] at h
      rcases List.mem_append.1 h with e | e
      · exact clL_rows xss k ys e
      · simp at e; subst e; exact rS_len xss k
    · rw [clL_no hc] at h; exact clL_rows xss k ys h
theorem cloXss_small (st tot : Int) (xss : List (List Int)) : Small (cloXss st tot xss) := by
  unfold cloXss
  split
  · rename_i hv
    have h1 := clL_len xss xss.length
    have h2 := hv.nat
    refine ⟨by omega, fun i hi => ?_⟩
    have := clL_rows xss xss.length _ (by rw [getD_lt _ _ _ hi]; exact List.getElem_mem hi : (clL xss xss.length).getD i [] ∈ _)
    omega
  · exact ⟨by simp, by simp⟩
end Go.Proofs.Ythjoflgplbpeiaa
