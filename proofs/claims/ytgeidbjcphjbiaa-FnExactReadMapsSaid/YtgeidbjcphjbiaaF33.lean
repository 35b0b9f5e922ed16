/- Contracts: the chain of maps; whether maps are those of a chain. -/
import Derived.Test.YtgeidbjcphjbiaaF29
import Derived.Test.YtgeidbjcphjbiaaF13
namespace Go.Eng
open Go.RowKit
/-- Reading an element of a slice of slices of the call's own. -/
theorem ld_rows2 {α : Type} {w0 : World} {rs : List Res} (i : Nat) {e1 e2 : TypeId} {enc : α → Value} {v : Value} {vs : List Value} {xss : List (List α)} (d : α) (hi : rs[i]? = some (rRows e1 e2 enc v vs xss)) (hl : vs.length = xss.length) {k j : Nat} (hk : k < xss.length) (hj : j < (xss.getD k []).length) :
    Ld w0 rs (vAt (vs.getD k undef) j) (enc ((xss.getD k []).getD j d)) :=
  ld_res i hi fun w h => ((rRows.rd d hl h).row k hk).get j hj
end Go.Eng
namespace Go.Proofs.Ytgeidbjcphjbiaa
open Go.Eng Go.RowKit
set_option linter.unusedVariables false

/-- The weight with which the first k maps lead s to t. -/
def cmF (ks : List Int) (xss : List (List Int)) (k s t : Nat) : Int := (tab k fun i => if mAt xss i s = (t : Int) then ks.getD i 0 else 0).sum
theorem cmF_succ (ks : List Int) (xss : List (List Int)) (k s t : Nat) : cmF ks xss (k + 1) s t = cmF ks xss k s t + (if mAt xss k s = (t : Int) then ks.getD k 0 else 0) := tsum_succ _ _
theorem cmF_bd {st tot : Int} {ks : List Int} {xss : List (List Int)} (hv : ValidM st tot ks xss) (k s t : Nat) (hk : k ≤ xss.length) : 0 ≤ cmF ks xss k s t ∧ cmF ks xss k s t ≤ 3600 := by
  have h1 : ∀ i, i < k → 0 ≤ (if mAt xss i s = (t : Int) then ks.getD i 0 else 0) ∧ (if mAt xss i s = (t : Int) then ks.getD i 0 else 0) ≤ 60 := fun i hi => by
    have := hv.key i (by omega)
    have := hv.t1
    split <;> omega
  have h2 := tsum_nonneg k _ (fun i hi => (h1 i hi).1)
  have h3 := tsum_le k _ 60 (fun i hi => (h1 i hi).2)
  have := hv.len
  unfold cmF
  omega
/-- A row of the chain while it is summed. -/
def cmR (ks : List Int) (xss : List (List Int)) (n s k : Nat) : List Int := tab n fun t => cmF ks xss k s t
theorem cmR_length (ks : List Int) (xss : List (List Int)) (n s k : Nat) : (cmR ks xss n s k).length = n := tab_length _ _
theorem cmR_set (ks : List Int) (xss : List (List Int)) (n s k a : Nat) (ha : mAt xss k s = (a : Int)) : (cmR ks xss n s k).set a (cmF ks xss k s a + ks.getD k 0) = cmR ks xss n s (k + 1) := by
  unfold cmR
  rw [tab_set]
  refine tab_congr _ _ _ fun t ht => ?_
  rw [cmF_succ, ha]
  by_cases e : t = a
  · subst e; simp
  · rw [if_neg e, if_neg (by omega)]; simp
theorem cmR_0 (ks : List Int) (xss : List (List Int)) (n s : Nat) : cmR ks xss n s 0 = tab n fun _ => (0 : Int) := tab_congr _ _ _ fun t _ => by simp [cmF, tab]

noncomputable def comM (st tot : Int) (ks : List Int) (xss : List (List Int)) : ChM := if ValidM st tot ks xss then ⟨st, tot, mat st.toNat (cmF ks xss xss.length), 0⟩ else mErr 1
theorem comM_small (st tot : Int) (ks : List Int) (xss : List (List Int)) : Small (comM st tot ks xss).xss := by
  unfold comM
  split
  · rename_i h
    have := h.s1
    exact mat_small _ (by omega) _
  · exact ⟨by simp [mErr], fun i hi => by simp [mErr] at hi⟩
/-- The weights of a chain are those of maps. -/
def amP (tot : Int) (xss : List (List Int)) (tot1 : Int) (ks : List Int) (yss : List (List Int)) : Prop := ∀ s, s < xss.length → ∀ t, t < xss.length → cAt xss s t * tot1 = cmF ks yss yss.length s t * tot
noncomputable def armP (st tot : Int) (xss : List (List Int)) (st1 tot1 : Int) (ks : List Int) (yss : List (List Int)) : Prop := (Valid st tot xss ∧ ValidM st1 tot1 ks yss) ∧ st = st1 ∧ amP tot xss tot1 ks yss
noncomputable instance (st tot : Int) (xss : List (List Int)) (st1 tot1 : Int) (ks : List Int) (yss : List (List Int)) : Decidable (armP st tot xss st1 tot1 ks yss) := Classical.propDecidable _
noncomputable def armC (st tot : Int) (xss : List (List Int)) (st1 tot1 : Int) (ks : List Int) (yss : List (List Int)) : Int := if Valid st tot xss ∧ ValidM st1 tot1 ks yss then 0 else 1
end Go.Proofs.Ytgeidbjcphjbiaa
