/- Contracts: paths. -/
import Derived.Test.YthjoflgplbpeiaaF20
namespace Go.Eng
open Go.RowKit
set_option linter.unusedVariables false
/-- 's[:i]'. -/
def preV : Value → Nat → Value
  | .slice a _ c, i => .slice a i c
  | v, _ => v
theorem addr_add0 (a : Addr) : a.add 0 = a := by unfold Addr.add; split <;> simp_all
theorem preV_ok {v : Value} {n i : Nat} (h : SlOk v n) (hi : i ≤ n) : SlOk (preV v i) i := by
  unfold SlOk at h ⊢
  obtain ⟨a, c, rfl, h1, h2, h3⟩ := h
  exact ⟨a, c, rfl, by omega, h2, fun e => h3 (by omega)⟩
theorem preV_at {v : Value} {n i : Nat} (h : SlOk v n) (j : Nat) : vAt (preV v i) j = vAt v j := by
  unfold SlOk at h
  obtain ⟨a, c, rfl, h1, h2, h3⟩ := h
  cases a <;> rfl
theorem q_pre {P : Program} {N : Nat} {env : Env} {w0 : World} {rs : List Res} {dst : Option Nat} {ty : TypeId} {pos : String} {after : Array Edge} {gd : Option (Nat × Bool)} {x y : Operand} {v : Value} {t e bb sz : Nat} {z : Value} [hT : Slc P t e sz bb z] {n i : Nat} {k : IntKind}
    (hx : env.ev x = some v) (hy : env.ev y = some (.int k (i : Int))) (hs' : SlOk v n) (hi : i ≤ n) : QO P N env w0 rs ⟨dst, .slice t x none (some y) none, ty, pos, after, gd⟩ (preV v i) := qo_val fun a hs w _ => by
  obtain ⟨j, hj, hsz, _, hz⟩ := hT.info
  unfold SlOk at hs'
  obtain ⟨a0, c, rfl, h1, h2, h3⟩ := hs'
  have hx' := hs.ev hx
  have hy' := hs.ev hy
  have hb : (i : Int) ≤ (c : Int) := by omega
  have hadd : a0.map (fun p => p.add 0) = a0 := by cases a0 <;> simp [addr_add0]
  have hsl : (Instr.slice t (.slice a0 n c) none (some (.int k (i : Int))) none).run P w = .ok (.slice a0 i c) w := by
    simp [Instr.slice, run_underlying hT.und, Instr.sliceBounds, Instr.sliceBound, asIntOf, sizeOf, typeInfo, hj, hsz, hb, hadd]
    all_goals (try (intros; omega))
  have hsa : (Instr.sliceAt t (.slice a0 n c) none (some (.int k (i : Int))) none).run P w = .ok (.slice a0 i c) w := by
    simp [Instr.sliceAt, run_underlying hT.und, hsl]
  simp [execOp, hx', hy', hsa, preV]
theorem RdE.pre {α : Type} {enc : α → Value} {d : α} {w : World} {v : Value} {xs : List α} (h : RdE enc d w v xs) {i : Nat} (hi : i ≤ xs.length) : RdE enc d w (preV v i) (xs.take i) := by
  refine ⟨?_, fun j hj => ?_⟩
  · rw [List.length_take, Nat.min_eq_left hi]; exact preV_ok h.sl hi
  · rw [List.length_take, Nat.min_eq_left hi] at hj
    rw [preV_at h.sl, h.get j (by omega)]
    simp [List.getD_eq_getElem?_getD, List.getElem?_take, hj]
end Go.Eng
namespace Go.Proofs.Ythjoflgplbpeiaa
open Go.Eng Go.RowKit
set_option linter.unusedVariables false


/-- Step i of a path is sound. -/
structure PathAt (st : Int) (xss : List (List Int)) (ps : List Int) (i : Nat) : Prop where
  rng : 0 ≤ ps.getD i 0 ∧ ps.getD i 0 ≤ st - 1
  new : ps.getD i 0 ∉ ps.take i
  hop : 0 < i → cAt xss (ps.getD (i - 1) 0).toNat (ps.getD i 0).toNat ≠ 0
structure PathL (st : Int) (xss : List (List Int)) (ps : List Int) : Prop where
  pos : ps.length ≠ 0
  len : (ps.length : Int) ≤ st
  all : ∀ i, i < ps.length → PathAt st xss ps i
noncomputable instance (st : Int) (xss : List (List Int)) (ps : List Int) : Decidable (PathL st xss ps) := Classical.propDecidable _


theorem mem_take_getD {ps : List Int} {i : Nat} {x : Int} (h : x ∈ ps.take i) : ∃ k, k < i ∧ ps.getD k 0 = x := by
  obtain ⟨j, hj, he⟩ := mem_getD h
  rw [List.length_take] at hj
  have hji : j < i := by omega
  refine ⟨j, hji, ?_⟩
  rw [← he, List.getD_eq_getElem?_getD, List.getD_eq_getElem?_getD, List.getElem?_take, if_pos hji]
theorem getD_take_mem {ps : List Int} {i k : Nat} (hk : k < i) (hl : k < ps.length) : ps.getD k 0 ∈ ps.take i := by
  have h := getD_mem (xs := ps.take i) (i := k) (by rw [List.length_take]; omega)
  rwa [List.getD_eq_getElem?_getD, List.getElem?_take, if_pos hk, ← List.getD_eq_getElem?_getD] at h
structure PArgs (st : Int) (ps : List Int) : Prop where
  len : 1 ≤ (ps.length : Int) ∧ (ps.length : Int) ≤ st
  rng : ∀ i, i < ps.length → 0 ≤ ps.getD i 0 ∧ ps.getD i 0 ≤ st - 1
noncomputable instance (st : Int) (ps : List Int) : Decidable (PArgs st ps) := Classical.propDecidable _
def AllAt (st : Int) (xss : List (List Int)) (ps : List Int) : Prop := ∀ i, i < ps.length → PathAt st xss ps i
noncomputable instance (st : Int) (xss : List (List Int)) (ps : List Int) : Decidable (AllAt st xss ps) := Classical.propDecidable _
def ipP (st tot : Int) (xss : List (List Int)) (ps : List Int) : Prop := Valid st tot xss ∧ PArgs st ps ∧ conB xss ∧ PathL st xss ps
noncomputable instance (st tot : Int) (xss : List (List Int)) (ps : List Int) : Decidable (ipP st tot xss ps) := Classical.propDecidable _
noncomputable def ipC (st tot : Int) (xss : List (List Int)) (ps : List Int) : Int := if Valid st tot xss then if PArgs st ps then if conB xss then 0 else 4 else 2 else 1
theorem ip_no {st tot : Int} {xss : List (List Int)} {ps : List Int} (h : ¬ ipP st tot xss ps) {c : Int} (hc : ipC st tot xss ps = c) : Ending.returned (.tuple #[.bool false, .int .i64 c]) = Ending.returned (.tuple #[.bool (decide (ipP st tot xss ps)), .int .i64 (ipC st tot xss ps)]) := by rw [decide_eq_false h, hc]
end Go.Proofs.Ythjoflgplbpeiaa
