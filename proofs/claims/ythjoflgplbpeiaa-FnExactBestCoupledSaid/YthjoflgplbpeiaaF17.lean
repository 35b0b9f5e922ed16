/- Contracts: runs by draws; searches in lists. -/
import Derived.Test.YthjoflgplbpeiaaF16
namespace Go.Proofs.Ythjoflgplbpeiaa
open Go.Eng Go.RowKit
set_option linter.unusedVariables false

/-- The first place with a property, or -1. -/
def findI (p : Int → Bool) : List Int → Nat → Int
  | [], _ => -1
  | x :: xs, k => if p x = true then (k : Int) else findI p xs (k + 1)
theorem findI_step (p : Int → Bool) (xs : List Int) (k : Nat) (hk : k < xs.length) : findI p (xs.drop k) k = if p (xs.getD k 0) = true then (k : Int) else findI p (xs.drop (k + 1)) (k + 1) := by
  rw [List.drop_eq_getElem_cons hk, getD_lt _ _ _ hk]; rfl
theorem findI_end (p : Int → Bool) (xs : List Int) (k : Nat) (hk : xs.length ≤ k) : findI p (xs.drop k) k = -1 := by rw [List.drop_eq_nil_of_le hk]; rfl
theorem findI_ge (p : Int → Bool) : ∀ (xs : List Int) (k : Nat), 0 ≤ findI p xs k ↔ ∃ x ∈ xs, p x = true
  | [], k => by simp [findI]
  | x :: xs, k => by
    simp only [findI]
    split
    · rename_i h; first | (simp [h]; done) | (simp [h]; omega)
    · rename_i h; rw [findI_ge p xs (k + 1)]; simp [h]
theorem findI_le (p : Int → Bool) : ∀ (xs : List Int) (k : Nat), findI p xs k ≤ k + xs.length
  | [], k => by simp [findI] <;> omega
  | x :: xs, k => by
    simp only [findI]
    split
    · first | (simp; done) | (simp; omega)
    · have := findI_le p xs (k + 1); simp; omega

theorem dec_true {p : Prop} {dp : Decidable p} (h : p) : some (Value.bool true) = some (Value.bool (@decide p dp)) := by rw [decide_eq_true h]
theorem dec_false {p : Prop} {dp : Decidable p} (h : ¬ p) : some (Value.bool false) = some (Value.bool (@decide p dp)) := by rw [decide_eq_false h]
/-- In which state a run is. -/
def stAt (xss : List (List Int)) (s : Int) (ds : List Int) : Nat → Int
  | 0 => s
  | k + 1 => stepTo xss (stAt xss s ds k) (ds.getD k 0)
structure RunOk (st tot : Int) (s : Int) (ds : List Int) : Prop where
  s0 : 0 ≤ s ∧ s ≤ st - 1
  len : ds.length ≤ 200
  ds : ∀ i, i < ds.length → 0 ≤ ds.getD i 0 ∧ ds.getD i 0 ≤ tot - 1
noncomputable instance (st tot s : Int) (ds : List Int) : Decidable (RunOk st tot s ds) := Classical.propDecidable _
theorem stAt_ok {st tot s : Int} {xss : List (List Int)} {ds : List Int} (hv : Valid st tot xss) (h : RunOk st tot s ds) : ∀ k, k ≤ ds.length → 0 ≤ stAt xss s ds k ∧ stAt xss s ds k ≤ st - 1
  | 0, _ => h.s0
  | k + 1, hk => (stepTo_ok hv _ _ (stAt_ok hv h k (by omega)) (h.ds k (by omega))).2
noncomputable def runXs (st tot : Int) (xss : List (List Int)) (s : Int) (ds : List Int) : List Int := if Valid st tot xss ∧ RunOk st tot s ds then tab (ds.length + 1) (stAt xss s ds) else []
noncomputable def runC (st tot : Int) (xss : List (List Int)) (s : Int) (ds : List Int) : Int := if Valid st tot xss then if RunOk st tot s ds then 0 else 2 else 1
theorem runXs_small (st tot : Int) (xss : List (List Int)) (s : Int) (ds : List Int) : (runXs st tot xss s ds).length ≤ 1048576 := by
  unfold runXs
  split
  · rename_i h; have := h.2.len; rw [tab_length]; omega
  · simp
theorem lsErr (e : TypeId) (c : Int) {v : Value} {rs : List Res} (hv : SlOk v 0) (h : rs = [rE e (Value.int .i64) v []]) : LsOut e [] c (.tuple #[v, .int .i64 c]) rs := ⟨v, rfl, h, hv⟩

end Go.Proofs.Ythjoflgplbpeiaa
