/- Regions whose ways meet again, where what is known there hangs on values that came up within; resources in another order. -/
import Derived.Test.YtgeidbjcphjbiaaLibS
namespace Go.Eng
open Go.RowKit
set_option linter.unusedVariables false

section
variable {P : Program} {N : Nat} {env : Env} {w0 : World} {rs : List Res} {Q : Exit → Act → World → Prop} {ops : Array Oper}

theorem Ret.tt {f : FuncId} {vs : List Value} {w : World} {p : Prop} {dp : Decidable p} (h : Ret P f vs w (.bool (@decide p dp))) (hp : p) : Ret P f vs w (.bool true) := by
  rwa [decide_eq_true hp] at h

/-- What is known where the ways meet, whatever s is. -/
def JoinedE {σ : Type} (N : Nat) (E : σ → Env) (w0 : World) (R : σ → List Res) (I : σ → Prop) (a : Act) (w : World) : Prop := ∃ s, I s ∧ Sat N (E s) a ∧ Mem w0 (R s) w
theorem hw_anyE {σ : Type} (E : σ → Env) (R : σ → List Res) (I : σ → Prop) {id : Nat} {l : List Oper} (hm : P.follows .mixedOrders = true) (h : HA P N env w0 rs l.toArray (Exit.then (JoinedE N E w0 R I) Q) l.length (Array.replicate l.length false))
    (k : ∀ s, I s → HX N (E s) w0 (R s) (Q .normal)) : HW P N env w0 rs (.region id l.toArray true) Q := by
  unfold HW
  unfold HA at h
  unfold HX at k
  intro a w hs hmem
  refine wp_mono (wp_region_any hm (by have h1 := h a _ hs (hmem.draw (w.drawn + 1)); rw [← List.size_toArray] at h1; exact h1)) ?_
  intro e a' w' hq
  cases e with
  | normal => obtain ⟨s, h1, h2, h3⟩ := hq; exact k s h1 a' w' h2 h3
  | _ => exact hq
theorem hx_joinE {σ : Type} {E : σ → Env} {R : σ → List Res} {I : σ → Prop} (s : σ) (hI : I s) (hle : env.le (E s)) (hm : ∀ w, Mem w0 rs w → Mem w0 (R s) w) : HX N env w0 rs (Exit.then (JoinedE N E w0 R I) Q .normal) := by
  unfold HX
  exact fun a w hs hmem => ⟨s, hI, hs.mono hle, hm w hmem⟩
theorem hw_regE {σ : Type} (E : σ → Env) (R : σ → List Res) (I : σ → Prop) {id : Nat} {l : List Oper} (h : HL P N env w0 rs l.toArray (Exit.then (JoinedE N E w0 R I) Q) l) (k : ∀ s, I s → HX N (E s) w0 (R s) (Q .normal)) : HW P N env w0 rs (.region id l.toArray false) Q := by
  unfold HW
  unfold HL at h
  unfold HX at k
  intro a w hs hmem
  refine wp_mono (wp_region_lit (h a w hs hmem)) ?_
  intro e a' w' hq
  cases e with
  | normal => obtain ⟨s, h1, h2, h3⟩ := hq; exact k s h1 a' w' h2 h3
  | _ => exact hq

/-- Some of the resources, in another order. -/
theorem Mem.pick {w : World} (idx : List Nat) {rs' : List Res} (h : Mem w0 rs w) (hn : idx.Nodup) (he : idx.map (fun i => rs[i]?) = rs'.map some) : Mem w0 rs' w := by
  have hl : idx.length = rs'.length := by simpa using congrArg List.length he
  refine h.weaken (fun i => idx.getD i 0) rs' (fun i j e hi hj => ?_) (fun i r hi => ?_)
  · have h1 : i < idx.length := by omega
    have h2 : j < idx.length := by omega
    simp only [List.getD, List.getElem?_eq_getElem h1, List.getElem?_eq_getElem h2, Option.getD_some] at e
    rcases Nat.lt_trichotomy i j with h3 | h3 | h3
    · exact absurd e (List.pairwise_iff_getElem.1 hn i j h1 h2 h3)
    · exact h3
    · exact absurd e.symm (List.pairwise_iff_getElem.1 hn j i h2 h1 h3)
  · have h1 : i < idx.length := by have := (List.getElem?_eq_some_iff.1 hi).1; omega
    have h2 := congrArg (fun l => l[i]?) he
    simp only [List.getElem?_map, hi, List.getElem?_eq_getElem h1, Option.map_some, Option.some.injEq] at h2
    simp only [List.getD, List.getElem?_eq_getElem h1, Option.getD_some]
    exact h2

theorem ha_3 (i j k : Nat) {o o' o'' : Oper} {fuel : Nat} {listed : Array Bool} (hr : Region.ready .any ops listed = [i, j, k]) (ho : ops[i]? = some o) (ho' : ops[j]? = some o') (ho'' : ops[k]? = some o'')
    (h : HL P N env w0 rs ops (Exit.then (fun a w => wpAny P .any ops Q fuel (listed.setIfInBounds i true) a w) Q) [o])
    (h' : HL P N env w0 rs ops (Exit.then (fun a w => wpAny P .any ops Q fuel (listed.setIfInBounds j true) a w) Q) [o'])
    (h'' : HL P N env w0 rs ops (Exit.then (fun a w => wpAny P .any ops Q fuel (listed.setIfInBounds k true) a w) Q) [o'']) : HA P N env w0 rs ops Q (fuel + 1) listed := by
  unfold HA
  unfold HL at h h' h''
  intro a w hs hm
  refine ⟨fun h0 => ?_, fun m hm' => ?_⟩
  · rw [hr] at h0; cases h0
  · rw [hr] at hm'
    simp at hm'
    rcases hm' with rfl | rfl | rfl
    · exact wpOp_one ho (h a w hs hm)
    · exact wpOp_one ho' (h' a w hs hm)
    · exact wpOp_one ho'' (h'' a w hs hm)
theorem ha_4 (i j k n : Nat) {o o' o'' o3 : Oper} {fuel : Nat} {listed : Array Bool} (hr : Region.ready .any ops listed = [i, j, k, n]) (ho : ops[i]? = some o) (ho' : ops[j]? = some o') (ho'' : ops[k]? = some o'') (ho3 : ops[n]? = some o3)
    (h : HL P N env w0 rs ops (Exit.then (fun a w => wpAny P .any ops Q fuel (listed.setIfInBounds i true) a w) Q) [o])
    (h' : HL P N env w0 rs ops (Exit.then (fun a w => wpAny P .any ops Q fuel (listed.setIfInBounds j true) a w) Q) [o'])
    (h'' : HL P N env w0 rs ops (Exit.then (fun a w => wpAny P .any ops Q fuel (listed.setIfInBounds k true) a w) Q) [o''])
    (h3 : HL P N env w0 rs ops (Exit.then (fun a w => wpAny P .any ops Q fuel (listed.setIfInBounds n true) a w) Q) [o3]) : HA P N env w0 rs ops Q (fuel + 1) listed := by
  unfold HA
  unfold HL at h h' h'' h3
  intro a w hs hm
  refine ⟨fun h0 => ?_, fun m hm' => ?_⟩
  · rw [hr] at h0; cases h0
  · rw [hr] at hm'
    simp at hm'
    rcases hm' with rfl | rfl | rfl | rfl
    · exact wpOp_one ho (h a w hs hm)
    · exact wpOp_one ho' (h' a w hs hm)
    · exact wpOp_one ho'' (h'' a w hs hm)
    · exact wpOp_one ho3 (h3 a w hs hm)
/-- What was known of the slots and of memory, told again in other words. -/
theorem ha_to {e : Env} {rs' : List Res} {fuel : Nat} {listed : Array Bool} (hle : env.le e) (hm : ∀ w, Mem w0 rs w → Mem w0 rs' w) (h : HA P N e w0 rs' ops Q fuel listed) : HA P N env w0 rs ops Q fuel listed := by
  unfold HA at h ⊢
  exact fun a w hs hmem => h a w (hs.mono hle) (hm w hmem)
end
end Go.Eng
