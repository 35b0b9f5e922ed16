/- Whether two surely meet: what two searches find, and a least set of pairs. -/
import Derived.Test.YtgeidbjcphjbiaaPureR
namespace Go.Proofs.Ytgeidbjcphjbiaa
open Go.Eng
set_option linter.unusedVariables false

/-- What a search along E has found. -/
structure FoundE (E : Nat → Nat → Prop) (s : Nat) (L : List Nat) (i : Nat) : Prop where
  nd : L.Nodup
  reach : ∀ x ∈ L, Rch E s x
  start : s ∈ L
  le : i ≤ L.length
  done : ∀ k, k < i → ∀ t, E (L.getD k 0) t → t ∈ L
theorem FoundE.init {E : Nat → Nat → Prop} {s : Nat} : FoundE E s [s] 0 := ⟨by simp, by simp; exact .refl, by simp, Nat.zero_le _, by omega⟩
theorem Rch.ltE {E : Nat → Nat → Prop} {N s t : Nat} (hE : ∀ i j, E i j → j < N) (hs : s < N) (h : Rch E s t) : t < N := by
  cases h with
  | refl => exact hs
  | step _ e => exact hE _ _ e
theorem FoundE.len {E : Nat → Nat → Prop} {N s i : Nat} {L : List Nat} (h : FoundE E s L i) (hE : ∀ i j, E i j → j < N) (hs : s < N) : L.length ≤ N := by
  have := nodup_le L (List.range N) h.nd (fun x hx => List.mem_range.2 (Rch.ltE hE hs (h.reach x hx)))
  simpa using this
theorem FoundE.add {E : Nat → Nat → Prop} {s i t : Nat} {L : List Nat} (h : FoundE E s L i) (hi : i < L.length) (he : E (L.getD i 0) t) (ht : t ∉ L) : FoundE E s (L ++ [t]) i := by
  refine ⟨?_, fun x hx => ?_, by simp [h.start], by simp; omega, fun k hk u hu => ?_⟩
  · rw [List.nodup_append]
    refine ⟨h.nd, by simp, fun a ha b hb => ?_⟩
    simp at hb; subst hb
    rintro rfl; exact ht ha
  · rcases List.mem_append.1 hx with e | e
    · exact h.reach x e
    · simp at e; subst e
      exact .step (h.reach _ (nget_mem hi)) he
  · rw [getD_append (by omega)] at hu
    exact List.mem_append.2 (.inl (h.done k hk u hu))
theorem FoundE.next {E : Nat → Nat → Prop} {s i : Nat} {L : List Nat} (h : FoundE E s L i) (hi : i < L.length) (hc : ∀ t, E (L.getD i 0) t → t ∈ L) : FoundE E s L (i + 1) :=
  ⟨h.nd, h.reach, h.start, hi, fun k hk t ht => by
    by_cases e : k = i
    · subst e; exact hc t ht
    · exact h.done k (by omega) t ht⟩
theorem FoundE.all {E : Nat → Nat → Prop} {s i : Nat} {L : List Nat} (h : FoundE E s L i) (hi : L.length ≤ i) (t : Nat) : t ∈ L ↔ Rch E s t := by
  refine ⟨h.reach t, fun hr => ?_⟩
  induction hr with
  | refl => exact h.start
  | step _ e ih =>
    obtain ⟨k, hk, hk'⟩ := List.mem_iff_getElem.1 ih
    refine h.done k (by have := h.le; omega) _ ?_
    rw [getD_lt _ _ _ hk, hk']; exact e

def Met (n j : Nat) : Prop := j / n = j % n
instance (n j : Nat) : Decidable (Met n j) := by unfold Met; infer_instance
/-- A step before they meet. -/
def E1 (n : Nat) (yss : List (List Int)) (i j : Nat) : Prop := ¬ Met n i ∧ i < yss.length ∧ j < yss.length ∧ 0 < cAt yss i j
/-- A step after which they have not met. -/
def E2 (n : Nat) (yss : List (List Int)) (i j : Nat) : Prop := i < yss.length ∧ j < yss.length ∧ 0 < cAt yss i j ∧ ¬ Met n j
theorem E1.lt {n : Nat} {yss : List (List Int)} (i j : Nat) (h : E1 n yss i j) : j < yss.length := h.2.2.1
theorem E2.lt {n : Nat} {yss : List (List Int)} (i j : Nat) (h : E2 n yss i j) : j < yss.length := h.2.1
def CanM (n : Nat) (yss : List (List Int)) (p : Nat) : Prop := ∃ q, Rch (E1 n yss) p q ∧ Met n q
def SureP (n : Nat) (yss : List (List Int)) (p : Nat) : Prop := ∀ o, Rch (E1 n yss) p o → CanM n yss o
noncomputable instance (n : Nat) (yss : List (List Int)) (p : Nat) : Decidable (CanM n yss p) := Classical.propDecidable _
noncomputable instance (n : Nat) (yss : List (List Int)) (p : Nat) : Decidable (SureP n yss p) := Classical.propDecidable _
theorem Rch.head {E : Nat → Nat → Prop} {s t u : Nat} (h : E s t) (h' : Rch E t u) : Rch E s u := Rch.trans (.step .refl h) h'
theorem sure_met {n : Nat} {yss : List (List Int)} {p : Nat} (h : Met n p) : SureP n yss p := fun o ho => by
  have : o = p := by
    induction ho with
    | refl => rfl
    | step _ e ih => subst ih; exact absurd h e.1
  subst this
  exact ⟨o, .refl, h⟩
theorem rch2_unmet {n : Nat} {yss : List (List Int)} {p q : Nat} (hp : ¬ Met n p) (h : Rch (E2 n yss) p q) : ¬ Met n q := by
  cases h with
  | refl => exact hp
  | step _ e => exact e.2.2.2
theorem rch2_rch1 {n : Nat} {yss : List (List Int)} {p q : Nat} (hp : ¬ Met n p) (h : Rch (E2 n yss) p q) : Rch (E1 n yss) p q := by
  induction h with
  | refl => exact .refl
  | step h e ih => exact .step ih ⟨rch2_unmet hp h, e.1, e.2.1, e.2.2.1⟩
theorem rch1_cases {n : Nat} {yss : List (List Int)} {p q : Nat} (hp : ¬ Met n p) (h : Rch (E1 n yss) p q) : Rch (E2 n yss) p q ∨ Met n q := by
  induction h with
  | refl => exact .inl .refl
  | @step i j h e ih =>
    rcases ih with ih | ih
    · rcases Classical.em (Met n j) with hj | hj
      · exact .inr hj
      · exact .inl (.step ih ⟨e.2.1, e.2.2.1, e.2.2.2, hj⟩)
    · exact absurd ih e.1
/-- A step from i to a pair that has met or lies in D. -/
def Goes (n : Nat) (yss : List (List Int)) (D : List Nat) (i j : Nat) : Prop := 0 < cAt yss i j ∧ (Met n j ∨ j ∈ D)
structure DoneE (n : Nat) (yss : List (List Int)) (O D : List Nat) : Prop where
  nd : D.Nodup
  sub : ∀ x ∈ D, x ∈ O
  can : ∀ x ∈ D, CanM n yss x
theorem DoneE.init (n : Nat) (yss : List (List Int)) (O : List Nat) : DoneE n yss O [] := ⟨by simp, by simp, by simp⟩
theorem DoneE.len {n : Nat} {yss : List (List Int)} {O D : List Nat} (h : DoneE n yss O D) : D.length ≤ O.length := nodup_le D O h.nd h.sub
theorem DoneE.add {n : Nat} {yss : List (List Int)} {O D : List Nat} (h : DoneE n yss O D) {i j : Nat} (hi : i ∈ O) (hn : i ∉ D) (hu : ¬ Met n i) (hil : i < yss.length) (hjl : j < yss.length) (hg : Goes n yss D i j) : DoneE n yss O (D ++ [i]) := by
  have he : E1 n yss i j := ⟨hu, hil, hjl, hg.1⟩
  have hcan : CanM n yss i := by
    rcases hg.2 with hm | hd
    · exact ⟨j, .step .refl he, hm⟩
    · obtain ⟨q, h1, h2⟩ := h.can j hd
      exact ⟨q, Rch.head he h1, h2⟩
  refine ⟨?_, fun x hx => ?_, fun x hx => ?_⟩
  · rw [List.nodup_append]
    refine ⟨h.nd, by simp, fun a ha b hb => ?_⟩
    simp at hb; subst hb
    rintro rfl; exact hn ha
  · rcases List.mem_append.1 hx with e | e
    · exact h.sub x e
    · simp at e; rw [e]; exact hi
  · rcases List.mem_append.1 hx with e | e
    · exact h.can x e
    · simp at e; rw [e]; exact hcan
/-- No pair that is left goes on. -/
def Stops (n : Nat) (yss : List (List Int)) (O D : List Nat) : Prop := ∀ i ∈ O, i ∉ D → ∀ j, j < yss.length → ¬ Goes n yss D i j
theorem sure_len {n : Nat} {yss : List (List Int)} {p : Nat} {O D : List Nat} (hp : ¬ Met n p) (hO : ∀ q, q ∈ O ↔ Rch (E2 n yss) p q) (hnd : O.Nodup) (hD : DoneE n yss O D) (hS : Stops n yss O D) : D.length = O.length ↔ SureP n yss p := by
  constructor
  · intro hl o ho
    have hall : ∀ x ∈ O, x ∈ D := fun x hx => Classical.byContradiction fun hn => by
      have := nodup_le (x :: D) O (List.nodup_cons.2 ⟨hn, hD.nd⟩) (fun y hy => by
        rcases List.mem_cons.1 hy with rfl | hy
        · exact hx
        · exact hD.sub y hy)
      simp at this; omega
    rcases rch1_cases hp ho with h | h
    · exact hD.can o (hall o ((hO o).2 h))
    · exact ⟨o, .refl, h⟩
  · intro hs
    have hall : ∀ x ∈ O, x ∈ D := fun x hx => Classical.byContradiction fun hn => by
      obtain ⟨q, h1, h2⟩ := hs x (rch2_rch1 hp ((hO x).1 hx))
      have key : ∀ q, Rch (E1 n yss) x q → q ∈ O ∧ q ∉ D := fun q hq => by
        induction hq with
        | refl => exact ⟨hx, hn⟩
        | @step i j h e ih =>
          have hno := hS i ih.1 ih.2 j e.2.2.1
          have h3 : ¬ Met n j := fun hm => hno ⟨e.2.2.2, .inl hm⟩
          have h4 : j ∉ D := fun hd => hno ⟨e.2.2.2, .inr hd⟩
          exact ⟨(hO j).2 (.step ((hO i).1 ih.1) ⟨e.2.1, e.2.2.1, e.2.2.2, h3⟩), h4⟩
      exact rch2_unmet hp ((hO q).1 (key q h1).1) h2
    have h1 := nodup_le O D hnd hall
    have h2 := hD.len
    omega
end Go.Proofs.Ytgeidbjcphjbiaa
