/- What is reached in a chain: plain law. -/
import Derived.Test.YtgeidbjcphjbiaaF17
namespace Go.Proofs.Ytgeidbjcphjbiaa
open Go.Eng
set_option linter.unusedVariables false

inductive Rch (E : Nat → Nat → Prop) (s : Nat) : Nat → Prop
  | refl : Rch E s s
  | step {i j : Nat} : Rch E s i → E i j → Rch E s j
def edge (xss : List (List Int)) (i j : Nat) : Prop := i < xss.length ∧ j < xss.length ∧ 0 < cAt xss i j
noncomputable def rB (xss : List (List Int)) (s t : Nat) : Bool := @decide (Rch (edge xss) s t) (Classical.propDecidable _)
theorem rB_iff {xss : List (List Int)} {s t : Nat} : rB xss s t = true ↔ Rch (edge xss) s t := by unfold rB; simp
theorem Rch.lt {xss : List (List Int)} {s t : Nat} (hs : s < xss.length) (h : Rch (edge xss) s t) : t < xss.length := by
  cases h with
  | refl => exact hs
  | step _ e => exact e.2.1
theorem Rch.trans {E : Nat → Nat → Prop} {s t u : Nat} (h : Rch E s t) (h' : Rch E t u) : Rch E s u := by
  induction h' with
  | refl => exact h
  | step _ e ih => exact .step ih e

/-! ### Ascending lists -/
def filt (n : Nat) (p : Nat → Bool) : List Int := ((List.range n).filter p).map fun k : Nat => (k : Int)
theorem filt_succ (n : Nat) (p : Nat → Bool) : filt (n + 1) p = filt n p ++ (if p n = true then [(n : Int)] else []) := by
  unfold filt
  rw [List.range_succ, List.filter_append, List.map_append]
  congr 1
  by_cases h : p n = true <;> simp [h]
theorem filt_congr (n : Nat) (p q : Nat → Bool) (h : ∀ i, i < n → p i = q i) : filt n p = filt n q := by
  unfold filt
  congr 1
  exact List.filter_congr fun x hx => h x (List.mem_range.1 hx)
theorem mem_filt {n : Nat} {p : Nat → Bool} {x : Int} : x ∈ filt n p ↔ ∃ k : Nat, k < n ∧ p k = true ∧ x = (k : Int) := by
  unfold filt
  simp only [List.mem_map, List.mem_filter, List.mem_range]
  constructor
  · rintro ⟨k, ⟨h1, h2⟩, h3⟩; exact ⟨k, h1, h2, h3.symm⟩
  · rintro ⟨k, h1, h2, h3⟩; exact ⟨k, ⟨h1, h2⟩, h3.symm⟩
theorem nat_mem_filt {n : Nat} {p : Nat → Bool} {k : Nat} : (k : Int) ∈ filt n p ↔ k < n ∧ p k = true := by
  rw [mem_filt]
  constructor
  · rintro ⟨j, h1, h2, h3⟩
    obtain rfl : k = j := by omega
    exact ⟨h1, h2⟩
  · rintro ⟨h1, h2⟩; exact ⟨k, h1, h2, rfl⟩
theorem filt_asc (n : Nat) (p : Nat → Bool) : (filt n p).Pairwise (· < ·) := by
  unfold filt
  rw [List.pairwise_map]
  exact (List.pairwise_lt_range.filter p).imp fun h => by omega
theorem filt_len (n : Nat) (p : Nat → Bool) : (filt n p).length ≤ n := by
  unfold filt
  rw [List.length_map]
  have := List.length_filter_le p (List.range n)
  simpa using this
theorem asc_ext : ∀ (xs ys : List Int), xs.Pairwise (· < ·) → ys.Pairwise (· < ·) → (∀ x, x ∈ xs ↔ x ∈ ys) → xs = ys
  | [], [], _, _, _ => rfl
  | [], y :: ys, _, _, h => by have := (h y).2 (by simp); simp at this
  | x :: xs, [], _, _, h => by have := (h x).1 (by simp); simp at this
  | x :: xs, y :: ys, hx, hy, h => by
    have hx' := List.pairwise_cons.1 hx
    have hy' := List.pairwise_cons.1 hy
    have e : x = y := by
      have h1 := (h x).1 (by simp)
      have h2 := (h y).2 (by simp)
      rcases List.mem_cons.1 h1 with e | e
      · exact e
      · rcases List.mem_cons.1 h2 with e' | e'
        · exact e'.symm
        · have := hx'.1 y e'; have := hy'.1 x e; omega
    subst e
    rw [asc_ext xs ys hx'.2 hy'.2 fun z => ?_]
    constructor
    · intro hz
      rcases List.mem_cons.1 ((h z).1 (List.mem_cons_of_mem _ hz)) with e | e
      · subst e; have := hx'.1 z hz; omega
      · exact e
    · intro hz
      rcases List.mem_cons.1 ((h z).2 (List.mem_cons_of_mem _ hz)) with e | e
      · subst e; have := hy'.1 z hz; omega
      · exact e
/-- x put into an ascending list. -/
def putL (x : Int) : List Int → List Int
  | [] => [x]
  | a :: xs => if x ≤ a then (if x < a then x :: a :: xs else a :: xs) else a :: putL x xs
theorem mem_putL {x y : Int} : ∀ {xs : List Int}, y ∈ putL x xs ↔ y = x ∨ y ∈ xs
  | [] => by simp [putL]
  | a :: xs => by
    unfold putL
    split
    · split
      · simp
      · have : x = a := by omega
        subst this; simp
    · simp only [List.mem_cons, mem_putL (xs := xs)]
      constructor
      · rintro (h | h | h)
        · exact .inr (.inl h)
        · exact .inl h
        · exact .inr (.inr h)
      · rintro (h | h | h)
        · exact .inr (.inl h)
        · exact .inl h
        · exact .inr (.inr h)
theorem putL_asc {x : Int} : ∀ {xs : List Int}, xs.Pairwise (· < ·) → (putL x xs).Pairwise (· < ·)
  | [], _ => by simp [putL]
  | a :: xs, h => by
    have h' := List.pairwise_cons.1 h
    unfold putL
    split
    · split
      · refine List.pairwise_cons.2 ⟨fun y hy => ?_, h⟩
        rcases List.mem_cons.1 hy with e | e
        · omega
        · have := h'.1 y e; omega
      · exact h
    · refine List.pairwise_cons.2 ⟨fun y hy => ?_, putL_asc h'.2⟩
      rcases mem_putL.1 hy with e | e
      · omega
      · exact h'.1 y e
theorem putL_filt {n t : Nat} (ht : t < n) (p q : Nat → Bool) (h : ∀ i, i < n → (q i = true ↔ i = t ∨ p i = true)) : putL (t : Int) (filt n p) = filt n q := by
  refine asc_ext _ _ (putL_asc (filt_asc n p)) (filt_asc n q) fun x => ?_
  rw [mem_putL, mem_filt, mem_filt]
  constructor
  · rintro (e | ⟨k, h1, h2, h3⟩)
    · exact ⟨t, ht, (h t ht).2 (.inl rfl), e⟩
    · exact ⟨k, h1, (h k h1).2 (.inr h2), h3⟩
  · rintro ⟨k, h1, h2, h3⟩
    rcases (h k h1).1 h2 with e | e
    · left; rw [h3, e]
    · exact .inr ⟨k, h1, e, h3⟩

/-! ### The search -/
theorem nodup_le : ∀ (L xs : List Nat), L.Nodup → (∀ x ∈ L, x ∈ xs) → L.length ≤ xs.length
  | [], _, _, _ => Nat.zero_le _
  | a :: L, xs, hn, hs => by
    have ha := hs a (by simp)
    have hn' := List.nodup_cons.1 hn
    have hle := List.length_erase_of_mem ha
    have hpos := List.length_pos_of_mem ha
    have ih := nodup_le L (xs.erase a) hn'.2 (fun x hx => (List.mem_erase_of_ne (fun e => hn'.1 (by rw [← e]; exact hx))).2 (hs x (by simp [hx])))
    simp only [List.length_cons]
    omega
structure Found (xss : List (List Int)) (s : Nat) (L : List Nat) (i : Nat) : Prop where
  nd : L.Nodup
  reach : ∀ x ∈ L, Rch (edge xss) s x
  start : s ∈ L
  le : i ≤ L.length
  done : ∀ k, k < i → ∀ t, edge xss (L.getD k 0) t → t ∈ L
theorem Found.init {xss : List (List Int)} {s : Nat} : Found xss s [s] 0 := ⟨by simp, by simp; exact .refl, by simp, Nat.zero_le _, by omega⟩
theorem Found.lt {xss : List (List Int)} {s i : Nat} {L : List Nat} (h : Found xss s L i) (hs : s < xss.length) {x : Nat} (hx : x ∈ L) : x < xss.length := Rch.lt hs (h.reach x hx)
theorem Found.len {xss : List (List Int)} {s i : Nat} {L : List Nat} (h : Found xss s L i) (hs : s < xss.length) : L.length ≤ xss.length := by
  have := nodup_le L (List.range xss.length) h.nd (fun x hx => List.mem_range.2 (h.lt hs hx))
  simpa using this
theorem getD_append {L M : List Nat} {k : Nat} (h : k < L.length) : (L ++ M).getD k 0 = L.getD k 0 := by
  rw [List.getD_eq_getElem?_getD, List.getD_eq_getElem?_getD, List.getElem?_append_left h]
theorem nget_mem {L : List Nat} {k : Nat} (h : k < L.length) : L.getD k 0 ∈ L := by rw [getD_lt _ _ _ h]; exact List.getElem_mem h
theorem Found.add {xss : List (List Int)} {s i t : Nat} {L : List Nat} (h : Found xss s L i) (hi : i < L.length) (he : edge xss (L.getD i 0) t) (ht : t ∉ L) : Found xss s (L ++ [t]) i := by
  refine ⟨?_, fun x hx => ?_, by simp [h.start], by simp; omega, fun k hk u hu => ?_⟩
  · rw [List.nodup_append]
    refine ⟨h.nd, by simp, fun a ha b hb => ?_⟩
    simp at hb; subst hb
    rintro rfl; exact ht ha
  · rcases List.mem_append.1 hx with e | e
    · exact h.reach x e
    · simp at e; subst e
      exact .step (h.reach _ (nget_mem hi)) he
  · rw [getD_append (by omega)] at hu
    exact List.mem_append.2 (.inl (h.done k hk u hu))
theorem Found.next {xss : List (List Int)} {s i : Nat} {L : List Nat} (h : Found xss s L i) (hi : i < L.length) (hc : ∀ t, edge xss (L.getD i 0) t → t ∈ L) : Found xss s L (i + 1) :=
  ⟨h.nd, h.reach, h.start, hi, fun k hk t ht => by
    by_cases e : k = i
    · subst e; exact hc t ht
    · exact h.done k (by omega) t ht⟩
theorem Found.all {xss : List (List Int)} {s i : Nat} {L : List Nat} (h : Found xss s L i) (hi : L.length ≤ i) (t : Nat) : decide (t ∈ L) = rB xss s t := by
  have : t ∈ L ↔ rB xss s t = true := by
    rw [rB_iff]
    refine ⟨h.reach t, fun hr => ?_⟩
    induction hr with
    | refl => exact h.start
    | step _ e ih =>
      obtain ⟨k, hk, hk'⟩ := List.mem_iff_getElem.1 ih
      refine h.done k (by have := h.le; omega) _ ?_
      rw [getD_lt _ _ _ hk, hk']; exact e
  rw [Bool.eq_iff_iff, decide_eq_true_eq]; exact this
end Go.Proofs.Ytgeidbjcphjbiaa
