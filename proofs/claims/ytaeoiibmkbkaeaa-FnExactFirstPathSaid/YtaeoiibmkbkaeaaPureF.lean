/- The first shortest path: plain law. -/
import Derived.Test.YtaeoiibmkbkaeaaF24
namespace Go.Proofs.Ytaeoiibmkbkaeaa
open Go.Eng Go.RowKit
set_option linter.unusedVariables false

/-! ### Distances to t -/
structure BI (xss : List (List Int)) (t i : Nat) (S : Bs) : Prop where
  nd : S.L.Nodup
  lt : ∀ x ∈ S.L, x < xss.length
  le : i ≤ S.L.length
  tin : t ∈ S.L
  t0 : S.D t = 0
  src : ∀ x ∈ S.L, x = t ∨ ∃ y ∈ S.L, edge xss x y ∧ S.D x = S.D y + 1
  mono : ∀ a b, a ≤ b → b < S.L.length → S.D (S.L.getD a 0) ≤ S.D (S.L.getD b 0)
  top : ∀ b, b < S.L.length → i < S.L.length → S.D (S.L.getD b 0) ≤ S.D (S.L.getD i 0) + 1
  done : ∀ k, k < i → ∀ u, edge xss u (S.L.getD k 0) → u ∈ S.L ∧ S.D u ≤ S.D (S.L.getD k 0) + 1
  bd : ∀ j, S.D j < S.L.length
theorem mem_getN {L : List Nat} {x : Nat} (h : x ∈ L) : ∃ i, i < L.length ∧ L.getD i 0 = x := by
  obtain ⟨i, hi, he⟩ := List.mem_iff_getElem.1 h
  exact ⟨i, hi, by rw [getD_lt _ _ _ hi]; exact he⟩
theorem BI.init {xss : List (List Int)} {t : Nat} (ht : t < xss.length) : BI xss t 0 ⟨[t], fun _ => 0⟩ :=
  ⟨by simp, by simpa using ht, by simp, by simp, rfl, by simp, by simp, by simp, by omega, by simp⟩
theorem BI.len {xss : List (List Int)} {t i : Nat} {S : Bs} (h : BI xss t i S) : S.L.length ≤ xss.length := by
  have := nodup_le S.L (List.range xss.length) h.nd (fun x hx => List.mem_range.2 (h.lt x hx))
  simpa using this
def addS (S : Bs) (q k : Nat) : Bs := ⟨S.L ++ [k], fun j => if j = k then S.D q + 1 else S.D j⟩
theorem getD_last {L : List Nat} {k : Nat} : (L ++ [k]).getD L.length 0 = k := by simp
theorem BI.add {xss : List (List Int)} {t i q k : Nat} {S : Bs} (h : BI xss t i S) (hi : i < S.L.length) (hq : S.L.getD i 0 = q) (he : edge xss k q) (hk : k ∉ S.L) : BI xss t i (addS S q k) := by
  have hne : ∀ b, b < S.L.length → S.L.getD b 0 ≠ k := fun b hb e => hk (e ▸ nget_mem hb)
  have hD : ∀ b, b < S.L.length → (addS S q k).D ((addS S q k).L.getD b 0) = S.D (S.L.getD b 0) := fun b hb => by
    simp only [addS]
    rw [getD_append hb, if_neg (hne b hb)]
  have hlast : (addS S q k).D ((addS S q k).L.getD S.L.length 0) = S.D q + 1 := by
    simp only [addS]
    rw [getD_last, if_pos rfl]
  have hl : (addS S q k).L.length = S.L.length + 1 := by simp [addS]
  have hqk : q ≠ k := hq ▸ hne i hi
  refine ⟨?_, fun x hx => ?_, by rw [hl]; omega, List.mem_append.2 (.inl h.tin), ?_, fun x hx => ?_, fun a b hab hb => ?_, fun b hb _ => ?_, fun c hc u hu => ?_, fun j => ?_⟩
  · show (S.L ++ [k]).Nodup
    rw [List.nodup_append]
    refine ⟨h.nd, by simp, fun a ha b hb => ?_⟩
    simp at hb; subst hb
    rintro rfl; exact hk ha
  · rcases List.mem_append.1 hx with e | e
    · exact h.lt x e
    · simp at e; subst e; exact he.1
  · simp only [addS]
    rw [if_neg (fun e : t = k => hk (by rw [← e]; exact h.tin)), h.t0]
  · rcases List.mem_append.1 hx with e | e
    · have hxk : x ≠ k := fun e2 => hk (e2 ▸ e)
      rcases h.src x e with h1 | ⟨y, hy, h1, h2⟩
      · exact .inl h1
      · have hyk : y ≠ k := fun e2 => hk (e2 ▸ hy)
        refine .inr ⟨y, List.mem_append.2 (.inl hy), h1, ?_⟩
        simp only [addS]
        rw [if_neg hxk, if_neg hyk, h2]
    · simp at e; subst e
      refine .inr ⟨q, List.mem_append.2 (.inl (hq ▸ nget_mem hi)), he, ?_⟩
      simp only [addS]
      rw [if_pos trivial, if_neg hqk]
  · rw [hl] at hb
    by_cases e1 : b = S.L.length
    · subst e1
      rw [hlast]
      by_cases e2 : a = S.L.length
      · subst e2; rw [hlast]; exact Nat.le_refl _
      · rw [hD a (by omega)]
        have := h.top a (by omega) hi
        rw [hq] at this; exact this
    · rw [hD a (by omega), hD b (by omega)]
      exact h.mono a b hab (by omega)
  · rw [hl] at hb
    rw [hD i hi, hq]
    by_cases e1 : b = S.L.length
    · subst e1; rw [hlast]; exact Nat.le_refl _
    · rw [hD b (by omega)]
      have := h.top b (by omega) hi
      rw [hq] at this; exact this
  · have hcl : c < S.L.length := by omega
    have hg : (addS S q k).L.getD c 0 = S.L.getD c 0 := getD_append hcl
    rw [hg] at hu ⊢
    obtain ⟨h1, h2⟩ := h.done c hc u hu
    refine ⟨List.mem_append.2 (.inl h1), ?_⟩
    simp only [addS]
    rw [if_neg (fun e : u = k => hk (by rw [← e]; exact h1)), if_neg (hne c hcl)]
    exact h2
  · rw [hl]
    simp only [addS]
    have h1 := h.bd j
    have h2 := h.bd q
    split <;> omega
theorem BI.next {xss : List (List Int)} {t i q : Nat} {S : Bs} (h : BI xss t i S) (hi : i < S.L.length) (hq : S.L.getD i 0 = q) (hc : ∀ u, edge xss u q → u ∈ S.L) : BI xss t (i + 1) S := by
  refine ⟨h.nd, h.lt, hi, h.tin, h.t0, h.src, h.mono, fun b hb hi2 => ?_, fun k hk u hu => ?_, h.bd⟩
  · have h1 := h.top b hb hi
    have h2 := h.mono i (i + 1) (by omega) hi2
    omega
  · by_cases e : k = i
    · subst e
      rw [hq] at hu
      have hu2 := hc u hu
      obtain ⟨b, hb, rfl⟩ := mem_getN hu2
      exact ⟨hu2, h.top b hb hi⟩
    · exact h.done k (by omega) u hu
/-- Distances to t. -/
structure Dist (xss : List (List Int)) (t : Nat) (D : Nat → Nat) : Prop where
  t0 : D t = 0
  down : ∀ u, u < xss.length → u = t ∨ ∃ y, edge xss u y ∧ D u = D y + 1
  step : ∀ u v, edge xss u v → D u ≤ D v + 1
theorem BI.all {xss : List (List Int)} {t i : Nat} {S : Bs} (h : BI xss t i S) (hi : S.L.length ≤ i) (hc : ∀ u, u < xss.length → Rch (edge xss) u t) : (∀ u, u < xss.length → u ∈ S.L) ∧ Dist xss t S.D := by
  have hcl : ∀ u v, edge xss u v → v ∈ S.L → u ∈ S.L ∧ S.D u ≤ S.D v + 1 := fun u v he hv => by
    obtain ⟨k, hk, rfl⟩ := mem_getN hv
    exact h.done k (by have := h.le; omega) u he
  have hback : ∀ u x, Rch (edge xss) u x → x ∈ S.L → u ∈ S.L := fun u x hr => by
    induction hr with
    | refl => exact id
    | step _ e ih => exact fun hj => ih (hcl _ _ e hj).1
  have hall : ∀ u, u < xss.length → u ∈ S.L := fun u hu => hback u t (hc u hu) h.tin
  refine ⟨hall, h.t0, fun u hu => ?_, fun u v he => (hcl u v he (hall v he.2.1)).2⟩
  rcases h.src u (hall u hu) with e | ⟨y, _, h1, h2⟩
  · exact .inl e
  · exact .inr ⟨y, h1, h2⟩

/-! ### Levels of paths -/
instance (xss : List (List Int)) (i j : Nat) : Decidable (edge xss i j) := by unfold edge; infer_instance
def lastN (p : List Nat) : Nat := p.getLast?.getD 0
theorem lastN_snoc (p : List Nat) (x : Nat) : lastN (p ++ [x]) = x := by simp [lastN]
/-- The ways on from p. -/
def extK (xss : List (List Int)) (p : List Nat) : Nat → List (List Nat)
  | 0 => []
  | k + 1 => extK xss p k ++ if edge xss (lastN p) k ∧ k ∉ p then [p ++ [k]] else []
def nextL (xss : List (List Int)) (L : List (List Nat)) : List (List Nat) := L.flatMap fun p => extK xss p xss.length
def levs (xss : List (List Int)) : Nat → List (List Nat) → List (List Nat)
  | 0, L => L
  | k + 1, L => levs xss k (nextL xss L)
theorem nextL_append (xss : List (List Int)) (A B : List (List Nat)) : nextL xss (A ++ B) = nextL xss A ++ nextL xss B := by simp [nextL, List.flatMap_append]
theorem levs_append (xss : List (List Int)) : ∀ (k : Nat) (A B : List (List Nat)), levs xss k (A ++ B) = levs xss k A ++ levs xss k B
  | 0, _, _ => rfl
  | k + 1, A, B => by simp only [levs]; rw [nextL_append, levs_append xss k]
theorem levs_nil (xss : List (List Int)) : ∀ k, levs xss k [] = []
  | 0 => rfl
  | k + 1 => by simp only [levs]; exact levs_nil xss k
theorem levs_succ (xss : List (List Int)) : ∀ (k : Nat) (L : List (List Nat)), levs xss (k + 1) L = nextL xss (levs xss k L)
  | 0, _ => rfl
  | k + 1, L => by
    show levs xss (k + 1) (nextL xss L) = _
    rw [levs_succ xss k]; rfl
def ends (t : Nat) (L : List (List Nat)) : Option (List Nat) := L.find? fun p => decide (lastN p = t)
theorem ends_append (t : Nat) (A B : List (List Nat)) : ends t (A ++ B) = (ends t A).or (ends t B) := by simp [ends, List.find?_append]
/-- Too far away: no path of this level ends in t. -/
theorem ends_far {xss : List (List Int)} {t : Nat} {D : Nat → Nat} (hD : Dist xss t D) : ∀ (r : Nat) (p : List Nat), r < D (lastN p) → ends t (levs xss r [p]) = none
  | 0, p, h => by
    have hne : lastN p ≠ t := fun e => by rw [e, hD.t0] at h; omega
    simp [levs, ends, hne]
  | r + 1, p, h => by
    have hk : ∀ k, k ≤ xss.length → ends t (levs xss r (extK xss p k)) = none := by
      intro k
      induction k with
      | zero => intro _; rw [extK, levs_nil]; rfl
      | succ k ih =>
        intro hk
        rw [extK, levs_append, ends_append, ih (by omega)]
        split
        · rename_i hc
          have h2 := hD.step _ _ hc.1
          rw [ends_far hD r (p ++ [k]) (by rw [lastN_snoc]; omega)]; rfl
        · rw [levs_nil]; rfl
    have e : levs xss (r + 1) [p] = levs xss r (extK xss p xss.length) := by simp [levs, nextL]
    rw [e]
    exact hk _ (Nat.le_refl _)
/-- The greedy way: from a (r steps away from t) the least next state that is nearer. -/
def least (P : Nat → Bool) : Nat → Nat → Nat
  | 0, k => k
  | f + 1, k => if P k = true then k else least P f (k + 1)
theorem least_spec {P : Nat → Bool} : ∀ (f k m : Nat), k ≤ m → m < k + f → P m = true → P (least P f k) = true ∧ k ≤ least P f k ∧ least P f k ≤ m ∧ ∀ j, k ≤ j → j < least P f k → P j = false
  | 0, k, m, h1, h2, _ => by omega
  | f + 1, k, m, h1, h2, hm => by
    unfold least
    by_cases h : P k = true
    · rw [if_pos h]; exact ⟨h, Nat.le_refl _, h1, by omega⟩
    · rw [if_neg h]
      have hkm : k ≠ m := fun e => h (e ▸ hm)
      obtain ⟨g1, g2, g3, g4⟩ := least_spec f (k + 1) m (by omega) (by omega) hm
      refine ⟨g1, by omega, g3, fun j hj hj2 => ?_⟩
      by_cases e : j = k
      · subst e; simpa using h
      · exact g4 j (by omega) hj2
def near (xss : List (List Int)) (D : Nat → Nat) (a x : Nat) : Bool := decide (edge xss a x ∧ D a = D x + 1)
def nextV (xss : List (List Int)) (D : Nat → Nat) (a : Nat) : Nat := least (near xss D a) xss.length 0
def greedy (xss : List (List Int)) (D : Nat → Nat) : Nat → Nat → List Nat
  | 0, _ => []
  | r + 1, a => nextV xss D a :: greedy xss D r (nextV xss D a)
theorem nextV_spec {xss : List (List Int)} {t : Nat} {D : Nat → Nat} (hD : Dist xss t D) {a : Nat} (ha : a < xss.length) (h0 : D a ≠ 0) :
    (edge xss a (nextV xss D a) ∧ D a = D (nextV xss D a) + 1) ∧ ∀ j, j < nextV xss D a → ¬ (edge xss a j ∧ D a = D j + 1) := by
  rcases hD.down a ha with e | ⟨y, h1, h2⟩
  · subst e; exact absurd hD.t0 h0
  · obtain ⟨g1, _, _, g4⟩ := least_spec (P := near xss D a) xss.length 0 y (Nat.zero_le _) (by have := h1.2.1; omega) (decide_eq_true ⟨h1, h2⟩)
    exact ⟨of_decide_eq_true g1, fun j hj hc => by have := g4 j (Nat.zero_le _) hj; rw [near, decide_eq_true hc] at this; cases this⟩
theorem Dist.zero {xss : List (List Int)} {t : Nat} {D : Nat → Nat} (hD : Dist xss t D) {u : Nat} (hu : u < xss.length) (h : D u = 0) : u = t := by
  rcases hD.down u hu with e | ⟨y, _, h2⟩
  · exact e
  · omega
theorem ends_near {xss : List (List Int)} {t : Nat} {D : Nat → Nat} (hD : Dist xss t D) : ∀ (r : Nat) (p : List Nat), D (lastN p) = r → lastN p < xss.length → (∀ x ∈ p, r ≤ D x) → ends t (levs xss r [p]) = some (p ++ greedy xss D r (lastN p))
  | 0, p, h, hl, _ => by
    have e := hD.zero hl h
    simp [levs, ends, e, greedy]
  | r + 1, p, h, hl, hp => by
    obtain ⟨⟨h1, h2⟩, h3⟩ := nextV_spec hD hl (by omega)
    have hx : nextV xss D (lastN p) < xss.length := h1.2.1
    have hxr : D (nextV xss D (lastN p)) = r := by omega
    have hxp : nextV xss D (lastN p) ∉ p := fun e => by have := hp _ e; omega
    have hk : ∀ k, k ≤ xss.length → ends t (levs xss r (extK xss p k)) = if nextV xss D (lastN p) < k then some (p ++ greedy xss D (r + 1) (lastN p)) else none := by
      intro k
      induction k with
      | zero => intro _; rw [extK, levs_nil, if_neg (by omega)]; rfl
      | succ k ih =>
        intro hk
        rw [extK, levs_append, ends_append, ih (by omega)]
        by_cases e1 : nextV xss D (lastN p) < k
        · rw [if_pos e1, if_pos (show nextV xss D (lastN p) < k + 1 by omega)]; rfl
        · rw [if_neg e1]
          by_cases e2 : nextV xss D (lastN p) = k
          · subst e2
            rw [if_pos (show nextV xss D (lastN p) < nextV xss D (lastN p) + 1 by omega), if_pos (show edge xss (lastN p) (nextV xss D (lastN p)) ∧ nextV xss D (lastN p) ∉ p from ⟨h1, hxp⟩)]
            have ih2 := ends_near hD r (p ++ [nextV xss D (lastN p)]) (by rw [lastN_snoc]; exact hxr) (by rw [lastN_snoc]; exact hx) (fun x hx2 => by
              rcases List.mem_append.1 hx2 with e | e
              · have := hp x e; omega
              · simp at e; rw [e, hxr]; exact Nat.le_refl _)
            rw [ih2, lastN_snoc, greedy]
            simp
          · rw [if_neg (show ¬ nextV xss D (lastN p) < k + 1 by omega)]
            split
            · rename_i hc
              have h4 := hD.step _ _ hc.1
              have h5 := h3 k (by omega)
              have h6 : D (lastN p) ≠ D k + 1 := fun e => h5 ⟨hc.1, e⟩
              rw [ends_far hD r (p ++ [k]) (by rw [lastN_snoc]; omega)]; rfl
            · rw [levs_nil]; rfl
    have e : levs xss (r + 1) [p] = levs xss r (extK xss p xss.length) := by simp [levs, nextL]
    rw [e, hk _ (Nat.le_refl _), if_pos hx]
theorem lastN_one (s : Nat) : lastN [s] = s := rfl
noncomputable def fpL (xss : List (List Int)) (s t : Nat) : List Nat := @dite _ (∃ D, Dist xss t D) (Classical.propDecidable _) (fun h => s :: greedy xss (Classical.choose h) ((Classical.choose h) s) s) (fun _ => [])
theorem dist_le {xss : List (List Int)} {t s : Nat} {D D' : Nat → Nat} (hD : Dist xss t D) (hD' : Dist xss t D') (hs : s < xss.length) : D s ≤ D' s := by
  by_cases h : D' s < D s
  · have h1 := ends_far hD (D' s) [s] (by rw [lastN_one]; exact h)
    have h2 := ends_near hD' (D' s) [s] (by rw [lastN_one]) (by rw [lastN_one]; exact hs) (fun x hx => by simp at hx; subst hx; exact Nat.le_refl _)
    rw [h1] at h2; cases h2
  · omega
theorem fpL_eq {xss : List (List Int)} {t s : Nat} {D : Nat → Nat} (hD : Dist xss t D) (hs : s < xss.length) : s :: greedy xss D (D s) s = fpL xss s t := by
  have hex : ∃ D, Dist xss t D := ⟨D, hD⟩
  have hD' := Classical.choose_spec hex
  have e : D s = (Classical.choose hex) s := Nat.le_antisymm (dist_le hD hD' hs) (dist_le hD' hD hs)
  have h1 := ends_near hD (D s) [s] (by rw [lastN_one]) (by rw [lastN_one]; exact hs) (fun x hx => by simp at hx; subst hx; exact Nat.le_refl _)
  have h2 := ends_near hD' ((Classical.choose hex) s) [s] (by rw [lastN_one]) (by rw [lastN_one]; exact hs) (fun x hx => by simp at hx; subst hx; exact Nat.le_refl _)
  rw [← e, h1] at h2
  simp only [lastN_one, Option.some.injEq, List.cons_append, List.nil_append] at h2
  unfold fpL
  rw [dif_pos hex, ← e]
  exact h2
theorem greedy_len (xss : List (List Int)) (D : Nat → Nat) : ∀ r a, (greedy xss D r a).length = r
  | 0, _ => rfl
  | r + 1, a => by simp [greedy, greedy_len xss D r]
end Go.Proofs.Ytaeoiibmkbkaeaa
