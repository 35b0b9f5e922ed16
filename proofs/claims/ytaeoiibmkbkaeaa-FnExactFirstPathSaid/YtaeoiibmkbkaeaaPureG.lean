/- Levels of paths: distances exist; bounds. -/
import Derived.Test.YtaeoiibmkbkaeaaPureF
namespace Go.Proofs.Ytaeoiibmkbkaeaa
open Go.Eng Go.RowKit
set_option linter.unusedVariables false

def Wk (xss : List (List Int)) (t : Nat) : Nat → Nat → Prop
  | 0, u => u = t
  | k + 1, u => ∃ v, edge xss u v ∧ Wk xss t k v
theorem least_ex {P : Nat → Prop} : ∀ k, P k → ∃ m, P m ∧ ∀ j, P j → m ≤ j := by
  intro k
  induction k using Nat.strongRecOn with
  | ind k ih =>
    intro hk
    by_cases h : ∃ j, j < k ∧ P j
    · obtain ⟨j, hj, hp⟩ := h; exact ih j hj hp
    · exact ⟨k, hk, fun j hj => Nat.le_of_not_lt fun e => h ⟨j, e, hj⟩⟩
theorem wk_of_rch {xss : List (List Int)} {t : Nat} : ∀ {u x : Nat}, Rch (edge xss) u x → ∀ k, Wk xss t k x → ∃ m, Wk xss t m u := by
  intro u x h
  induction h with
  | refl => exact fun k hk => ⟨k, hk⟩
  | step _ e ih => exact fun k hk => ih (k + 1) ⟨_, e, hk⟩
theorem dist_ex {xss : List (List Int)} {t : Nat} (hc : ∀ u, u < xss.length → Rch (edge xss) u t) (ht : t < xss.length) : ∃ D, Dist xss t D := by
  have h : ∀ u, ∃ m, u < xss.length → Wk xss t m u ∧ ∀ j, Wk xss t j u → m ≤ j := fun u => by
    by_cases hu : u < xss.length
    · obtain ⟨m, hm⟩ := wk_of_rch (hc u hu) 0 rfl
      obtain ⟨k, h1, h2⟩ := least_ex (P := fun m => Wk xss t m u) m hm
      exact ⟨k, fun _ => ⟨h1, h2⟩⟩
    · exact ⟨0, fun e => absurd e hu⟩
  refine ⟨fun u => Classical.choose (h u), ?_, fun u hu => ?_, fun u v he => ?_⟩
  · have := (Classical.choose_spec (h t) ht).2 0 rfl; omega
  · obtain ⟨h1, h2⟩ := Classical.choose_spec (h u) hu
    cases hk : Classical.choose (h u) with
    | zero => rw [hk] at h1; exact .inl h1
    | succ k =>
      rw [hk] at h1 h2
      obtain ⟨v, e, hv⟩ := h1
      obtain ⟨g1, g2⟩ := Classical.choose_spec (h v) e.2.1
      have g3 := g2 k hv
      have g4 := h2 (Classical.choose (h v) + 1) ⟨v, e, g1⟩
      refine .inr ⟨v, e, ?_⟩
      omega
  · obtain ⟨g1, g2⟩ := Classical.choose_spec (h v) he.2.1
    exact (Classical.choose_spec (h u) he.1).2 _ ⟨v, he, g1⟩
/-! ### Bounds -/
structure PathK (xss : List (List Int)) (k : Nat) (p : List Nat) : Prop where
  nd : p.Nodup
  lt : ∀ x ∈ p, x < xss.length
  len : p.length = k + 1
theorem PathK.le {xss : List (List Int)} {k : Nat} {p : List Nat} (h : PathK xss k p) : k + 1 ≤ xss.length := by
  have := nodup_le p (List.range xss.length) h.nd (fun x hx => List.mem_range.2 (h.lt x hx))
  rw [h.len] at this
  simpa using this
theorem extK_mem {xss : List (List Int)} {p q : List Nat} : ∀ {k : Nat}, q ∈ extK xss p k → ∃ x, x < k ∧ edge xss (lastN p) x ∧ x ∉ p ∧ q = p ++ [x]
  | 0, h => by simp [extK] at h
  | k + 1, h => by
    unfold extK at h
    rcases List.mem_append.1 h with e | e
    · obtain ⟨x, h1, h2⟩ := extK_mem e; exact ⟨x, by omega, h2⟩
    · split at e
      · rename_i hc; simp at e; exact ⟨k, by omega, hc.1, hc.2, e⟩
      · simp at e
theorem PathK.ext {xss : List (List Int)} {k : Nat} {p q : List Nat} (h : PathK xss k p) {m : Nat} (hq : q ∈ extK xss p m) : PathK xss (k + 1) q := by
  obtain ⟨x, _, h2, h3, rfl⟩ := extK_mem hq
  refine ⟨?_, fun y hy => ?_, by simp [h.len]⟩
  · rw [List.nodup_append]
    refine ⟨h.nd, by simp, fun a ha b hb => ?_⟩
    simp at hb; subst hb
    rintro rfl; exact h3 ha
  · rcases List.mem_append.1 hy with e | e
    · exact h.lt y e
    · simp at e; subst e; exact h2.2.1
theorem levs_path {xss : List (List Int)} {s : Nat} (hs : s < xss.length) : ∀ k, ∀ p ∈ levs xss k [[s]], PathK xss k p
  | 0, p, h => by
    simp [levs] at h; subst h
    exact ⟨by simp, by simpa using hs, rfl⟩
  | k + 1, p, h => by
    rw [levs_succ, nextL, List.mem_flatMap] at h
    obtain ⟨q, hq, hp⟩ := h
    exact (levs_path hs k q hq).ext hp
theorem extK_len (xss : List (List Int)) (p : List Nat) : ∀ k, (extK xss p k).length ≤ k
  | 0 => by simp [extK]
  | k + 1 => by
    have := extK_len xss p k
    unfold extK
    rw [List.length_append]
    split <;> simp <;> omega
theorem nextL_len (xss : List (List Int)) : ∀ L : List (List Nat), (nextL xss L).length ≤ xss.length * L.length
  | [] => by simp [nextL]
  | p :: L => by
    have h1 := nextL_len xss L
    have h2 := extK_len xss p xss.length
    have h3 : nextL xss (p :: L) = extK xss p xss.length ++ nextL xss L := by simp [nextL]
    rw [h3, List.length_append, List.length_cons, Nat.mul_succ]
    omega
theorem levs_len {xss : List (List Int)} (s : Nat) (hn : xss.length ≤ 6) : ∀ k, (levs xss k [[s]]).length ≤ 6 ^ k
  | 0 => by simp [levs]
  | k + 1 => by
    have h1 := levs_len s hn k
    have h2 := nextL_len xss (levs xss k [[s]])
    have h3 := Nat.mul_le_mul hn h1
    rw [levs_succ, Nat.pow_succ]
    omega
theorem levs_bd {xss : List (List Int)} {s : Nat} (hs : s < xss.length) (hn : xss.length ≤ 6) (k : Nat) : (levs xss k [[s]]).length ≤ 7776 := by
  by_cases h : k ≤ 5
  · have h1 := levs_len s hn k
    have : k = 0 ∨ k = 1 ∨ k = 2 ∨ k = 3 ∨ k = 4 ∨ k = 5 := by omega
    rcases this with rfl | rfl | rfl | rfl | rfl | rfl <;> simp at h1 <;> omega
  · cases hl : levs xss k [[s]] with
    | nil => simp
    | cons p L =>
      have := (levs_path hs k p (by rw [hl]; simp)).le
      omega
end Go.Proofs.Ytaeoiibmkbkaeaa
