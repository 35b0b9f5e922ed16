/- Lengths of shortest ways: a far length that is cut off changes nothing where all states hang together. -/
import Derived.Test.YtgeidbjcphjbiaaF16
import Derived.Test.YtgeidbjcphjbiaaLibO
namespace Go.Proofs.Ytgeidbjcphjbiaa
open Go.Eng
set_option linter.unusedVariables false

def upd (f : Nat → Nat → Int) (a b : Nat) (x : Int) : Nat → Nat → Int := fun s t => if s = a ∧ t = b then x else f s t
/-- One road more. -/
def addR (f : Nat → Nat → Int) (r : RoadR) : Nat → Nat → Int := upd (upd f r.a.toNat r.b.toNat (min (f r.a.toNat r.b.toNat) r.l)) r.b.toNat r.a.toNat (min (f r.a.toNat r.b.toNat) r.l)
def wf (far : Int) (rds : List RoadR) : Nat → Nat → Nat → Int
  | 0 => fun s t => if s = t then 0 else far
  | k + 1 => addR (wf far rds k) (rds.getD k rd0)
def fw (W : Nat → Nat → Int) : Nat → Nat → Nat → Int
  | 0, s, t => W s t
  | k + 1, s, t => min (fw W k s t) (fw W k s k + fw W k k t)
structure RoadOk (n : Nat) (r : RoadR) : Prop where
  a : 0 ≤ r.a ∧ r.a ≤ (n : Int) - 1
  b : 0 ≤ r.b ∧ r.b ≤ (n : Int) - 1
  ne : r.a ≠ r.b
  l : 1 ≤ r.l ∧ r.l ≤ 100
noncomputable instance (n : Nat) (r : RoadR) : Decidable (RoadOk n r) := Classical.propDecidable _
def AllR (n : Nat) (rds : List RoadR) : Prop := ∀ i, i < rds.length → RoadOk n (rds.getD i rd0)

/-- What the table of roads is. -/
structure Tbl (n : Nat) (far : Int) (W : Nat → Nat → Int) : Prop where
  diag : ∀ s, W s s = 0
  sym : ∀ s t, W s t = W t s
  rng : ∀ s t, s ≠ t → (1 ≤ W s t ∧ W s t ≤ 100 ∧ s < n ∧ t < n) ∨ W s t = far
theorem addR_def (W : Nat → Nat → Int) (r : RoadR) (s t : Nat) : addR W r s t = if s = r.b.toNat ∧ t = r.a.toNat then min (W r.a.toNat r.b.toNat) r.l else if s = r.a.toNat ∧ t = r.b.toNat then min (W r.a.toNat r.b.toNat) r.l else W s t := rfl
theorem Tbl.add {n : Nat} {far : Int} {W : Nat → Nat → Int} (h : Tbl n far W) (hfar : 100 < far) {r : RoadR} (hr : RoadOk n r) : Tbl n far (addR W r) := by
  have h1 := hr.a; have h2 := hr.b; have h3 := hr.ne; have h4 := hr.l
  have hne : r.a.toNat ≠ r.b.toNat := by omega
  have ha : r.a.toNat < n := by omega
  have hb : r.b.toNat < n := by omega
  have hW := h.rng r.a.toNat r.b.toNat hne
  have hd := addR_def W r
  generalize r.a.toNat = A at hne ha hW hd
  generalize r.b.toNat = B at hne hb hW hd
  have hm : 1 ≤ min (W A B) r.l ∧ min (W A B) r.l ≤ 100 := by omega
  generalize min (W A B) r.l = M at hm hd
  refine ⟨fun s => ?_, fun s t => ?_, fun s t hst => ?_⟩
  · rw [hd, if_neg (by omega), if_neg (by omega)]; exact h.diag s
  · rw [hd, hd]
    by_cases e1 : s = B ∧ t = A
    · rw [if_pos e1]
      by_cases e2 : t = B ∧ s = A
      · omega
      · rw [if_neg e2, if_pos ⟨e1.2, e1.1⟩]
    · by_cases e2 : s = A ∧ t = B
      · rw [if_neg e1, if_pos e2, if_pos ⟨e2.2, e2.1⟩]
      · rw [if_neg e1, if_neg e2, if_neg (fun e => e2 ⟨e.2, e.1⟩), if_neg (fun e => e1 ⟨e.2, e.1⟩)]; exact h.sym s t
  · rw [hd]
    by_cases e1 : s = B ∧ t = A
    · rw [if_pos e1]; left; omega
    · by_cases e2 : s = A ∧ t = B
      · rw [if_neg e1, if_pos e2]; left; omega
      · rw [if_neg e1, if_neg e2]; exact h.rng s t hst
theorem wf_tbl {n : Nat} {far : Int} {rds : List RoadR} (hfar : 100 < far) (h : AllR n rds) : ∀ k, k ≤ rds.length → Tbl n far (wf far rds k)
  | 0, _ => ⟨fun s => by simp [wf], fun s t => by simp only [wf]; split <;> split <;> first | rfl | omega, fun s t hst => by right; simp [wf, hst]⟩
  | k + 1, hk => (wf_tbl hfar h k (by omega)).add hfar (h k (by omega))
def cap (x : Int) : Int := min x 600
theorem addR_cap {n : Nat} {W V : Nat → Nat → Int} (h : ∀ s t, V s t = cap (W s t)) {r : RoadR} (hr : RoadOk n r) (s t : Nat) : addR V r s t = cap (addR W r s t) := by
  have h4 := hr.l
  rw [addR_def, addR_def, h, h]
  unfold cap
  by_cases e1 : s = r.b.toNat ∧ t = r.a.toNat
  · rw [if_pos e1, if_pos e1]; omega
  · rw [if_neg e1, if_neg e1]
    by_cases e2 : s = r.a.toNat ∧ t = r.b.toNat
    · rw [if_pos e2, if_pos e2]; omega
    · rw [if_neg e2, if_neg e2]
theorem wf_cap {n : Nat} {far : Int} {rds : List RoadR} (hfar : 600 ≤ far) (h : AllR n rds) : ∀ k, k ≤ rds.length → ∀ s t, wf 600 rds k s t = cap (wf far rds k s t)
  | 0, _, s, t => by simp only [wf, cap]; split <;> omega
  | k + 1, hk, s, t => addR_cap (fun s t => wf_cap hfar h k (by omega) s t) (h k (by omega)) s t
theorem fw_nonneg {W : Nat → Nat → Int} (h : ∀ s t, 0 ≤ W s t) : ∀ k s t, 0 ≤ fw W k s t
  | 0, s, t => h s t
  | k + 1, s, t => by
    have h1 := fw_nonneg h k s t; have h2 := fw_nonneg h k s k; have h3 := fw_nonneg h k k t
    simp only [fw]; omega
theorem fw_le {W : Nat → Nat → Int} : ∀ k s t, fw W k s t ≤ W s t
  | 0, s, t => Int.le_refl _
  | k + 1, s, t => by have := fw_le (W := W) k s t; simp only [fw]; omega
theorem fw_diag {W : Nat → Nat → Int} (h : ∀ s t, 0 ≤ W s t) (hd : ∀ s, W s s = 0) (k s : Nat) : fw W k s s = 0 := by
  have h1 := fw_nonneg h k s s
  have h2 := fw_le (W := W) k s s
  rw [hd] at h2; omega
theorem fw_cap {W V : Nat → Nat → Int} (h0 : ∀ s t, 0 ≤ W s t) (h : ∀ s t, V s t = cap (W s t)) : ∀ k s t, fw V k s t = cap (fw W k s t)
  | 0, s, t => h s t
  | k + 1, s, t => by
    have h1 := fw_nonneg h0 k s t; have h2 := fw_nonneg h0 k s k; have h3 := fw_nonneg h0 k k t
    simp only [fw]
    rw [fw_cap h0 h k s t, fw_cap h0 h k s k, fw_cap h0 h k k t]
    unfold cap; omega
theorem fw_row {W : Nat → Nat → Int} (h : ∀ s t, 0 ≤ W s t) (hd : ∀ s, W s s = 0) (k s : Nat) : fw W (k + 1) s k = fw W k s k := by
  have h1 := fw_diag h hd k k
  simp only [fw]; omega
theorem fw_col {W : Nat → Nat → Int} (h : ∀ s t, 0 ≤ W s t) (hd : ∀ s, W s s = 0) (k t : Nat) : fw W (k + 1) k t = fw W k k t := by
  have h1 := fw_diag h hd k k
  simp only [fw]; omega
theorem fw_tri {W : Nat → Nat → Int} (h : ∀ s t, 0 ≤ W s t) (hd : ∀ s, W s s = 0) : ∀ k m s t, m < k → fw W k s t ≤ fw W k s m + fw W k m t
  | k + 1, m, s, t, hm => by
    have n1 := fw_nonneg h k s k; have n2 := fw_nonneg h k k t; have n3 := fw_nonneg h k k m; have n4 := fw_nonneg h k m k
    have d := fw_diag h hd k k
    by_cases e : m = k
    · subst e
      simp only [fw]; omega
    · have i1 := fw_tri h hd k m s t (by omega)
      have i2 := fw_tri h hd k m s k (by omega)
      have i3 := fw_tri h hd k m k t (by omega)
      simp only [fw]; omega
theorem fw_cross {W : Nat → Nat → Int} {F : Int} (h : ∀ s t, 0 ≤ W s t) (A : Nat → Prop) (hA : ∀ s t, A s → ¬ A t → F ≤ W s t) : ∀ k s t, A s → ¬ A t → F ≤ fw W k s t
  | 0, s, t, hs, ht => hA s t hs ht
  | k + 1, s, t, hs, ht => by
    have n1 := fw_nonneg h k s k; have n2 := fw_nonneg h k k t
    have i1 := fw_cross h A hA k s t hs ht
    rcases Classical.em (A k) with e | e
    · have i2 := fw_cross h A hA k k t e ht
      simp only [fw]; omega
    · have i2 := fw_cross h A hA k s k hs e
      simp only [fw]; omega
theorem Tbl.nonneg {n : Nat} {far : Int} {W : Nat → Nat → Int} (h : Tbl n far W) (hf : 0 ≤ far) (s t : Nat) : 0 ≤ W s t := by
  by_cases e : s = t
  · subst e; rw [h.diag]; exact Int.le_refl _
  · rcases h.rng s t e with h1 | h1 <;> omega
theorem Tbl.le {n : Nat} {far : Int} {W : Nat → Nat → Int} (h : Tbl n far W) (hf : 100 ≤ far) (s t : Nat) : W s t ≤ far := by
  by_cases e : s = t
  · subst e; rw [h.diag]; omega
  · rcases h.rng s t e with h1 | h1 <;> omega
/-- From a state on there is a next one, or all are near. -/
theorem Tbl.step {n : Nat} {far : Int} {W : Nat → Nat → Int} (h : Tbl n far W) (hf : 100 < far) (hc : ∀ t, t < n → fw W n 0 t < far) {s t0 : Nat} (hs : s < n) (ht0 : t0 < n) {d : Int} (hd0 : 0 ≤ d) (hd : d < fw W n s t0) : ∃ v, v < n ∧ d < fw W n s v ∧ fw W n s v ≤ d + 100 := by
  have hnn := h.nonneg (by omega)
  have hss := fw_diag hnn h.diag n s
  rcases Classical.em (∃ u v, fw W n s u ≤ d ∧ d < fw W n s v ∧ W u v < far) with ⟨u, v, h1, h2, h3⟩ | hno
  · have huv : u ≠ v := fun e => by subst e; omega
    rcases h.rng u v huv with h4 | h4
    · have t1 := fw_tri hnn h.diag n u s v h4.2.2.1
      have t2 := fw_le (W := W) n u v
      exact ⟨v, h4.2.2.2, h2, by omega⟩
    · omega
  · have hA : ∀ u v, fw W n s u ≤ d → ¬ fw W n s v ≤ d → far ≤ W u v := fun u v hu hv => by
      rcases Int.lt_or_le (W u v) far with e | e
      · exact absurd ⟨u, v, hu, by omega, e⟩ hno
      · exact e
    exfalso
    rcases Classical.em (fw W n s 0 ≤ d) with h0 | h0
    · have := fw_cross hnn (fun u => fw W n s u ≤ d) hA n 0 t0 h0 (by omega)
      have := hc t0 ht0
      omega
    · have hB : ∀ u v, ¬ fw W n s u ≤ d → ¬ ¬ fw W n s v ≤ d → far ≤ W u v := fun u v hu hv => by
        rw [h.sym]; exact hA v u (Classical.not_not.1 hv) hu
      have := fw_cross hnn (fun u => ¬ fw W n s u ≤ d) hB n 0 s h0 (fun e => e (by rw [hss]; exact hd0))
      have := hc s hs
      omega
theorem Tbl.near {n : Nat} {far : Int} {W : Nat → Nat → Int} (h : Tbl n far W) (hf : 100 < far) (hn : n ≤ 6) (hc : ∀ t, t < n → fw W n 0 t < far) {s t0 : Nat} (hs : s < n) (ht0 : t0 < n) : fw W n s t0 ≤ 500 := by
  rcases Int.lt_or_le 500 (fw W n s t0) with hb | hb
  · exfalso
    have hss := fw_diag (h.nonneg (by omega)) h.diag n s
    obtain ⟨v1, a1, b1, c1⟩ := h.step hf hc hs ht0 (d := 0) (by omega) (by omega)
    obtain ⟨v2, a2, b2, c2⟩ := h.step hf hc hs ht0 (d := 100) (by omega) (by omega)
    obtain ⟨v3, a3, b3, c3⟩ := h.step hf hc hs ht0 (d := 200) (by omega) (by omega)
    obtain ⟨v4, a4, b4, c4⟩ := h.step hf hc hs ht0 (d := 300) (by omega) (by omega)
    obtain ⟨v5, a5, b5, c5⟩ := h.step hf hc hs ht0 (d := 400) (by omega) (by omega)
    have ne : ∀ {p q : Nat}, fw W n s p < fw W n s q → (p : Int) ≠ (q : Int) := fun {p q} hl e => by
      have : p = q := by omega
      subst this; omega
    have hmem : ∀ p : Nat, p < n → (p : Int) ∈ ([0, 1, 2, 3, 4, 5] : List Int) := fun p hp => by
      have : p = 0 ∨ p = 1 ∨ p = 2 ∨ p = 3 ∨ p = 4 ∨ p = 5 := by omega
      rcases this with rfl | rfl | rfl | rfl | rfl | rfl <;> simp
    have hp := pigeon [(s : Int), (v1 : Int), (v2 : Int), (v3 : Int), (v4 : Int), (v5 : Int)] [0, 1, 2, 3, 4, 5] (by
        simp only [List.nodup_cons, List.mem_cons, List.not_mem_nil, or_false, not_or, List.nodup_nil, and_true, not_false_eq_true]
        refine ⟨⟨ne (by omega), ne (by omega), ne (by omega), ne (by omega), ne (by omega)⟩, ⟨ne (by omega), ne (by omega), ne (by omega), ne (by omega)⟩, ⟨ne (by omega), ne (by omega), ne (by omega)⟩, ⟨ne (by omega), ne (by omega)⟩, ne (by omega)⟩) (by
        intro x hx
        simp only [List.mem_cons, List.not_mem_nil, or_false] at hx
        rcases hx with rfl | rfl | rfl | rfl | rfl | rfl
        · exact hmem s hs
        · exact hmem v1 a1
        · exact hmem v2 a2
        · exact hmem v3 a3
        · exact hmem v4 a4
        · exact hmem v5 a5) (by simp)
    have ht := hp.1 _ (hmem t0 ht0)
    simp only [List.mem_cons, List.not_mem_nil, or_false] at ht
    rcases ht with e | e | e | e | e | e
    · exact ne (p := s) (q := t0) (by omega) e.symm
    · exact ne (p := v1) (q := t0) (by omega) e.symm
    · exact ne (p := v2) (q := t0) (by omega) e.symm
    · exact ne (p := v3) (q := t0) (by omega) e.symm
    · exact ne (p := v4) (q := t0) (by omega) e.symm
    · exact ne (p := v5) (q := t0) (by omega) e.symm
  · exact hb

/-! the answer -/
def bigF : Int := 1073741824
structure RlOk (st : Int) (rds : List RoadR) : Prop where
  s : 1 ≤ st ∧ st ≤ 6
  n : rds.length ≤ 20
  r : AllR st.toNat rds
noncomputable instance (st : Int) (rds : List RoadR) : Decidable (RlOk st rds) := Classical.propDecidable _
def rlF (st : Int) (rds : List RoadR) : Nat → Nat → Int := fw (wf bigF rds rds.length) st.toNat
def RlCon (st : Int) (rds : List RoadR) : Prop := ∀ t, t < st.toNat → rlF st rds 0 t < bigF
noncomputable instance (st : Int) (rds : List RoadR) : Decidable (RlCon st rds) := Classical.propDecidable _
noncomputable def rlC (st : Int) (rds : List RoadR) : Int := if RlOk st rds then if RlCon st rds then 0 else 4 else 2
noncomputable def rlX (st : Int) (rds : List RoadR) : List (List Int) := if RlOk st rds then if RlCon st rds then tab st.toNat fun s => tab st.toNat (rlF st rds s) else [] else []
theorem rlX_small (st : Int) (rds : List RoadR) : Small (rlX st rds) := by
  unfold rlX
  split
  · rename_i h
    have := h.s
    split
    · refine ⟨by simp only [tab_length]; omega, fun i hi => ?_⟩
      simp only [tab_length] at hi
      simp only [tab_getD _ _ _ _ hi, tab_length]; omega
    · exact ⟨by simp, fun i hi => absurd hi (by simp)⟩
  · exact ⟨by simp, fun i hi => absurd hi (by simp)⟩
theorem RlOk.tbl {st : Int} {rds : List RoadR} (h : RlOk st rds) : Tbl st.toNat bigF (wf bigF rds rds.length) := wf_tbl (by decide) h.r _ (Nat.le_refl _)
/-- impl's last table. -/
theorem RlOk.cap {st : Int} {rds : List RoadR} (h : RlOk st rds) (s t : Nat) : fw (wf 600 rds rds.length) st.toNat s t = cap (rlF st rds s t) :=
  fw_cap (h.tbl.nonneg (by decide)) (wf_cap (by decide) h.r _ (Nat.le_refl _)) _ s t
theorem RlOk.near {st : Int} {rds : List RoadR} (h : RlOk st rds) (hc : RlCon st rds) {s t : Nat} (hs : s < st.toNat) (ht : t < st.toNat) : fw (wf 600 rds rds.length) st.toNat s t = rlF st rds s t ∧ rlF st rds s t ≤ 500 := by
  have h1 := h.tbl.near (by decide) (by have := h.s; omega) hc hs ht
  have h2 : rlF st rds s t ≤ 500 := h1
  rw [h.cap]
  exact ⟨by unfold Proofs.Ytgeidbjcphjbiaa.cap; omega, h2⟩
theorem RlOk.far {st : Int} {rds : List RoadR} (h : RlOk st rds) (hc : ¬ RlCon st rds) : ∃ t, t < st.toNat ∧ 600 ≤ fw (wf 600 rds rds.length) st.toNat 0 t := by
  rcases Classical.em (∃ t, t < st.toNat ∧ bigF ≤ rlF st rds 0 t) with ⟨t, ht, hb⟩ | hno
  · refine ⟨t, ht, ?_⟩
    rw [h.cap]; unfold Proofs.Ytgeidbjcphjbiaa.cap bigF at *; omega
  · exact absurd (fun t ht => by
      rcases Int.lt_or_le (rlF st rds 0 t) bigF with e | e
      · exact e
      · exact absurd ⟨t, ht, e⟩ hno) hc
end Go.Proofs.Ytgeidbjcphjbiaa
