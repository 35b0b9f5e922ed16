/- Data in memory: slices of one-cell values, slices of slices; the same as resources of the call's own; calls that write into resources of the caller's. -/
import Derived.Test.YtgeidbjcphjbiaaEng
namespace Go.Eng
open Go.RowKit
set_option linter.unusedVariables false

/-! ### Lists -/
theorem getD_lt {α : Type} (xs : List α) (j : Nat) (d : α) (h : j < xs.length) : xs.getD j d = xs[j] := by
  simp [List.getD, h]
theorem sum_take_succ (xs : List Int) (j : Nat) (h : j < xs.length) : (xs.take (j + 1)).sum = (xs.take j).sum + xs.getD j 0 := by
  rw [List.take_succ_eq_append_getElem h, List.sum_append, getD_lt _ _ _ h]; simp
theorem sum_take_le (B : Int) (xs : List Int) (j : Nat) (hj : j ≤ xs.length) (h : ∀ t, t < j → 0 ≤ xs.getD t 0 ∧ xs.getD t 0 ≤ B) : 0 ≤ (xs.take j).sum ∧ (xs.take j).sum ≤ B * j := by
  induction j with
  | zero => simp
  | succ j ih =>
    have ih' := ih (by omega) (fun t ht => h t (by omega))
    have hj := h j (by omega)
    rw [sum_take_succ xs j (by omega)]
    have e : B * ((j + 1 : Nat) : Int) = B * j + B := by rw [Int.natCast_add, Int.mul_add]; simp
    omega
theorem ext_getD {α : Type} (d : α) {xs ys : List α} (hl : xs.length = ys.length) (h : ∀ i, i < xs.length → xs.getD i d = ys.getD i d) : xs = ys := by
  apply List.ext_getElem hl
  intro i h1 h2
  have := h i h1
  rwa [getD_lt _ _ _ h1, getD_lt _ _ _ h2] at this
theorem take_succ_getD {α : Type} (d : α) (xs : List α) (j : Nat) (h : j < xs.length) : xs.take (j + 1) = xs.take j ++ [xs.getD j d] := by
  rw [List.take_succ_eq_append_getElem h, getD_lt _ _ _ h]

/-- The table of f below n. -/
def tab {α : Type} (n : Nat) (f : Nat → α) : List α := (List.range n).map f
theorem tab_length {α : Type} (n : Nat) (f : Nat → α) : (tab n f).length = n := by simp [tab]
theorem tab_succ {α : Type} (n : Nat) (f : Nat → α) : tab (n + 1) f = tab n f ++ [f n] := by simp [tab, List.range_succ]
theorem tab_getD {α : Type} (n : Nat) (f : Nat → α) (i : Nat) (d : α) (h : i < n) : (tab n f).getD i d = f i := by
  rw [getD_lt _ _ _ (by rw [tab_length]; exact h)]; simp [tab]
theorem tab_congr {α : Type} (n : Nat) (f g : Nat → α) (h : ∀ i, i < n → f i = g i) : tab n f = tab n g :=
  List.map_congr_left fun i hi => h i (List.mem_range.1 hi)

/-! ### Reading -/
section
variable {α : Type}

/-- v reads in w as the values xs. -/
structure RdE (enc : α → Value) (d : α) (w : World) (v : Value) (xs : List α) : Prop where
  sl : SlOk v xs.length
  get : ∀ i, i < xs.length → w.cell? (vAt v i) = some (enc (xs.getD i d))

/-- v reads in w as a slice of slices. -/
structure RdS (enc : α → Value) (d : α) (w : World) (v : Value) (xss : List (List α)) (row : Nat → Value) : Prop where
  sl : SlOk v xss.length
  get : ∀ i, i < xss.length → w.cell? (vAt v i) = some (row i)
  row : ∀ i, i < xss.length → RdE enc d w (row i) (xss.getD i [])

theorem cell_up {w w' : World} (hb : Below w.heap.size w w') {p : Addr} {v : Value} (h : w.cell? p = some v) : w'.cell? p = some v := by
  rw [hb.cell (World.block_lt_of_cell? w p h)]; exact h
theorem RdE.up {enc : α → Value} {d : α} {w w' : World} {v : Value} {xs : List α} (h : RdE enc d w v xs) (hb : Below w.heap.size w w') : RdE enc d w' v xs :=
  ⟨h.sl, fun i hi => cell_up hb (h.get i hi)⟩
theorem RdS.up {enc : α → Value} {d : α} {w w' : World} {v : Value} {xss : List (List α)} {row : Nat → Value} (h : RdS enc d w v xss row) (hb : Below w.heap.size w w') : RdS enc d w' v xss row :=
  ⟨h.sl, fun i hi => cell_up hb (h.get i hi), fun i hi => (h.row i hi).up hb⟩

/-! ### Resources -/
/-- A slice of one-cell values of the call's own. -/
def rE (e : TypeId) (enc : α → Value) (v : Value) (xs : List α) : Res := rOwn e 1 v xs.length (xs.map enc)
/-- The rows of a slice of slices. -/
def rRow (e : TypeId) (enc : α → Value) (vs : List Value) (xss : List (List α)) : List Res := List.zipWith (fun u xs => rE e enc u xs) vs xss
/-- A slice of slices of the call's own, no two of them in one block. -/
def rRows (e1 e2 : TypeId) (enc : α → Value) (v : Value) (vs : List Value) (xss : List (List α)) : Res := rStar (rOwn e1 1 v vs.length vs :: rRow e2 enc vs xss)

theorem rE.rd {e : TypeId} {enc : α → Value} {v : Value} {xs : List α} {w : World} (d : α) (h : (rE e enc v xs).holds w) : RdE enc d w v xs :=
  ⟨rOwn.slOk h, fun i hi => rOwn.cell h (by rw [List.getElem?_map, List.getElem?_eq_getElem hi, getD_lt _ _ _ hi]; rfl)⟩
theorem rRows.rd {e1 e2 : TypeId} {enc : α → Value} {v : Value} {vs : List Value} {xss : List (List α)} {w : World} (d : α) (hl : vs.length = xss.length) (h : (rRows e1 e2 enc v vs xss).holds w) :
    RdS enc d w v xss (fun i => vs.getD i undef) := by
  have h0 : (rOwn e1 1 v vs.length vs).holds w := h.1 _ (by simp)
  refine ⟨by rw [← hl]; exact rOwn.slOk h0, fun i hi => ?_, fun i hi => ?_⟩
  · have hi' : i < vs.length := by omega
    exact rOwn.cell h0 (by rw [List.getElem?_eq_getElem hi', getD_lt _ _ _ hi'])
  · have hi' : i < vs.length := by omega
    refine rE.rd (e := e2) d (h.1 _ (List.mem_cons_of_mem _ ?_))
    refine List.mem_iff_getElem?.2 ⟨i, ?_⟩
    simp only [rRow, List.getElem?_zipWith, List.getElem?_eq_getElem hi, List.getElem?_eq_getElem hi']
    rw [getD_lt _ _ _ hi, getD_lt _ _ _ hi']

theorem Mem.rd {w0 w : World} {rs : List Res} {e : TypeId} {enc : α → Value} {v : Value} {xs : List α} (hm : Mem w0 rs w) (i : Nat) (hi : rs[i]? = some (rE e enc v xs)) (d : α) : RdE enc d w v xs := rE.rd d (hm.holds i _ hi)
theorem Mem.rdS {w0 w : World} {rs : List Res} {e1 e2 : TypeId} {enc : α → Value} {v : Value} {vs : List Value} {xss : List (List α)} (hm : Mem w0 rs w) (i : Nat) (hi : rs[i]? = some (rRows e1 e2 enc v vs xss)) (hl : vs.length = xss.length) (d : α) :
    RdS enc d w v xss (fun i => vs.getD i undef) := rRows.rd d hl (hm.holds i _ hi)
end

theorem Mem.at {w0 w : World} {rs : List Res} (h : Mem w0 rs w) {i j : Nat} {r s : Res} (hij : i ≠ j) (hi : rs[i]? = some r) (hj : rs[j]? = some s) (b : Nat) (hb : r.foot b) : ¬ s.foot b := h.apart i j r s hij hi hj b hb

/-- The last resource goes into the star ahead of it. -/
theorem Mem.pack {w0 w : World} (A : List Res) {l : List Res} {r : Res} (h : Mem w0 (A ++ [rStar l, r]) w) : Mem w0 (A ++ [rStar (l ++ [r])]) w := by
  have hs : (A ++ [rStar l, r])[A.length]? = some (rStar l) := by simp
  have hr : (A ++ [rStar l, r])[A.length + 1]? = some r := by simp
  have hst := h.holds _ _ hs
  have hrr := h.holds _ _ hr
  have dis : ∀ s ∈ l, ∀ b, s.foot b → ¬ r.foot b := fun s hsl b hb hb' => h.apart _ _ _ _ (by omega) hs hr b ⟨s, hsl, hb⟩ hb'
  have key : ∀ (i : Nat) (s : Res), (A ++ [rStar (l ++ [r])])[i]? = some s → (i < A.length ∧ (A ++ [rStar l, r])[i]? = some s) ∨ (i = A.length ∧ s = rStar (l ++ [r])) := by
    intro i s hi
    rw [List.getElem?_append] at hi
    split at hi
    · rename_i hlt
      exact .inl ⟨hlt, by rw [List.getElem?_append_left hlt]; exact hi⟩
    · rename_i hge
      right
      have hlt := (List.getElem?_eq_some_iff.1 hi).1
      simp at hlt
      have e : i - A.length = 0 := by omega
      rw [e] at hi; simp at hi
      exact ⟨by omega, hi.symm⟩
  refine ⟨h.below, fun i s hi => ?_, fun i s hi b hb => ?_, fun i j s t hij hi hj b hb hb' => ?_⟩
  · rcases key i s hi with ⟨_, h1⟩ | ⟨_, rfl⟩
    · exact h.holds i s h1
    · clear hi
      refine ⟨fun s hsl => ?_, fun i j s t hij hi hj b hb hb' => ?_⟩
      · rcases List.mem_append.1 hsl with h1 | h1
        · exact hst.1 s h1
        · simp at h1; subst h1; exact hrr
      · rw [List.getElem?_append] at hi hj
        split at hi <;> split at hj
        · exact hst.2 i j s t hij hi hj b hb hb'
        · have h9 := List.mem_of_getElem? hj
          simp at h9; subst h9
          exact dis s (List.mem_of_getElem? hi) b hb hb'
        · have h9 := List.mem_of_getElem? hi
          simp at h9; subst h9
          exact dis t (List.mem_of_getElem? hj) b hb' hb
        · have h1 := (List.getElem?_eq_some_iff.1 hi).1
          have h2 := (List.getElem?_eq_some_iff.1 hj).1
          simp at h1 h2; omega
  · rcases key i s hi with ⟨_, h1⟩ | ⟨_, rfl⟩
    · exact h.fresh i s h1 b hb
    · obtain ⟨s, hsl, hb1⟩ := hb
      rcases List.mem_append.1 hsl with h1 | h1
      · exact h.fresh _ _ hs b ⟨s, h1, hb1⟩
      · simp at h1; subst h1; exact h.fresh _ _ hr b hb1
  · have star : ∀ (k : Nat) (u : Res), k < A.length → (A ++ [rStar l, r])[k]? = some u → u.foot b → ¬ (rStar (l ++ [r])).foot b := by
      rintro k u hk hu hub ⟨s, hsl, hb1⟩
      rcases List.mem_append.1 hsl with h1 | h1
      · exact h.apart k A.length u _ (by omega) hu hs b hub ⟨s, h1, hb1⟩
      · simp at h1; subst h1; exact h.apart k (A.length + 1) u _ (by omega) hu hr b hub hb1
    rcases key i s hi with ⟨l1, h1⟩ | ⟨e1, rfl⟩ <;> rcases key j t hj with ⟨l2, h2⟩ | ⟨e2, rfl⟩
    · exact h.apart i j s t hij h1 h2 b hb hb'
    · exact star i s l1 h1 hb hb'
    · exact star j t l2 h2 hb' hb
    · omega

/-! ### Lists that are filled from the left -/
section
variable {α : Type}
theorem fill_set {β : Type} (f : α → β) (z : β) (d : α) (xs : List α) (n k : Nat) (hk : k < n) (hn : n ≤ xs.length) :
    ((xs.take k).map f ++ List.replicate (n - k) z).set k (f (xs.getD k d)) = (xs.take (k + 1)).map f ++ List.replicate (n - (k + 1)) z := by
  have hl : ((xs.take k).map f).length = k := by simp; omega
  rw [take_succ_getD d xs k (by omega), List.map_append, List.set_append_right _ _ (by omega), hl, Nat.sub_self]
  rw [show n - k = (n - (k + 1)) + 1 by omega, List.replicate_succ, List.set_cons_zero]
  simp

/-- What 'mark' writes: g k, g (k + 1), .. -/
def mk (g : Int → α) (k : Int) (n : Nat) : List α := (List.range n).map fun (i : Nat) => g (k + (i : Int))
theorem mk_length (g : Int → α) (k : Int) (n : Nat) : (mk g k n).length = n := by simp [mk]
theorem mk_getD (g : Int → α) (d : α) (k : Int) (n i : Nat) (h : i < n) : (mk g k n).getD i d = g (k + i) := by
  rw [getD_lt _ _ _ (by simpa [mk] using h)]; simp [mk]
theorem mk_succ (g : Int → α) (k : Int) (n : Nat) : mk g k (n + 1) = mk g k n ++ [g (k + n)] := by simp [mk, List.range_succ]
theorem mk_set (enc : α → Value) (g : Int → α) (k : Int) (xs : List α) (j : Nat) (h : j < xs.length) :
    ((mk g k j ++ xs.drop j).map enc).set j (enc (g (k + j))) = (mk g k (j + 1) ++ xs.drop (j + 1)).map enc := by
  rw [← List.map_set]
  congr 1
  have hl := mk_length g k j
  rw [List.set_append_right _ _ (by omega), hl, Nat.sub_self, List.drop_eq_getElem_cons h, List.set_cons_zero, mk_succ, List.append_assoc]; rfl

/-- The lengths of the rows, summed. -/
def lens (xss : List (List α)) : Nat := (xss.map List.length).sum
theorem lens_take_succ (xss : List (List α)) (j : Nat) (h : j < xss.length) : lens (xss.take (j + 1)) = lens (xss.take j) + (xss.getD j []).length := by
  unfold lens
  rw [take_succ_getD [] _ _ h, List.map_append, List.sum_append]; simp
theorem lens_le (B : Nat) (xss : List (List α)) (h : ∀ i, i < xss.length → (xss.getD i []).length ≤ B) (j : Nat) (hj : j ≤ xss.length) : lens (xss.take j) ≤ B * j := by
  induction j with
  | zero => simp [lens]
  | succ j ih =>
    have h1 := ih (by omega)
    have h2 := h j (by omega)
    rw [lens_take_succ _ _ (by omega), Nat.mul_succ]
    omega
/-- What 'mark' writes into rows. -/
def mkS (g : Int → α) : Int → List (List α) → List (List α)
  | _, [] => []
  | k, xs :: xss => mk g k xs.length :: mkS g (k + xs.length) xss
theorem mkS_length (g : Int → α) : ∀ (k : Int) (xss : List (List α)), (mkS g k xss).length = xss.length
  | _, [] => rfl
  | k, xs :: xss => by simp [mkS, mkS_length g _ xss]
theorem mkS_getD (g : Int → α) : ∀ (k : Int) (xss : List (List α)) (i : Nat), i < xss.length → (mkS g k xss).getD i [] = mk g (k + lens (xss.take i)) (xss.getD i []).length
  | _, [], i, h => by simp at h
  | k, xs :: xss, 0, h => by simp [mkS, lens]
  | k, xs :: xss, i + 1, h => by
    have := mkS_getD g (k + xs.length) xss i (by simpa using h)
    simp only [mkS, List.getD_cons_succ, List.take_succ_cons]
    rw [this]
    congr 1
    simp [lens]; omega
theorem mkS_lens (g : Int → α) : ∀ (k : Int) (xss : List (List α)), lens (mkS g k xss) = lens xss
  | _, [] => rfl
  | k, xs :: xss => by
    have := mkS_lens g (k + xs.length) xss
    simp only [lens] at this ⊢
    simp [mkS, mk_length, this]

theorem rRow_set {e : TypeId} {enc : α → Value} (vs : List Value) (xss : List (List α)) (k : Nat) (ys : List α) (hk : k < vs.length) :
    (rRow e enc vs xss).set k (rE e enc (vs.getD k undef) ys) = rRow e enc vs (xss.set k ys) := by
  unfold rRow
  apply List.ext_getElem?
  intro i
  rw [List.getElem?_set, List.getElem?_zipWith, List.getElem?_zipWith, List.getElem?_set]
  by_cases e1 : k = i
  · subst e1
    simp only [if_true]
    by_cases h2 : k < xss.length
    · have h3 : k < min vs.length xss.length := by omega
      simp [List.length_zipWith, h2, hk, List.getD, h3]
    · have h3 : ¬ k < min vs.length xss.length := by omega
      simp [List.length_zipWith, h2, h3]
  · simp [e1]
theorem rRow_get {e : TypeId} {enc : α → Value} (vs : List Value) (xss : List (List α)) (k : Nat) (hk : k < vs.length) (hx : k < xss.length) :
    (rRow e enc vs xss)[k]? = some (rE e enc (vs.getD k undef) (xss.getD k [])) := by
  unfold rRow
  simp [List.getElem?_zipWith, hk, hx, List.getD]
end

/-- Reading in a star that holds a slice of slices. -/
theorem ld_rows {α : Type} {w0 : World} {rs : List Res} (i : Nat) {e1 e2 : TypeId} {enc : α → Value} {v : Value} {vs : List Value} {xss : List (List α)} (hi : rs[i]? = some (rRows e1 e2 enc v vs xss)) {k : Nat} (hk : k < vs.length) :
    Ld w0 rs (vAt v k) (vs.getD k undef) :=
  ld_res i hi fun w h => by
    have h0 : (rOwn e1 1 v vs.length vs).holds w := h.1 _ (by simp)
    exact rOwn.cell h0 (by rw [List.getElem?_eq_getElem hk, getD_lt _ _ _ hk])
theorem slOk_rows {α : Type} {w0 w : World} {rs : List Res} (i : Nat) {e1 e2 : TypeId} {enc : α → Value} {v : Value} {vs : List Value} {xss : List (List α)} (hi : rs[i]? = some (rRows e1 e2 enc v vs xss)) (hm : Mem w0 rs w) : SlOk v vs.length :=
  rOwn.slOk ((hm.holds i _ hi).1 _ (by simp) : (rOwn e1 1 v vs.length vs).holds w)
theorem slOk_rE {α : Type} {w0 w : World} {rs : List Res} (i : Nat) {e : TypeId} {enc : α → Value} {v : Value} {xs : List α} (hi : rs[i]? = some (rE e enc v xs)) (hm : Mem w0 rs w) : SlOk v xs.length :=
  rOwn.slOk (hm.holds i _ hi : (rOwn e 1 v xs.length (xs.map enc)).holds w)

theorem Mem.empty {w0 w : World} {rs : List Res} (h : Mem w0 rs w) : Mem w0 (rs ++ [rStar []]) w :=
  h.add (r := rStar []) (Below.refl _ _) ⟨fun _ h => (by cases h), fun _ _ _ _ _ h => (by simp at h)⟩ (fun b ⟨r, hr, _⟩ => (by cases hr))
theorem Mem.under {w0 w : World} {a : Res} {l : List Res} (h : Mem w0 [a, rStar l] w) : Mem w0 [rStar (a :: l)] w := by
  have h1 : Mem w0 [rStar l, a] w := h.weaken (fun i => 1 - i) _ (fun i j e hi hj => by simp at hi hj; omega) (fun i r hi => by
    match i, hi with
    | 0, hi => simpa using hi
    | 1, hi => simpa using hi
    | n + 2, hi => simp at hi)
  have h2 : Mem w0 (l ++ [a]) w := h1.flat
  have h3 : Mem w0 ((a :: l) ++ []) w := h2.weaken (fun i => if i = 0 then l.length else i - 1) _ (fun i j e hi hj => by
      simp at hi hj
      split at e <;> split at e <;> omega) (fun i r hi => by
    cases i with
    | zero => simp at hi; subst hi; simp
    | succ i =>
      simp at hi
      have := (List.getElem?_eq_some_iff.1 hi).1
      simp [List.getElem?_append_left this, hi])
  exact h3.star
theorem SlOk.one {v : Value} {n : Nat} (h : SlOk v n) : v.oneCell' = true := by
  unfold SlOk at h
  obtain ⟨_, _, rfl, _⟩ := h
  rfl
theorem rRow_snoc {α : Type} {e : TypeId} {enc : α → Value} (vs : List Value) (xss : List (List α)) (u : Value) (xs : List α) (h : vs.length = xss.length) :
    rRow e enc (vs ++ [u]) (xss ++ [xs]) = rRow e enc vs xss ++ [rE e enc u xs] := by
  unfold rRow
  rw [List.zipWith_append h]; rfl
theorem vals_set (vs : List Value) (z u : Value) (n k : Nat) (hk : k < n) (hv : vs.length = k) : (vs ++ List.replicate (n - k) z).set k u = (vs ++ [u]) ++ List.replicate (n - (k + 1)) z := by
  rw [List.set_append_right _ _ (by omega), hv, Nat.sub_self, show n - k = (n - (k + 1)) + 1 by omega, List.replicate_succ, List.set_cons_zero]
  simp

/-- 'append' of one value to a slice of the call's own. -/
theorem hl_pushE {α : Type} {P : Program} {N : Nat} {env : Env} {w0 : World} {rs : List Res} {Q : Exit → Act → World → Prop} {ops : Array Oper} {l : List Oper} {d : Nat} {ty : TypeId} {pos : String} {after : Array Edge} {x y : Operand} {v : Value}
    {t d' : Nat} {e bb : Nat} {z : Value} [hT : Slc P t e 1 bb z] {enc : α → Value} {xs : List α} {ty' : TypeId} {pos' : String} {after' : Array Edge} (i : Nat) (hi : rs[i]? = some (rE e enc v xs)) (hd : d < N) (hd' : d' < N)
    (a : α) (hx : env.ev x = some (enc a)) (hu : (enc a).oneCell' = true) (hzc : z.cells = #[z]) (hy : ∀ b, Env.ev ((d, .slice (some ⟨b, 0, none⟩) 1 1) :: env) y = some v) (hn : xs.length < 1099511627776) (hbb : bb ≤ 64)
    (k : ∀ v' b, SlOk v' (xs ++ [a]).length → HL P N ((d', v') :: (d, .slice (some ⟨b, 0, none⟩) 1 1) :: env) w0 (rs.set i (rE e enc v' (xs ++ [a]))) ops Q l) :
    HL P N env w0 rs ops Q (⟨some d, .buildSlice t 1 #[(0, x)], ty, pos, after, none⟩ :: ⟨some d', .call { callee := .builtin .append, args := #[y, .tmp d], argTypes := #[t, t] }, ty', pos', after', none⟩ :: l) := by
  refine hl_push i hi hd hd' hx hu hzc hy hn hbb (fun v' b hv' => ?_)
  have := k v' b (by simpa using hv')
  unfold rE at this
  simpa using this

theorem rows_nil {α : Type} (e1 e2 : TypeId) (enc : α → Value) {w0 w : World} {rs : List Res} (h : Mem w0 rs w) : Mem w0 (rs ++ [rRows e1 e2 enc (.slice none 0 0) [] []]) w := by
  refine h.add (r := rRows e1 e2 enc (.slice none 0 0) [] []) (Below.refl _ _) ⟨fun r hr => ?_, fun i j r s hij hi hj => ?_⟩ (fun b ⟨r, hr, hb⟩ => ?_)
  · simp [rRow] at hr; subst hr; exact ⟨rfl, .inl ⟨rfl, rfl⟩⟩
  · have h1 := (List.getElem?_eq_some_iff.1 hi).1
    have h2 := (List.getElem?_eq_some_iff.1 hj).1
    simp [rRow] at h1 h2; omega
  · simp [rRow] at hr; subst hr; simp [rOwn, Value.ownBlock] at hb
theorem rows_empty {α : Type} (e1 e2 : TypeId) (enc : α → Value) {w0 w : World} {v : Value} (h : Mem w0 [rOwn e1 1 v 0 []] w) : Mem w0 [rRows e1 e2 enc v [] []] w := by
  have h1 := Mem.under (a := rOwn e1 1 v 0 []) (l := []) h.empty
  simpa [rRows, rRow] using h1
theorem lit_ok (a : Addr) (n : Nat) (h : n ≤ 1000000) : SlOk (.slice (some a) n n) n := by
  unfold SlOk
  exact ⟨_, n, rfl, Nat.le_refl _, by unfold maxLen; omega, fun _ => rfl⟩
theorem nil_ok : SlOk (.slice none 0 0) 0 := by
  unfold SlOk
  exact ⟨none, 0, rfl, Nat.le_refl _, Nat.zero_le _, fun h => absurd rfl h⟩
section
variable {P : Program} {N : Nat} {env : Env} {w0 : World} {rs : List Res} {Q : Exit → Act → World → Prop} {ops : Array Oper} {l : List Oper} {c : Code} {e k n : Nat} {v : Value} {xs : List Value}
theorem hw_own (i : Nat) (hi : rs[i]? = some (rOwn e k v n xs)) (h : SlOk v n → HW P N env w0 rs c Q) : HW P N env w0 rs c Q := hw_fact (fun w hm => own_slOk hi hm) h
theorem hl_own (i : Nat) (hi : rs[i]? = some (rOwn e k v n xs)) (h : SlOk v n → HL P N env w0 rs ops Q l) : HL P N env w0 rs ops Q l := hl_fact (fun w hm => own_slOk hi hm) h
end

/-! ### A region whose ways meet again -/
section
variable {P : Program} {N : Nat} {env : Env} {w0 : World} {rs : List Res} {Q : Exit → Act → World → Prop}
/-- What is known where the ways meet. -/
def Joined (N : Nat) (E : Env) (w0 : World) (R : List Res) (a : Act) (w : World) : Prop := Sat N E a ∧ Mem w0 R w
theorem hw_anyJ (E : Env) (R : List Res) {id : Nat} {l : List Oper} (hm : P.follows .mixedOrders = true) (h : HA P N env w0 rs l.toArray (Exit.then (Joined N E w0 R) Q) l.length (Array.replicate l.length false))
    (k : HX N E w0 R (Q .normal)) : HW P N env w0 rs (.region id l.toArray true) Q := by
  unfold HW
  unfold HA at h
  unfold HX at k
  intro a w hs hmem
  refine wp_mono (wp_region_any hm (by have h1 := h a _ hs (hmem.draw (w.drawn + 1)); rw [← List.size_toArray] at h1; exact h1)) ?_
  intro e a' w' hq
  cases e with
  | normal => exact k a' w' hq.1 hq.2
  | _ => exact hq
theorem hx_join {E : Env} {R : List Res} (hle : env.le E) (hm : ∀ w, Mem w0 rs w → Mem w0 R w) : HX N env w0 rs (Exit.then (Joined N E w0 R) Q .normal) := by
  unfold HX
  exact fun a w hs hmem => ⟨hs.mono hle, hm w hmem⟩
theorem hw_regJ (E : Env) (R : List Res) {id : Nat} {l : List Oper} (h : HL P N env w0 rs l.toArray (Exit.then (Joined N E w0 R) Q) l) (k : HX N E w0 R (Q .normal)) : HW P N env w0 rs (.region id l.toArray false) Q := by
  unfold HW
  unfold HL at h
  unfold HX at k
  intro a w hs hmem
  refine wp_mono (wp_region_lit (h a w hs hmem)) ?_
  intro e a' w' hq
  cases e with
  | normal => exact k a' w' hq.1 hq.2
  | _ => exact hq
/-- Only the first resources are kept. -/
theorem Mem.keep {w : World} (R : List Res) {T : List Res} (h : Mem w0 (R ++ T) w) : Mem w0 R w :=
  h.weaken id _ (fun _ _ e _ _ => e) (fun i r hi => by
    show (R ++ T)[i]? = some r
    rw [List.getElem?_append_left (List.getElem?_eq_some_iff.1 hi).1]; exact hi)
end

/-! ### A guard that was not reckoned itself -/
section
variable {P : Program} {N : Nat} {env : Env} {w0 : World} {rs : List Res} {Q : Exit → Act → World → Prop} {ops : Array Oper} {l : List Oper} {K : Act → Prop} {op : Op} {d : Nat} {ty : TypeId} {pos : String} {after : Array Edge}
theorem wanted_un {a : Act} {i g : Nat} {c : Bool} (hs : Sat N env a) (ho : (ops[i]?).bind (·.dst) = some g) (hg : env.at g = some undef) {dst : Option Nat} :
    Region.wanted ⟨dst, op, ty, pos, after, some (i, c)⟩ (yielded ops a.tmps) = false := by
  have h : yielded ops a.tmps i = none := by
    simp [yielded, ho, hs.get g _ hg, undef]
  simp only [Region.wanted, h]
  cases c <;> decide
theorem hl_su {i g : Nat} {c : Bool} (h : HL P N ((d, undef) :: env) w0 rs ops Q l) (ho : (ops[i]?).bind (·.dst) = some g := by rfl) (hg : env.at g = some undef := by rfl) (hd : d < N := by decide) :
    HL P N env w0 rs ops Q (⟨some d, op, ty, pos, after, some (i, c)⟩ :: l) := by
  unfold HL at *
  intro a w hs hm
  refine wpList_step fun _ hK => ?_
  rw [if_neg (by rw [wanted_un hs ho hg]; exact Bool.false_ne_true)]
  exact hK _ _ (h _ w (hs.put undef hd) hm)
theorem hq_su {i g : Nat} {c : Bool} (h : HQ P N ((d, undef) :: env) w0 rs ops K l) (ho : (ops[i]?).bind (·.dst) = some g := by rfl) (hg : env.at g = some undef := by rfl) (hd : d < N := by decide) :
    HQ P N env w0 rs ops K (⟨some d, op, ty, pos, after, some (i, c)⟩ :: l) := by
  unfold HQ at *
  intro a hs
  refine wpQuiet_step fun _ hK => ?_
  rw [if_neg (by rw [wanted_un hs ho hg]; exact Bool.false_ne_true)]
  exact hK _ (h _ (hs.put undef hd))
end
end Go.Eng
