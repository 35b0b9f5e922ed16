/- Contracts: TidyMaps. -/
import Derived.Test.YteddlbgbakbpeaaF34
import Derived.Test.YteddlbgbakbpeaaF3
namespace Go.Proofs.Yteddlbgbakbpeaa
open Go.Eng Go.RowKit
set_option linter.unusedVariables false

/-- The first place of a list in a list of lists; their number, if it is not there. -/
def posL (x : List Int) : List (List Int) → Nat
  | [] => 0
  | y :: ys => if y = x then 0 else posL x ys + 1
theorem posL_at (x : List Int) : ∀ (L : List (List Int)) (i : Nat), i < L.length → L.getD i [] = x → (∀ j, j < i → L.getD j [] ≠ x) → posL x L = i
  | [], i, h, _, _ => by simp at h
  | y :: ys, 0, _, h, _ => by
    have : y = x := h
    rw [posL, if_pos this]
  | y :: ys, i + 1, hi, h, hn => by
    have h0 : y ≠ x := hn 0 (by omega)
    rw [posL, if_neg h0, posL_at x ys i (by simpa using hi) h (fun j hj => hn (j + 1) (by omega))]
theorem posL_no (x : List Int) : ∀ (L : List (List Int)), (∀ j, j < L.length → L.getD j [] ≠ x) → posL x L = L.length
  | [], _ => rfl
  | y :: ys, hn => by
    have h0 : y ≠ x := hn 0 (by simp)
    rw [posL, if_neg h0, posL_no x ys (fun j hj => hn (j + 1) (by simpa using hj))]; rfl
theorem posL_le (x : List Int) : ∀ L : List (List Int), posL x L ≤ L.length
  | [] => Nat.le_refl _
  | y :: ys => by
    have := posL_le x ys
    simp only [posL, List.length_cons]
    split <;> omega
def tdS (ks : List Int) (xss : List (List Int)) : Nat → List Int × List (List Int)
  | 0 => ([], [])
  | k + 1 =>
    if posL (xss.getD k []) (tdS ks xss k).2 < (tdS ks xss k).2.length then
      ((tdS ks xss k).1.set (posL (xss.getD k []) (tdS ks xss k).2) ((tdS ks xss k).1.getD (posL (xss.getD k []) (tdS ks xss k).2) 0 + ks.getD k 0), (tdS ks xss k).2)
    else ((tdS ks xss k).1 ++ [ks.getD k 0], (tdS ks xss k).2 ++ [xss.getD k []])
theorem tdS_len (ks : List Int) (xss : List (List Int)) : ∀ k, (tdS ks xss k).1.length = (tdS ks xss k).2.length ∧ (tdS ks xss k).2.length ≤ k
  | 0 => ⟨rfl, Nat.le_refl _⟩
  | k + 1 => by
    obtain ⟨h1, h2⟩ := tdS_len ks xss k
    rw [tdS]
    split
    · simp; omega
    · simp; omega
theorem tdS_at {ks : List Int} {xss : List (List Int)} {k i : Nat} (h : posL (xss.getD k []) (tdS ks xss k).2 = i) (hi : i < (tdS ks xss k).2.length) : tdS ks xss (k + 1) = ((tdS ks xss k).1.set i ((tdS ks xss k).1.getD i 0 + ks.getD k 0), (tdS ks xss k).2) := by
  rw [tdS, h, if_pos hi]
theorem tdS_no {ks : List Int} {xss : List (List Int)} {k : Nat} (h : posL (xss.getD k []) (tdS ks xss k).2 = (tdS ks xss k).2.length) : tdS ks xss (k + 1) = ((tdS ks xss k).1 ++ [ks.getD k 0], (tdS ks xss k).2 ++ [xss.getD k []]) := by
  rw [tdS, h, if_neg (by omega)]
theorem snoc_getD {α : Type} (d : α) (L : List α) (x : α) (i : Nat) (h : i < L.length + 1) : (L ++ [x]).getD i d = if i < L.length then L.getD i d else x := by
  split
  · rename_i h1
    rw [List.getD_eq_getElem?_getD, List.getElem?_append_left h1, ← List.getD_eq_getElem?_getD]
  · rename_i h1
    have : i = L.length := by omega
    subst this
    rw [List.getD_eq_getElem?_getD, List.getElem?_append_right (by omega)]; simp
theorem set_getD {α : Type} (d : α) (L : List α) (x : α) (i j : Nat) (h : i < L.length) : (L.set i x).getD j d = if j = i then x else L.getD j d := by
  rw [List.getD_eq_getElem?_getD, List.getElem?_set]
  by_cases e : i = j
  · subst e; simp [h]
  · rw [if_neg e, if_neg (fun e' => e e'.symm), ← List.getD_eq_getElem?_getD]
section
variable {st tot : Int} {ks : List Int} {xss : List (List Int)}
theorem tdS_bd (hv : ValidM st tot ks xss) : ∀ k, k ≤ xss.length → (∀ i, i < (tdS ks xss k).1.length → 0 ≤ (tdS ks xss k).1.getD i 0 ∧ (tdS ks xss k).1.getD i 0 ≤ 60 * k) ∧ ∀ i, i < (tdS ks xss k).2.length → ((tdS ks xss k).2.getD i []).length = st.toNat
  | 0, _ => ⟨fun i hi => by simp [tdS] at hi, fun i hi => by simp [tdS] at hi⟩
  | k + 1, hk => by
    obtain ⟨h1, h2⟩ := tdS_bd hv k (by omega)
    obtain ⟨l1, l2⟩ := tdS_len ks xss k
    have hkey := hv.key k (by omega)
    have ht := hv.t1
    have hrow := hv.rlen k (by omega)
    rw [tdS]
    split
    · rename_i h
      refine ⟨fun i hi => ?_, h2⟩
      simp only [List.length_set] at hi
      simp only [set_getD _ _ _ _ _ (show posL (xss.getD k []) (tdS ks xss k).2 < (tdS ks xss k).1.length by omega)]
      split
      · have := h1 (posL (xss.getD k []) (tdS ks xss k).2) (by omega); omega
      · have := h1 i hi; omega
    · refine ⟨fun i hi => ?_, fun i hi => ?_⟩
      · simp only [List.length_append, List.length_singleton] at hi
        simp only [snoc_getD _ _ _ _ hi]
        split
        · rename_i h; have := h1 i h; omega
        · omega
      · simp only [List.length_append, List.length_singleton] at hi
        simp only [snoc_getD _ _ _ _ hi]
        split
        · rename_i h; exact h2 i h
        · omega
end
theorem bldMap1 {x : Value} {n : Nat} (hx : SlOk x n) : Try.prog.built 92 [(1, x)] = some #[.int .i64 0, x] := by
  unfold SlOk at hx
  obtain ⟨p, c, rfl, _⟩ := hx
  kernel_rfl
noncomputable def tdM (st tot : Int) (ks : List Int) (xss : List (List Int)) : MpM := if ValidM st tot ks xss then ⟨st, tot, (tdS ks xss xss.length).1, (tdS ks xss xss.length).2, 0⟩ else pErr 1
theorem tdM_small (st tot : Int) (ks : List Int) (xss : List (List Int)) : Small (tdM st tot ks xss).xss := by
  unfold tdM
  split
  · rename_i h
    have h1 := h.len
    have h2 := tdS_len ks xss xss.length
    have h3 := h.s1
    refine ⟨by show (tdS ks xss xss.length).2.length ≤ _; omega, fun i hi => ?_⟩
    have := (tdS_bd h xss.length (Nat.le_refl _)).2 i hi
    show ((tdS ks xss xss.length).2.getD i []).length ≤ _
    omega
  · exact pErr_small 1
theorem tdM_len (st tot : Int) (ks : List Int) (xss : List (List Int)) : (tdM st tot ks xss).ks.length = (tdM st tot ks xss).xss.length := by
  unfold tdM
  split
  · exact (tdS_len ks xss xss.length).1
  · rfl

theorem tidy1_c {p : Addr} {k k' : Int} {u u' : Value} {xs ys : List Int} {w : World} (h1 : w.cell? (p.add 1) = some u) (hx : RdE (Value.int .i64) 0 w u xs) (hy : RdE (Value.int .i64) 0 w u' ys) :
    Ret Try.prog 95 [mpV k' u', .pointer (some p)] w (.bool (decide (xs = ys))) := by
  refine calls_hw Try.func95 Try.ntmps95 rfl rfl ?_
  repeat' (first | refine hl_a ?_ | refine hq_a ?_ | refine hl_nil ?_ | refine hq_nil ?_ | refine hq_ga ?_ | refine hq_sk ?_ | refine hq_su ?_ | refine hq_gT ?_ | refine hq_gF ?_ | refine hq_gd (fun h => ?_) (fun h => ?_) | refine hl_ga ?_ | refine hl_sk ?_ | refine hl_su ?_ | refine hl_gT ?_ | refine hl_gF ?_ | refine hl_gd (fun h => ?_) (fun h => ?_) | refine hx_next ?_ | refine hw_seq ?_ | refine hw_region ?_ | refine hw_dr ?_ | refine hw_block ?_ | refine hx_block ?_ | refine hw_tt ?_ | refine hw_ff ?_ | refine hw_iT ?_ | refine hw_iF ?_ | refine hw_skip ?_ | refine hw_ret ?_ | refine hw_exit ?_ | refine hx_then_ret ?_ | refine hx_block_ret ?_ | refine hx_then_exit ?_ | refine hx_block_here ?_ | refine hx_far ?_ | refine hx_any ?_ | (apply ha_end; decide +kernel))
  refine hl_box (by decide) rfl (fun b => ?_)
  repeat' (first | refine hl_a ?_ | refine hq_a ?_ | refine hl_nil ?_ | refine hq_nil ?_ | refine hq_ga ?_ | refine hq_sk ?_ | refine hq_su ?_ | refine hq_gT ?_ | refine hq_gF ?_ | refine hq_gd (fun h => ?_) (fun h => ?_) | refine hl_ga ?_ | refine hl_sk ?_ | refine hl_su ?_ | refine hl_gT ?_ | refine hl_gF ?_ | refine hl_gd (fun h => ?_) (fun h => ?_) | refine hx_next ?_ | refine hw_seq ?_ | refine hw_region ?_ | refine hw_dr ?_ | refine hw_block ?_ | refine hx_block ?_ | refine hw_tt ?_ | refine hw_ff ?_ | refine hw_iT ?_ | refine hw_iF ?_ | refine hw_skip ?_ | refine hw_ret ?_ | refine hw_exit ?_ | refine hx_then_ret ?_ | refine hx_block_ret ?_ | refine hx_then_exit ?_ | refine hx_block_here ?_ | refine hx_far ?_ | refine hx_any ?_ | (apply ha_end; decide +kernel))
  first | refine hl_q (by decide) (q_call (fun w hm => slicesEqual_c u u' xs ys w (hx.up hm.below) (hy.up hm.below)) rfl) ?_ | refine hq_q (by decide) (q_call (fun w hm => slicesEqual_c u u' xs ys w (hx.up hm.below) (hy.up hm.below)) rfl) ?_ | refine hl_g _ _ rfl rfl (by decide) (q_call (fun w hm => slicesEqual_c u u' xs ys w (hx.up hm.below) (hy.up hm.below)) rfl) ?_ | refine hq_g _ _ rfl rfl (by decide) (q_call (fun w hm => slicesEqual_c u u' xs ys w (hx.up hm.below) (hy.up hm.below)) rfl) ?_
  repeat' (first | refine hl_a ?_ | refine hq_a ?_ | refine hl_nil ?_ | refine hq_nil ?_ | refine hq_ga ?_ | refine hq_sk ?_ | refine hq_su ?_ | refine hq_gT ?_ | refine hq_gF ?_ | refine hq_gd (fun h => ?_) (fun h => ?_) | refine hl_ga ?_ | refine hl_sk ?_ | refine hl_su ?_ | refine hl_gT ?_ | refine hl_gF ?_ | refine hl_gd (fun h => ?_) (fun h => ?_) | refine hx_next ?_ | refine hw_seq ?_ | refine hw_region ?_ | refine hw_dr ?_ | refine hw_block ?_ | refine hx_block ?_ | refine hw_tt ?_ | refine hw_ff ?_ | refine hw_iT ?_ | refine hw_iF ?_ | refine hw_skip ?_ | refine hw_ret ?_ | refine hw_exit ?_ | refine hx_then_ret ?_ | refine hx_block_ret ?_ | refine hx_then_exit ?_ | refine hx_block_here ?_ | refine hx_far ?_ | refine hx_any ?_ | (apply ha_end; decide +kernel))
  exact hx_ret1 rfl rfl (fun w hm => ⟨rfl, hm.none⟩)
/-- The place as IndexFunc tells it. -/
def idxI (x : List Int) (L : List (List Int)) : Int := if posL x L < L.length then (posL x L : Int) else -1
theorem indexFuncM_c (f : FuncId) [hB : Body Try.prog f] (caps : List Value) (v : Value) (ks : List Int) (xss : List (List Int)) (row : Nat → Value) (x : List Int) (w : World) (hx : RdM w v ks xss row)
    (hf : ∀ w', Below w.heap.size w w' → ∀ i, i < xss.length → Ret Try.prog f (mpV (ks.getD i 0) (row i) :: caps) w' (.bool (decide (x = xss.getD i [])))) :
    Ret Try.prog 94 [v, .func (.func f) #[] caps.toArray] w (.int .i64 (idxI x xss)) := by
  refine calls_hw Try.func94 Try.ntmps94 rfl rfl ?_
  have hs := hx.sl
  have hle := hs.le
  repeat' (first | refine hl_a ?_ | refine hq_a ?_ | refine hl_nil ?_ | refine hq_nil ?_ | refine hq_ga ?_ | refine hq_sk ?_ | refine hq_su ?_ | refine hq_gT ?_ | refine hq_gF ?_ | refine hq_gd (fun h => ?_) (fun h => ?_) | refine hl_ga ?_ | refine hl_sk ?_ | refine hl_su ?_ | refine hl_gT ?_ | refine hl_gF ?_ | refine hl_gd (fun h => ?_) (fun h => ?_) | refine hx_next ?_ | refine hw_seq ?_ | refine hw_region ?_ | refine hw_dr ?_ | refine hw_block ?_ | refine hx_block ?_ | refine hw_tt ?_ | refine hw_ff ?_ | refine hw_iT ?_ | refine hw_iF ?_ | refine hw_skip ?_ | refine hw_ret ?_ | refine hw_exit ?_ | refine hx_then_ret ?_ | refine hx_block_ret ?_ | refine hx_then_exit ?_ | refine hx_block_here ?_ | refine hx_far ?_ | refine hx_any ?_ | (apply ha_end; decide +kernel))
  refine hw_loop (fun e r m => r = [] ∧ ∃ k : Nat, k ≤ xss.length ∧ m = xss.length - k ∧ e = [(0, v), (1, .func (.func f) #[] caps.toArray), (7, .int .i64 (xss.length : Int)), (8, .int .i64 k)] ∧ ∀ j, j < k → xss.getD j [] ≠ x)
    ⟨rfl, 0, Nat.zero_le _, rfl, rfl, by omega⟩ ⟨rfl, rfl, rfl, rfl, trivial⟩ ?_
  rintro _ _ _ ⟨rfl, k, hk, rfl, rfl, hall⟩
  repeat' (first | refine hl_a ?_ | refine hq_a ?_ | refine hl_nil ?_ | refine hq_nil ?_ | refine hq_ga ?_ | refine hq_sk ?_ | refine hq_su ?_ | refine hq_gT ?_ | refine hq_gF ?_ | refine hq_gd (fun h => ?_) (fun h => ?_) | refine hl_ga ?_ | refine hl_sk ?_ | refine hl_su ?_ | refine hl_gT ?_ | refine hl_gF ?_ | refine hl_gd (fun h => ?_) (fun h => ?_) | refine hx_next ?_ | refine hw_seq ?_ | refine hw_region ?_ | refine hw_dr ?_ | refine hw_block ?_ | refine hx_block ?_ | refine hw_tt ?_ | refine hw_ff ?_ | refine hw_iT ?_ | refine hw_iF ?_ | refine hw_skip ?_ | refine hw_ret ?_ | refine hw_exit ?_ | refine hx_then_ret ?_ | refine hx_block_ret ?_ | refine hx_then_exit ?_ | refine hx_block_here ?_ | refine hx_far ?_ | refine hx_any ?_ | (apply ha_end; decide +kernel))
  refine hw_if rfl (fun hlt => ?_) (fun hge => ?_)
  · have hk2 : k < xss.length := by omega
    have hc := hx.get k hk2
    have hc0 := hx.key k hk2
    have hcall : ∀ w', Mem w [] w' → Ret Try.prog f (mpV (ks.getD k 0) (row k) :: caps) w' (.bool (decide (x = xss.getD k []))) := fun w' hm => hf w' hm.below k hk2
    repeat' (first | refine hl_a ?_ | refine hq_a ?_ | refine hl_nil ?_ | refine hq_nil ?_ | refine hq_ga ?_ | refine hq_sk ?_ | refine hq_su ?_ | refine hq_gT ?_ | refine hq_gF ?_ | refine hq_gd (fun h => ?_) (fun h => ?_) | refine hl_ga ?_ | refine hl_sk ?_ | refine hl_su ?_ | refine hl_gT ?_ | refine hl_gF ?_ | refine hl_gd (fun h => ?_) (fun h => ?_) | refine hx_next ?_ | refine hw_seq ?_ | refine hw_region ?_ | refine hw_dr ?_ | refine hw_block ?_ | refine hx_block ?_ | refine hw_tt ?_ | refine hw_ff ?_ | refine hw_iT ?_ | refine hw_iF ?_ | refine hw_skip ?_ | refine hw_ret ?_ | refine hw_exit ?_ | refine hx_then_ret ?_ | refine hx_block_ret ?_ | refine hx_then_exit ?_ | refine hx_block_here ?_ | refine hx_far ?_ | refine hx_any ?_ | (apply ha_end; decide +kernel))
    first | refine hl_q (by decide) (q_callv (vs := [mpV (ks.getD k 0) (row k)]) rfl rfl hcall) ?_ | refine hq_q (by decide) (q_callv (vs := [mpV (ks.getD k 0) (row k)]) rfl rfl hcall) ?_ | refine hl_g _ _ rfl rfl (by decide) (q_callv (vs := [mpV (ks.getD k 0) (row k)]) rfl rfl hcall) ?_ | refine hq_g _ _ rfl rfl (by decide) (q_callv (vs := [mpV (ks.getD k 0) (row k)]) rfl rfl hcall) ?_
    repeat' (first | refine hl_a ?_ | refine hq_a ?_ | refine hl_nil ?_ | refine hq_nil ?_ | refine hq_ga ?_ | refine hq_sk ?_ | refine hq_su ?_ | refine hq_gT ?_ | refine hq_gF ?_ | refine hq_gd (fun h => ?_) (fun h => ?_) | refine hl_ga ?_ | refine hl_sk ?_ | refine hl_su ?_ | refine hl_gT ?_ | refine hl_gF ?_ | refine hl_gd (fun h => ?_) (fun h => ?_) | refine hx_next ?_ | refine hw_seq ?_ | refine hw_region ?_ | refine hw_dr ?_ | refine hw_block ?_ | refine hx_block ?_ | refine hw_tt ?_ | refine hw_ff ?_ | refine hw_iT ?_ | refine hw_iF ?_ | refine hw_skip ?_ | refine hw_ret ?_ | refine hw_exit ?_ | refine hx_then_ret ?_ | refine hx_block_ret ?_ | refine hx_then_exit ?_ | refine hx_block_here ?_ | refine hx_far ?_ | refine hx_any ?_ | (apply ha_end; decide +kernel))
    refine hw_if rfl (fun h => ?_) (fun h => ?_)
    · repeat' (first | refine hl_a ?_ | refine hq_a ?_ | refine hl_nil ?_ | refine hq_nil ?_ | refine hq_ga ?_ | refine hq_sk ?_ | refine hq_su ?_ | refine hq_gT ?_ | refine hq_gF ?_ | refine hq_gd (fun h => ?_) (fun h => ?_) | refine hl_ga ?_ | refine hl_sk ?_ | refine hl_su ?_ | refine hl_gT ?_ | refine hl_gF ?_ | refine hl_gd (fun h => ?_) (fun h => ?_) | refine hx_next ?_ | refine hw_seq ?_ | refine hw_region ?_ | refine hw_dr ?_ | refine hw_block ?_ | refine hx_block ?_ | refine hw_tt ?_ | refine hw_ff ?_ | refine hw_iT ?_ | refine hw_iF ?_ | refine hw_skip ?_ | refine hw_ret ?_ | refine hw_exit ?_ | refine hx_then_ret ?_ | refine hx_block_ret ?_ | refine hx_then_exit ?_ | refine hx_block_here ?_ | refine hx_far ?_ | refine hx_any ?_ | (apply ha_end; decide +kernel))
      refine hx_ret1 rfl rfl (fun w hm => ⟨?_, hm.none⟩)
      rw [idxI, posL_at x xss k hk2 h.symm hall, if_pos hk2]
    · repeat' (first | refine hl_a ?_ | refine hq_a ?_ | refine hl_nil ?_ | refine hq_nil ?_ | refine hq_ga ?_ | refine hq_sk ?_ | refine hq_su ?_ | refine hq_gT ?_ | refine hq_gF ?_ | refine hq_gd (fun h => ?_) (fun h => ?_) | refine hl_ga ?_ | refine hl_sk ?_ | refine hl_su ?_ | refine hl_gT ?_ | refine hl_gF ?_ | refine hl_gd (fun h => ?_) (fun h => ?_) | refine hx_next ?_ | refine hw_seq ?_ | refine hw_region ?_ | refine hw_dr ?_ | refine hw_block ?_ | refine hx_block ?_ | refine hw_tt ?_ | refine hw_ff ?_ | refine hw_iT ?_ | refine hw_iF ?_ | refine hw_skip ?_ | refine hw_ret ?_ | refine hw_exit ?_ | refine hx_then_ret ?_ | refine hx_block_ret ?_ | refine hx_then_exit ?_ | refine hx_block_here ?_ | refine hx_far ?_ | refine hx_any ?_ | (apply ha_end; decide +kernel))
      refine hx_round ⟨rfl, k + 1, hk2, rfl, rfl, fun j hj => ?_⟩ (by omega) ⟨rfl, rfl, rfl, rfl, trivial⟩
      by_cases e : j = k
      · subst e; exact fun e => h e.symm
      · exact hall j (by omega)
  · repeat' (first | refine hl_a ?_ | refine hq_a ?_ | refine hl_nil ?_ | refine hq_nil ?_ | refine hq_ga ?_ | refine hq_sk ?_ | refine hq_su ?_ | refine hq_gT ?_ | refine hq_gF ?_ | refine hq_gd (fun h => ?_) (fun h => ?_) | refine hl_ga ?_ | refine hl_sk ?_ | refine hl_su ?_ | refine hl_gT ?_ | refine hl_gF ?_ | refine hl_gd (fun h => ?_) (fun h => ?_) | refine hx_next ?_ | refine hw_seq ?_ | refine hw_region ?_ | refine hw_dr ?_ | refine hw_block ?_ | refine hx_block ?_ | refine hw_tt ?_ | refine hw_ff ?_ | refine hw_iT ?_ | refine hw_iF ?_ | refine hw_skip ?_ | refine hw_ret ?_ | refine hw_exit ?_ | refine hx_then_ret ?_ | refine hx_block_ret ?_ | refine hx_then_exit ?_ | refine hx_block_here ?_ | refine hx_far ?_ | refine hx_any ?_ | (apply ha_end; decide +kernel))
    refine hx_ret1 rfl rfl (fun w hm => ⟨?_, hm.none⟩)
    rw [idxI, posL_no x xss (fun j hj => hall j (by omega)), if_neg (by omega)]
set_option maxHeartbeats 4000000 in
theorem implTidyMaps_c (st tot : Int) (v : Value) (ks : List Int) (xss : List (List Int)) (row : Nat → Value) (w : World) (hr : RdM w v ks xss row) :
    Gives Try.prog 42 [chV st tot v] w (MpOut 92 2 (tdM st tot ks xss)) := by
  refine calls_hw Try.func42 Try.ntmps42 rfl rfl ?_
  have hsl := hr.sl
  have hkl := hr.len
  repeat' (first | refine hl_a ?_ | refine hq_a ?_ | refine hl_nil ?_ | refine hq_nil ?_ | refine hq_ga ?_ | refine hq_sk ?_ | refine hq_su ?_ | refine hq_gT ?_ | refine hq_gF ?_ | refine hq_gd (fun h => ?_) (fun h => ?_) | refine hl_ga ?_ | refine hl_sk ?_ | refine hl_su ?_ | refine hl_gT ?_ | refine hl_gF ?_ | refine hl_gd (fun h => ?_) (fun h => ?_) | refine hx_next ?_ | refine hw_seq ?_ | refine hw_region ?_ | refine hw_dr ?_ | refine hw_block ?_ | refine hx_block ?_ | refine hw_tt ?_ | refine hw_ff ?_ | refine hw_iT ?_ | refine hw_iF ?_ | refine hw_skip ?_ | refine hw_ret ?_ | refine hw_exit ?_ | refine hx_then_ret ?_ | refine hx_block_ret ?_ | refine hx_then_exit ?_ | refine hx_block_here ?_ | refine hx_far ?_ | refine hx_any ?_ | (apply ha_end; decide +kernel))
  refine hl_box (by decide) rfl (fun b => ?_)
  refine hl_alloc (by decide) (fun b0 => ?_)
  repeat' (first | refine hl_a ?_ | refine hq_a ?_ | refine hl_nil ?_ | refine hq_nil ?_ | refine hq_ga ?_ | refine hq_sk ?_ | refine hq_su ?_ | refine hq_gT ?_ | refine hq_gF ?_ | refine hq_gd (fun h => ?_) (fun h => ?_) | refine hl_ga ?_ | refine hl_sk ?_ | refine hl_su ?_ | refine hl_gT ?_ | refine hl_gF ?_ | refine hl_gd (fun h => ?_) (fun h => ?_) | refine hx_next ?_ | refine hw_seq ?_ | refine hw_region ?_ | refine hw_dr ?_ | refine hw_block ?_ | refine hx_block ?_ | refine hw_tt ?_ | refine hw_ff ?_ | refine hw_iT ?_ | refine hw_iF ?_ | refine hw_skip ?_ | refine hw_ret ?_ | refine hw_exit ?_ | refine hx_then_ret ?_ | refine hx_block_ret ?_ | refine hx_then_exit ?_ | refine hx_block_here ?_ | refine hx_far ?_ | refine hx_any ?_ | (apply ha_end; decide +kernel))
  first | refine hl_q (by decide) (q_call (fun w hm => implValidMaps_c st tot v ks xss row w (hr.up hm.below)) rfl) ?_ | refine hq_q (by decide) (q_call (fun w hm => implValidMaps_c st tot v ks xss row w (hr.up hm.below)) rfl) ?_ | refine hl_g _ _ rfl rfl (by decide) (q_call (fun w hm => implValidMaps_c st tot v ks xss row w (hr.up hm.below)) rfl) ?_ | refine hq_g _ _ rfl rfl (by decide) (q_call (fun w hm => implValidMaps_c st tot v ks xss row w (hr.up hm.below)) rfl) ?_
  repeat' (first | refine hl_a ?_ | refine hq_a ?_ | refine hl_nil ?_ | refine hq_nil ?_ | refine hq_ga ?_ | refine hq_sk ?_ | refine hq_su ?_ | refine hq_gT ?_ | refine hq_gF ?_ | refine hq_gd (fun h => ?_) (fun h => ?_) | refine hl_ga ?_ | refine hl_sk ?_ | refine hl_su ?_ | refine hl_gT ?_ | refine hl_gF ?_ | refine hl_gd (fun h => ?_) (fun h => ?_) | refine hx_next ?_ | refine hw_seq ?_ | refine hw_region ?_ | refine hw_dr ?_ | refine hw_block ?_ | refine hx_block ?_ | refine hw_tt ?_ | refine hw_ff ?_ | refine hw_iT ?_ | refine hw_iF ?_ | refine hw_skip ?_ | refine hw_ret ?_ | refine hw_exit ?_ | refine hx_then_ret ?_ | refine hx_block_ret ?_ | refine hx_then_exit ?_ | refine hx_block_here ?_ | refine hx_far ?_ | refine hx_any ?_ | (apply ha_end; decide +kernel))
  refine hw_if rfl (fun h => ?_) (fun h => ?_)
  · repeat' (first | refine hl_a ?_ | refine hq_a ?_ | refine hl_nil ?_ | refine hq_nil ?_ | refine hq_ga ?_ | refine hq_sk ?_ | refine hq_su ?_ | refine hq_gT ?_ | refine hq_gF ?_ | refine hq_gd (fun h => ?_) (fun h => ?_) | refine hl_ga ?_ | refine hl_sk ?_ | refine hl_su ?_ | refine hl_gT ?_ | refine hl_gF ?_ | refine hl_gd (fun h => ?_) (fun h => ?_) | refine hx_next ?_ | refine hw_seq ?_ | refine hw_region ?_ | refine hw_dr ?_ | refine hw_block ?_ | refine hx_block ?_ | refine hw_tt ?_ | refine hw_ff ?_ | refine hw_iT ?_ | refine hw_iF ?_ | refine hw_skip ?_ | refine hw_ret ?_ | refine hw_exit ?_ | refine hx_then_ret ?_ | refine hx_block_ret ?_ | refine hx_then_exit ?_ | refine hx_block_here ?_ | refine hx_far ?_ | refine hx_any ?_ | (apply ha_end; decide +kernel) | (apply hl_q; decide; (first | exact q_bld [] #[.int .i64 0, .int .i64 0, .slice none 0 0] rfl (by kernel_rfl))) | (apply hq_q; decide; (first | exact q_bld [] #[.int .i64 0, .int .i64 0, .slice none 0 0] rfl (by kernel_rfl))) | (apply hq_g; rfl; rfl; decide; (first | exact q_bld [] #[.int .i64 0, .int .i64 0, .slice none 0 0] rfl (by kernel_rfl))) | (apply hl_g; rfl; rfl; decide; (first | exact q_bld [] #[.int .i64 0, .int .i64 0, .slice none 0 0] rfl (by kernel_rfl))))
    refine hl_storeA 1 rfl rfl rfl rfl rfl (chV_one nil_ok) ?_
    repeat' (first | refine hl_a ?_ | refine hq_a ?_ | refine hl_nil ?_ | refine hq_nil ?_ | refine hq_ga ?_ | refine hq_sk ?_ | refine hq_su ?_ | refine hq_gT ?_ | refine hq_gF ?_ | refine hq_gd (fun h => ?_) (fun h => ?_) | refine hl_ga ?_ | refine hl_sk ?_ | refine hl_su ?_ | refine hl_gT ?_ | refine hl_gF ?_ | refine hl_gd (fun h => ?_) (fun h => ?_) | refine hx_next ?_ | refine hw_seq ?_ | refine hw_region ?_ | refine hw_dr ?_ | refine hw_block ?_ | refine hx_block ?_ | refine hw_tt ?_ | refine hw_ff ?_ | refine hw_iT ?_ | refine hw_iF ?_ | refine hw_skip ?_ | refine hw_ret ?_ | refine hw_exit ?_ | refine hx_then_ret ?_ | refine hx_block_ret ?_ | refine hx_then_exit ?_ | refine hx_block_here ?_ | refine hx_far ?_ | refine hx_any ?_ | (apply ha_end; decide +kernel))
    exact hx_retBt 1 rfl rfl rfl rfl rfl (fun w hm => ⟨_, _, rfl, maps_nil 92 2 hm.none, by rw [tdM, if_neg h]; exact mpErr _ _ _ rfl⟩)
  have hv := Classical.not_not.1 h
  obtain ⟨n, rfl, hn1, hn6⟩ := hv.nat
  have hlen := hv.len
  have hM : tdM (n : Int) tot ks xss = ⟨n, tot, (tdS ks xss xss.length).1, (tdS ks xss xss.length).2, 0⟩ := by rw [tdM, if_pos hv]
  repeat' (first | refine hl_a ?_ | refine hq_a ?_ | refine hl_nil ?_ | refine hq_nil ?_ | refine hq_ga ?_ | refine hq_sk ?_ | refine hq_su ?_ | refine hq_gT ?_ | refine hq_gF ?_ | refine hq_gd (fun h => ?_) (fun h => ?_) | refine hl_ga ?_ | refine hl_sk ?_ | refine hl_su ?_ | refine hl_gT ?_ | refine hl_gF ?_ | refine hl_gd (fun h => ?_) (fun h => ?_) | refine hx_next ?_ | refine hw_seq ?_ | refine hw_region ?_ | refine hw_dr ?_ | refine hw_block ?_ | refine hx_block ?_ | refine hw_tt ?_ | refine hw_ff ?_ | refine hw_iT ?_ | refine hw_iF ?_ | refine hw_skip ?_ | refine hw_ret ?_ | refine hw_exit ?_ | refine hx_then_ret ?_ | refine hx_block_ret ?_ | refine hx_then_exit ?_ | refine hx_block_here ?_ | refine hx_far ?_ | refine hx_any ?_ | (apply ha_end; decide +kernel) | (apply hl_q; decide; exact q_bld [(0, .int .i64 (n : Int)), (1, .int .i64 tot)] #[.int .i64 (n : Int), .int .i64 tot, .slice none 0 0] rfl (by kernel_rfl)) | (apply hq_q; decide; exact q_bld [(0, .int .i64 (n : Int)), (1, .int .i64 tot)] #[.int .i64 (n : Int), .int .i64 tot, .slice none 0 0] rfl (by kernel_rfl)) | (apply hq_g; rfl; rfl; decide; exact q_bld [(0, .int .i64 (n : Int)), (1, .int .i64 tot)] #[.int .i64 (n : Int), .int .i64 tot, .slice none 0 0] rfl (by kernel_rfl)) | (apply hl_g; rfl; rfl; decide; exact q_bld [(0, .int .i64 (n : Int)), (1, .int .i64 tot)] #[.int .i64 (n : Int), .int .i64 tot, .slice none 0 0] rfl (by kernel_rfl)))
  refine hl_alloc (by decide) (fun b1 => ?_)
  refine hl_storeA 2 rfl rfl rfl rfl rfl (chV_one nil_ok) ?_
  repeat' (first | refine hl_a ?_ | refine hq_a ?_ | refine hl_nil ?_ | refine hq_nil ?_ | refine hq_ga ?_ | refine hq_sk ?_ | refine hq_su ?_ | refine hq_gT ?_ | refine hq_gF ?_ | refine hq_gd (fun h => ?_) (fun h => ?_) | refine hl_ga ?_ | refine hl_sk ?_ | refine hl_su ?_ | refine hl_gT ?_ | refine hl_gF ?_ | refine hl_gd (fun h => ?_) (fun h => ?_) | refine hx_next ?_ | refine hw_seq ?_ | refine hw_region ?_ | refine hw_dr ?_ | refine hw_block ?_ | refine hx_block ?_ | refine hw_tt ?_ | refine hw_ff ?_ | refine hw_iT ?_ | refine hw_iF ?_ | refine hw_skip ?_ | refine hw_ret ?_ | refine hw_exit ?_ | refine hx_then_ret ?_ | refine hx_block_ret ?_ | refine hx_then_exit ?_ | refine hx_block_here ?_ | refine hx_far ?_ | refine hx_any ?_ | (apply ha_end; decide +kernel))
  refine hw_mem (fun w hm => ((hm.nilOwn 92 2).empty).pick (rs' := [_, _, _, _]) [2, 1, 3, 4] (by simp) rfl) ?_
  refine hw_loop (fun e r m => ∃ (k : Nat) (u : Value) (us : List Value), r = [rBlk b1 #[.int .i64 (n : Int), .int .i64 tot, u] 33, rBlk b0 #[.int .i64 0, .int .i64 0, .slice none 0 0] 33, rOwn 92 2 u (tdS ks xss k).2.length (cells2 (tdS ks xss k).1 us), rStar (rRow 2 (Value.int .i64) us (tdS ks xss k).2)] ∧ us.length = (tdS ks xss k).2.length ∧ k ≤ xss.length ∧ m = xss.length - k ∧ e = [(2, .pointer (some ⟨b0, 0, none⟩)), (4, .pointer (some ⟨b1, 0, none⟩)), (18, v), (19, .int .i64 (xss.length : Int)), (20, .int .i64 (k : Int))])
    ⟨0, .slice none 0 0, [], rfl, rfl, Nat.zero_le _, rfl, rfl⟩ ⟨rfl, rfl, rfl, rfl, rfl, trivial⟩ ?_
  rintro _ _ _ ⟨k, u, us, rfl, hus, hk, rfl, rfl⟩
  refine hw_own 2 rfl (fun hu => ?_)
  repeat' (first | refine hl_a ?_ | refine hq_a ?_ | refine hl_nil ?_ | refine hq_nil ?_ | refine hq_ga ?_ | refine hq_sk ?_ | refine hq_su ?_ | refine hq_gT ?_ | refine hq_gF ?_ | refine hq_gd (fun h => ?_) (fun h => ?_) | refine hl_ga ?_ | refine hl_sk ?_ | refine hl_su ?_ | refine hl_gT ?_ | refine hl_gF ?_ | refine hl_gd (fun h => ?_) (fun h => ?_) | refine hx_next ?_ | refine hw_seq ?_ | refine hw_region ?_ | refine hw_dr ?_ | refine hw_block ?_ | refine hx_block ?_ | refine hw_tt ?_ | refine hw_ff ?_ | refine hw_iT ?_ | refine hw_iF ?_ | refine hw_skip ?_ | refine hw_ret ?_ | refine hw_exit ?_ | refine hx_then_ret ?_ | refine hx_block_ret ?_ | refine hx_then_exit ?_ | refine hx_block_here ?_ | refine hx_far ?_ | refine hx_any ?_ | (apply ha_end; decide +kernel))
  refine hw_if rfl (fun hlt => ?_) (fun hge => ?_)
  · have hk2 : k < xss.length := by omega
    have ck := hr.get k hk2
    have ck0 := hr.key k hk2
    have hrk := hr.row k hk2
    have sk := hrk.sl
    have hkey := hv.key k hk2
    have ht1 := hv.t1
    have hrl := hv.rlen k hk2
    obtain ⟨l1, l2⟩ := tdS_len ks xss k
    have hbd := (tdS_bd hv k (by omega)).1
    repeat' (first | refine hl_a ?_ | refine hq_a ?_ | refine hl_nil ?_ | refine hq_nil ?_ | refine hq_ga ?_ | refine hq_sk ?_ | refine hq_su ?_ | refine hq_gT ?_ | refine hq_gF ?_ | refine hq_gd (fun h => ?_) (fun h => ?_) | refine hl_ga ?_ | refine hl_sk ?_ | refine hl_su ?_ | refine hl_gT ?_ | refine hl_gF ?_ | refine hl_gd (fun h => ?_) (fun h => ?_) | refine hx_next ?_ | refine hw_seq ?_ | refine hw_region ?_ | refine hw_dr ?_ | refine hw_block ?_ | refine hx_block ?_ | refine hw_tt ?_ | refine hw_ff ?_ | refine hw_iT ?_ | refine hw_iF ?_ | refine hw_skip ?_ | refine hw_ret ?_ | refine hw_exit ?_ | refine hx_then_ret ?_ | refine hx_block_ret ?_ | refine hx_then_exit ?_ | refine hx_block_here ?_ | refine hx_far ?_ | refine hx_any ?_ | (apply ha_end; decide +kernel))
    refine hl_alloc (by decide) (fun bx => ?_)
    refine hl_mem (fun w hm => hm.pick (rs' := [_, _, _, _, _]) [0, 4, 1, 2, 3] (by simp) rfl) ?_
    refine hl_storeA 1 rfl rfl rfl rfl rfl (mp_one sk) ?_
    repeat' (first | refine hl_a ?_ | refine hq_a ?_ | refine hl_nil ?_ | refine hq_nil ?_ | refine hq_ga ?_ | refine hq_sk ?_ | refine hq_su ?_ | refine hq_gT ?_ | refine hq_gF ?_ | refine hq_gd (fun h => ?_) (fun h => ?_) | refine hl_ga ?_ | refine hl_sk ?_ | refine hl_su ?_ | refine hl_gT ?_ | refine hl_gF ?_ | refine hl_gd (fun h => ?_) (fun h => ?_) | refine hx_next ?_ | refine hw_seq ?_ | refine hw_region ?_ | refine hw_dr ?_ | refine hw_block ?_ | refine hx_block ?_ | refine hw_tt ?_ | refine hw_ff ?_ | refine hw_iT ?_ | refine hw_iF ?_ | refine hw_skip ?_ | refine hw_ret ?_ | refine hw_exit ?_ | refine hx_then_ret ?_ | refine hx_block_ret ?_ | refine hx_then_exit ?_ | refine hx_block_here ?_ | refine hx_far ?_ | refine hx_any ?_ | (apply ha_end; decide +kernel))
    first | refine hl_q (by decide) (q_fn [.pointer (some ⟨bx, 0, none⟩)] rfl) ?_ | refine hq_q (by decide) (q_fn [.pointer (some ⟨bx, 0, none⟩)] rfl) ?_ | refine hl_g _ _ rfl rfl (by decide) (q_fn [.pointer (some ⟨bx, 0, none⟩)] rfl) ?_ | refine hq_g _ _ rfl rfl (by decide) (q_fn [.pointer (some ⟨bx, 0, none⟩)] rfl) ?_
    have hcI : ∀ w', Mem w [rBlk b1 #[.int .i64 (n : Int), .int .i64 tot, u] 33, rBlk bx #[.int .i64 (ks.getD k 0), row k] 92, rBlk b0 #[.int .i64 0, .int .i64 0, .slice none 0 0] 33, rOwn 92 2 u (tdS ks xss k).2.length (cells2 (tdS ks xss k).1 us), rStar (rRow 2 (Value.int .i64) us (tdS ks xss k).2)] w' → Ret Try.prog 94 [u, .func (.func 95) #[] #[.pointer (some ⟨bx, 0, none⟩)]] w' (.int .i64 (idxI (xss.getD k []) (tdS ks xss k).2)) := fun w' hm => by
      have hm2 : Mem w ([] ++ [rMaps 92 2 u us (tdS ks xss k).1 (tdS ks xss k).2]) w' := hm.maps [] [] 3 4 hus.symm (by decide) rfl rfl rfl
      have hrd := hm2.rdM 0 rfl hus l1
      exact indexFuncM_c 95 [.pointer (some ⟨bx, 0, none⟩)] u (tdS ks xss k).1 (tdS ks xss k).2 _ (xss.getD k []) w' hrd (fun w2 hb i hi => tidy1_c (k := ks.getD k 0) (cell_up hb ((ld_blkA (w0 := w) (off := 1) 1 rfl rfl rfl).cell hm)) ((hrk.up hm.below).up hb) ((hrd.row i hi).up hb))
    first | refine hl_q (by decide) (q_call (fun w hm => hcI w hm) rfl) ?_ | refine hq_q (by decide) (q_call (fun w hm => hcI w hm) rfl) ?_ | refine hl_g _ _ rfl rfl (by decide) (q_call (fun w hm => hcI w hm) rfl) ?_ | refine hq_g _ _ rfl rfl (by decide) (q_call (fun w hm => hcI w hm) rfl) ?_
    rcases Classical.em (posL (xss.getD k []) (tdS ks xss k).2 < (tdS ks xss k).2.length) with hp | hp
    · obtain ⟨i, hi⟩ : ∃ i, posL (xss.getD k []) (tdS ks xss k).2 = i := ⟨_, rfl⟩
      rw [hi] at hp
      have hx1 : idxI (xss.getD k []) (tdS ks xss k).2 = (i : Int) := by rw [idxI, hi, if_pos hp]
      have hT := tdS_at hi hp
      have hbi := hbd i (by omega)
      have h0 : 0 ≤ (i : Int) := by omega
      rw [hx1]
      have hld : Ld w [rBlk b1 #[.int .i64 (n : Int), .int .i64 tot, u] 33, rBlk bx #[.int .i64 (ks.getD k 0), row k] 92, rBlk b0 #[.int .i64 0, .int .i64 0, .slice none 0 0] 33, rOwn 92 2 u (tdS ks xss k).2.length (cells2 (tdS ks xss k).1 us), rStar (rRow 2 (Value.int .i64) us (tdS ks xss k).2)] ((vAt u (i * 2)).add 0) (.int .i64 ((tdS ks xss k).1.getD i 0)) := by
        rw [vAt_add hu hp, Nat.add_zero]
        exact ld_own 3 rfl (cells2_0 _ _ _ (by omega) (by omega))
      repeat' (first | refine hl_a ?_ | refine hq_a ?_ | refine hl_nil ?_ | refine hq_nil ?_ | refine hq_ga ?_ | refine hq_sk ?_ | refine hq_su ?_ | refine hq_gT ?_ | refine hq_gF ?_ | refine hq_gd (fun h => ?_) (fun h => ?_) | refine hl_ga ?_ | refine hl_sk ?_ | refine hl_su ?_ | refine hl_gT ?_ | refine hl_gF ?_ | refine hl_gd (fun h => ?_) (fun h => ?_) | refine hx_next ?_ | refine hw_seq ?_ | refine hw_region ?_ | refine hw_block ?_ | refine hx_block ?_ | refine hw_tt ?_ | refine hw_ff ?_ | refine hw_iT ?_ | refine hw_iF ?_ | refine hw_skip ?_ | refine hw_ret ?_ | refine hw_exit ?_ | refine hx_then_ret ?_ | refine hx_block_ret ?_ | refine hx_then_exit ?_ | refine hx_block_here ?_ | refine hx_far ?_ | refine hx_any ?_ | (apply ha_end; decide +kernel))
      refine hw_g [rBlk b1 #[.int .i64 (n : Int), .int .i64 tot, u] 33, rBlk bx #[.int .i64 (ks.getD k 0), row k] 92, rBlk b0 #[.int .i64 0, .int .i64 0, .slice none 0 0] 33, rOwn 92 2 u (tdS ks xss k).2.length (cells2 (tdS ks xss k).1 us), rStar (rRow 2 (Value.int .i64) us (tdS ks xss k).2)] 11 (by kernel_rfl) ?_
      first | refine hg_t 0 ?_ | refine hg_tn 0 ?_
      first | refine hg_t 1 ?_ | refine hg_tn 1 ?_
      first | refine hg_t 2 ?_ | refine hg_tn 2 ?_
      first | refine hg_t 3 ?_ | refine hg_tn 3 ?_
      first | refine hg_t 4 ?_ | refine hg_tn 4 ?_
      first | refine hg_t 5 ?_ | refine hg_tn 5 ?_
      first | refine hg_t 6 ?_ | refine hg_tn 6 ?_
      first | refine hg_t 7 ?_ | refine hg_tn 7 ?_
      first | refine hg_t 8 ?_ | refine hg_tn 8 ?_
      first | refine hg_t 9 ?_ | refine hg_tn 9 ?_
      first | refine hg_t 10 ?_ | refine hg_tn 10 ?_
      refine hg_1 11 (by decide +kernel) rfl ?_
      refine hl_storeC 3 (i := i * 2) rfl rfl (vAt_add hu hp 0) (by omega) rfl rfl ?_
      rw [cells2_set0 _ _ _ _ (by omega)]
      refine hl_nil ?_
      refine hx_hgT rfl ?_
      refine hg_end (by decide +kernel) ?_
      repeat' (first | refine hl_a ?_ | refine hq_a ?_ | refine hl_nil ?_ | refine hq_nil ?_ | refine hq_ga ?_ | refine hq_sk ?_ | refine hq_su ?_ | refine hq_gT ?_ | refine hq_gF ?_ | refine hq_gd (fun h => ?_) (fun h => ?_) | refine hl_ga ?_ | refine hl_sk ?_ | refine hl_su ?_ | refine hl_gT ?_ | refine hl_gF ?_ | refine hl_gd (fun h => ?_) (fun h => ?_) | refine hx_next ?_ | refine hw_seq ?_ | refine hw_region ?_ | refine hw_block ?_ | refine hx_block ?_ | refine hw_tt ?_ | refine hw_ff ?_ | refine hw_iT ?_ | refine hw_iF ?_ | refine hw_skip ?_ | refine hw_ret ?_ | refine hw_exit ?_ | refine hx_then_ret ?_ | refine hx_block_ret ?_ | refine hx_then_exit ?_ | refine hx_block_here ?_ | refine hx_far ?_ | refine hx_any ?_ | (apply ha_end; decide +kernel))
      refine hx_mem (fun w hm => hm.pick (rs' := [_, _, _, _]) [0, 2, 3, 4] (by simp) rfl) ?_
      refine hx_round ⟨k + 1, u, us, ?_, by rw [hT]; exact hus, hk2, rfl, rfl⟩ (by omega) ⟨rfl, rfl, rfl, rfl, rfl, trivial⟩
      rw [hT]
    · have hle : posL (xss.getD k []) (tdS ks xss k).2 = (tdS ks xss k).2.length := by
        refine Classical.byContradiction fun e => ?_
        have := posL_le (xss.getD k []) (tdS ks xss k).2
        omega
      have hx1 : idxI (xss.getD k []) (tdS ks xss k).2 = -1 := by rw [idxI, if_neg hp]
      have hT := tdS_no hle
      rw [hx1]
      repeat' (first | refine hl_a ?_ | refine hq_a ?_ | refine hl_nil ?_ | refine hq_nil ?_ | refine hq_ga ?_ | refine hq_sk ?_ | refine hq_su ?_ | refine hq_gT ?_ | refine hq_gF ?_ | refine hq_gd (fun h => ?_) (fun h => ?_) | refine hl_ga ?_ | refine hl_sk ?_ | refine hl_su ?_ | refine hl_gT ?_ | refine hl_gF ?_ | refine hl_gd (fun h => ?_) (fun h => ?_) | refine hx_next ?_ | refine hw_seq ?_ | refine hw_region ?_ | refine hw_block ?_ | refine hx_block ?_ | refine hw_tt ?_ | refine hw_ff ?_ | refine hw_iT ?_ | refine hw_iF ?_ | refine hw_skip ?_ | refine hw_ret ?_ | refine hw_exit ?_ | refine hx_then_ret ?_ | refine hx_block_ret ?_ | refine hx_then_exit ?_ | refine hx_block_here ?_ | refine hx_far ?_ | refine hx_any ?_ | (apply ha_end; decide +kernel))
      refine hw_g [rBlk b1 #[.int .i64 (n : Int), .int .i64 tot, u] 33, rBlk bx #[.int .i64 (ks.getD k 0), row k] 92, rBlk b0 #[.int .i64 0, .int .i64 0, .slice none 0 0] 33] 9 (by kernel_rfl) ?_
      first | refine hg_t 0 ?_ | refine hg_tn 0 ?_
      first | refine hg_t 1 ?_ | refine hg_tn 1 ?_
      first | refine hg_t 2 ?_ | refine hg_tn 2 ?_
      first | refine hg_t 3 ?_ | refine hg_tn 3 ?_
      first | refine hg_t 4 ?_ | refine hg_tn 4 ?_
      first | refine hg_t 5 ?_ | refine hg_tn 5 ?_
      refine hg_1 6 (by decide +kernel) rfl ?_
      refine hl_call (by decide) (fun w hm => clone_c (row k) (xss.getD k []) (by omega) (by omega) w (hrk.up hm.below)) rfl ?_
      rintro x _ ⟨rfl, hx⟩
      refine hl_nil ?_
      refine hx_hg (by first | exact fun w hm => hm.none | exact fun w hm => Mem.keep _ hm) ?_
      refine hg_t 7 ?_ (hq := by exact q_bld [(0, .int .i64 (ks.getD k 0)), (1, x)] #[.int .i64 (ks.getD k 0), x] rfl (bldMap hx))
      refine hg_1 8 (by decide +kernel) rfl ?_
      refine hl_build1S (by decide) rfl rfl (fun b3 => ?_)
      refine hl_nil ?_
      refine hx_hg (by first | exact fun w hm => hm.none | exact fun w hm => Mem.keep _ hm) ?_
      refine hg_1 9 (by decide +kernel) rfl ?_
      refine hl_appS 3 6 rfl rfl (by decide) rfl rfl rfl hx.one (by omega) (by decide) (fun u2 hu2 => ?_)
      refine hl_nil ?_
      refine hx_hgT rfl ?_
      refine hg_1 10 (by decide +kernel) rfl ?_
      refine hl_a ?_
      refine hl_nil ?_
      refine hx_hgT rfl ?_
      refine hg_1 11 (by decide +kernel) rfl ?_
      refine hl_storeB 0 rfl rfl rfl rfl rfl hu2.one ?_
      refine hl_nil ?_
      refine hx_hgT rfl ?_
      refine hg_end (by decide +kernel) ?_
      repeat' (first | refine hl_a ?_ | refine hq_a ?_ | refine hl_nil ?_ | refine hq_nil ?_ | refine hq_ga ?_ | refine hq_sk ?_ | refine hq_su ?_ | refine hq_gT ?_ | refine hq_gF ?_ | refine hq_gd (fun h => ?_) (fun h => ?_) | refine hl_ga ?_ | refine hl_sk ?_ | refine hl_su ?_ | refine hl_gT ?_ | refine hl_gF ?_ | refine hl_gd (fun h => ?_) (fun h => ?_) | refine hx_next ?_ | refine hw_seq ?_ | refine hw_region ?_ | refine hw_block ?_ | refine hx_block ?_ | refine hw_tt ?_ | refine hw_ff ?_ | refine hw_iT ?_ | refine hw_iF ?_ | refine hw_skip ?_ | refine hw_ret ?_ | refine hw_exit ?_ | refine hx_then_ret ?_ | refine hx_block_ret ?_ | refine hx_then_exit ?_ | refine hx_block_here ?_ | refine hx_far ?_ | refine hx_any ?_ | (apply ha_end; decide +kernel))
      refine hx_mem (rs' := [rBlk b1 #[.int .i64 (n : Int), .int .i64 tot, u2] 33, rBlk b0 #[.int .i64 0, .int .i64 0, .slice none 0 0] 33, rOwn 92 2 u2 ((tdS ks xss k).2 ++ [xss.getD k []]).length (cells2 ((tdS ks xss k).1 ++ [ks.getD k 0]) (us ++ [x])), rStar (rRow 2 (Value.int .i64) (us ++ [x]) ((tdS ks xss k).2 ++ [xss.getD k []]))]) (fun w hm => ?_) ?_
      · rw [cells2_snoc _ _ _ _ (by omega), rRow_snoc _ _ _ _ hus, List.length_append, List.length_singleton]
        exact Mem.pack [_, _, _] (hm.pick (rs' := [_, _, _, _, _]) [0, 2, 3, 4, 5] (by simp) rfl)
      · refine hx_round ⟨k + 1, u2, us ++ [x], ?_, by rw [hT]; simp [hus], hk2, rfl, rfl⟩ (by omega) ⟨rfl, rfl, rfl, rfl, rfl, trivial⟩
        rw [hT]
  · have e : k = xss.length := by omega
    subst e
    obtain ⟨l1, l2⟩ := tdS_len ks xss xss.length
    repeat' (first | refine hl_a ?_ | refine hq_a ?_ | refine hl_nil ?_ | refine hq_nil ?_ | refine hq_ga ?_ | refine hq_sk ?_ | refine hq_su ?_ | refine hq_gT ?_ | refine hq_gF ?_ | refine hq_gd (fun h => ?_) (fun h => ?_) | refine hl_ga ?_ | refine hl_sk ?_ | refine hl_su ?_ | refine hl_gT ?_ | refine hl_gF ?_ | refine hl_gd (fun h => ?_) (fun h => ?_) | refine hx_next ?_ | refine hw_seq ?_ | refine hw_region ?_ | refine hw_dr ?_ | refine hw_block ?_ | refine hx_block ?_ | refine hw_tt ?_ | refine hw_ff ?_ | refine hw_iT ?_ | refine hw_iF ?_ | refine hw_skip ?_ | refine hw_ret ?_ | refine hw_exit ?_ | refine hx_then_ret ?_ | refine hx_block_ret ?_ | refine hx_then_exit ?_ | refine hx_block_here ?_ | refine hx_far ?_ | refine hx_any ?_ | (apply ha_end; decide +kernel))
    refine hl_storeA 1 rfl rfl rfl rfl rfl (chV_one hu) ?_
    repeat' (first | refine hl_a ?_ | refine hq_a ?_ | refine hl_nil ?_ | refine hq_nil ?_ | refine hq_ga ?_ | refine hq_sk ?_ | refine hq_su ?_ | refine hq_gT ?_ | refine hq_gF ?_ | refine hq_gd (fun h => ?_) (fun h => ?_) | refine hl_ga ?_ | refine hl_sk ?_ | refine hl_su ?_ | refine hl_gT ?_ | refine hl_gF ?_ | refine hl_gd (fun h => ?_) (fun h => ?_) | refine hx_next ?_ | refine hw_seq ?_ | refine hw_region ?_ | refine hw_dr ?_ | refine hw_block ?_ | refine hx_block ?_ | refine hw_tt ?_ | refine hw_ff ?_ | refine hw_iT ?_ | refine hw_iF ?_ | refine hw_skip ?_ | refine hw_ret ?_ | refine hw_exit ?_ | refine hx_then_ret ?_ | refine hx_block_ret ?_ | refine hx_then_exit ?_ | refine hx_block_here ?_ | refine hx_far ?_ | refine hx_any ?_ | (apply ha_end; decide +kernel))
    exact hx_retBt 1 rfl rfl rfl rfl rfl (fun w hm => ⟨_, _, rfl, Mem.tail1 (hm.maps [] [] 2 3 hus.symm (by decide) rfl rfl rfl), by rw [hM]; exact ⟨u, us, rfl, rfl, hus, hu⟩⟩)
set_option maxHeartbeats 4000000 in
theorem specTidyMaps_c (st tot : Int) (v : Value) (ks : List Int) (xss : List (List Int)) (row : Nat → Value) (w : World) (hr : RdM w v ks xss row) :
    Gives Try.prog 41 [chV st tot v] w (MpOut 92 2 (tdM st tot ks xss)) := by
  refine calls_hw Try.func41 Try.ntmps41 rfl rfl ?_
  have hsl := hr.sl
  have hkl := hr.len
  repeat' (first | refine hl_a ?_ | refine hq_a ?_ | refine hl_nil ?_ | refine hq_nil ?_ | refine hq_ga ?_ | refine hq_sk ?_ | refine hq_su ?_ | refine hq_gT ?_ | refine hq_gF ?_ | refine hq_gd (fun h => ?_) (fun h => ?_) | refine hl_ga ?_ | refine hl_sk ?_ | refine hl_su ?_ | refine hl_gT ?_ | refine hl_gF ?_ | refine hl_gd (fun h => ?_) (fun h => ?_) | refine hx_next ?_ | refine hw_seq ?_ | refine hw_region ?_ | refine hw_dr ?_ | refine hw_block ?_ | refine hx_block ?_ | refine hw_tt ?_ | refine hw_ff ?_ | refine hw_iT ?_ | refine hw_iF ?_ | refine hw_skip ?_ | refine hw_ret ?_ | refine hw_exit ?_ | refine hx_then_ret ?_ | refine hx_block_ret ?_ | refine hx_then_exit ?_ | refine hx_block_here ?_ | refine hx_far ?_ | refine hx_any ?_ | (apply ha_end; decide +kernel))
  refine hl_box (by decide) rfl (fun b => ?_)
  refine hl_alloc (by decide) (fun b0 => ?_)
  repeat' (first | refine hl_a ?_ | refine hq_a ?_ | refine hl_nil ?_ | refine hq_nil ?_ | refine hq_ga ?_ | refine hq_sk ?_ | refine hq_su ?_ | refine hq_gT ?_ | refine hq_gF ?_ | refine hq_gd (fun h => ?_) (fun h => ?_) | refine hl_ga ?_ | refine hl_sk ?_ | refine hl_su ?_ | refine hl_gT ?_ | refine hl_gF ?_ | refine hl_gd (fun h => ?_) (fun h => ?_) | refine hx_next ?_ | refine hw_seq ?_ | refine hw_region ?_ | refine hw_dr ?_ | refine hw_block ?_ | refine hx_block ?_ | refine hw_tt ?_ | refine hw_ff ?_ | refine hw_iT ?_ | refine hw_iF ?_ | refine hw_skip ?_ | refine hw_ret ?_ | refine hw_exit ?_ | refine hx_then_ret ?_ | refine hx_block_ret ?_ | refine hx_then_exit ?_ | refine hx_block_here ?_ | refine hx_far ?_ | refine hx_any ?_ | (apply ha_end; decide +kernel))
  first | refine hl_q (by decide) (q_call (fun w hm => (ptM_blk 0 rfl hm (hr.up hm.below)).ok) rfl) ?_ | refine hq_q (by decide) (q_call (fun w hm => (ptM_blk 0 rfl hm (hr.up hm.below)).ok) rfl) ?_ | refine hl_g _ _ rfl rfl (by decide) (q_call (fun w hm => (ptM_blk 0 rfl hm (hr.up hm.below)).ok) rfl) ?_ | refine hq_g _ _ rfl rfl (by decide) (q_call (fun w hm => (ptM_blk 0 rfl hm (hr.up hm.below)).ok) rfl) ?_
  repeat' (first | refine hl_a ?_ | refine hq_a ?_ | refine hl_nil ?_ | refine hq_nil ?_ | refine hq_ga ?_ | refine hq_sk ?_ | refine hq_su ?_ | refine hq_gT ?_ | refine hq_gF ?_ | refine hq_gd (fun h => ?_) (fun h => ?_) | refine hl_ga ?_ | refine hl_sk ?_ | refine hl_su ?_ | refine hl_gT ?_ | refine hl_gF ?_ | refine hl_gd (fun h => ?_) (fun h => ?_) | refine hx_next ?_ | refine hw_seq ?_ | refine hw_region ?_ | refine hw_dr ?_ | refine hw_block ?_ | refine hx_block ?_ | refine hw_tt ?_ | refine hw_ff ?_ | refine hw_iT ?_ | refine hw_iF ?_ | refine hw_skip ?_ | refine hw_ret ?_ | refine hw_exit ?_ | refine hx_then_ret ?_ | refine hx_block_ret ?_ | refine hx_then_exit ?_ | refine hx_block_here ?_ | refine hx_far ?_ | refine hx_any ?_ | (apply ha_end; decide +kernel))
  refine hw_if rfl (fun h => ?_) (fun h => ?_)
  · repeat' (first | refine hl_a ?_ | refine hq_a ?_ | refine hl_nil ?_ | refine hq_nil ?_ | refine hq_ga ?_ | refine hq_sk ?_ | refine hq_su ?_ | refine hq_gT ?_ | refine hq_gF ?_ | refine hq_gd (fun h => ?_) (fun h => ?_) | refine hl_ga ?_ | refine hl_sk ?_ | refine hl_su ?_ | refine hl_gT ?_ | refine hl_gF ?_ | refine hl_gd (fun h => ?_) (fun h => ?_) | refine hx_next ?_ | refine hw_seq ?_ | refine hw_region ?_ | refine hw_dr ?_ | refine hw_block ?_ | refine hx_block ?_ | refine hw_tt ?_ | refine hw_ff ?_ | refine hw_iT ?_ | refine hw_iF ?_ | refine hw_skip ?_ | refine hw_ret ?_ | refine hw_exit ?_ | refine hx_then_ret ?_ | refine hx_block_ret ?_ | refine hx_then_exit ?_ | refine hx_block_here ?_ | refine hx_far ?_ | refine hx_any ?_ | (apply ha_end; decide +kernel) | (apply hl_q; decide; (first | exact q_bld [] #[.int .i64 0, .int .i64 0, .slice none 0 0] rfl (by kernel_rfl))) | (apply hq_q; decide; (first | exact q_bld [] #[.int .i64 0, .int .i64 0, .slice none 0 0] rfl (by kernel_rfl))) | (apply hq_g; rfl; rfl; decide; (first | exact q_bld [] #[.int .i64 0, .int .i64 0, .slice none 0 0] rfl (by kernel_rfl))) | (apply hl_g; rfl; rfl; decide; (first | exact q_bld [] #[.int .i64 0, .int .i64 0, .slice none 0 0] rfl (by kernel_rfl))))
    refine hl_storeA 1 rfl rfl rfl rfl rfl (chV_one nil_ok) ?_
    repeat' (first | refine hl_a ?_ | refine hq_a ?_ | refine hl_nil ?_ | refine hq_nil ?_ | refine hq_ga ?_ | refine hq_sk ?_ | refine hq_su ?_ | refine hq_gT ?_ | refine hq_gF ?_ | refine hq_gd (fun h => ?_) (fun h => ?_) | refine hl_ga ?_ | refine hl_sk ?_ | refine hl_su ?_ | refine hl_gT ?_ | refine hl_gF ?_ | refine hl_gd (fun h => ?_) (fun h => ?_) | refine hx_next ?_ | refine hw_seq ?_ | refine hw_region ?_ | refine hw_dr ?_ | refine hw_block ?_ | refine hx_block ?_ | refine hw_tt ?_ | refine hw_ff ?_ | refine hw_iT ?_ | refine hw_iF ?_ | refine hw_skip ?_ | refine hw_ret ?_ | refine hw_exit ?_ | refine hx_then_ret ?_ | refine hx_block_ret ?_ | refine hx_then_exit ?_ | refine hx_block_here ?_ | refine hx_far ?_ | refine hx_any ?_ | (apply ha_end; decide +kernel))
    exact hx_retBt 1 rfl rfl rfl rfl rfl (fun w hm => ⟨_, _, rfl, maps_nil 92 2 hm.none, by rw [tdM, if_neg h]; exact mpErr _ _ _ rfl⟩)
  have hv := Classical.not_not.1 h
  obtain ⟨n, rfl, hn1, hn6⟩ := hv.nat
  have hlen := hv.len
  have hM : tdM (n : Int) tot ks xss = ⟨n, tot, (tdS ks xss xss.length).1, (tdS ks xss xss.length).2, 0⟩ := by rw [tdM, if_pos hv]
  repeat' (first | refine hl_a ?_ | refine hq_a ?_ | refine hl_nil ?_ | refine hq_nil ?_ | refine hq_ga ?_ | refine hq_sk ?_ | refine hq_su ?_ | refine hq_gT ?_ | refine hq_gF ?_ | refine hq_gd (fun h => ?_) (fun h => ?_) | refine hl_ga ?_ | refine hl_sk ?_ | refine hl_su ?_ | refine hl_gT ?_ | refine hl_gF ?_ | refine hl_gd (fun h => ?_) (fun h => ?_) | refine hx_next ?_ | refine hw_seq ?_ | refine hw_region ?_ | refine hw_dr ?_ | refine hw_block ?_ | refine hx_block ?_ | refine hw_tt ?_ | refine hw_ff ?_ | refine hw_iT ?_ | refine hw_iF ?_ | refine hw_skip ?_ | refine hw_ret ?_ | refine hw_exit ?_ | refine hx_then_ret ?_ | refine hx_block_ret ?_ | refine hx_then_exit ?_ | refine hx_block_here ?_ | refine hx_far ?_ | refine hx_any ?_ | (apply ha_end; decide +kernel) | (apply hl_q; decide; exact q_bld [(0, .int .i64 (n : Int)), (1, .int .i64 tot)] #[.int .i64 (n : Int), .int .i64 tot, .slice none 0 0] rfl (by kernel_rfl)) | (apply hq_q; decide; exact q_bld [(0, .int .i64 (n : Int)), (1, .int .i64 tot)] #[.int .i64 (n : Int), .int .i64 tot, .slice none 0 0] rfl (by kernel_rfl)) | (apply hq_g; rfl; rfl; decide; exact q_bld [(0, .int .i64 (n : Int)), (1, .int .i64 tot)] #[.int .i64 (n : Int), .int .i64 tot, .slice none 0 0] rfl (by kernel_rfl)) | (apply hl_g; rfl; rfl; decide; exact q_bld [(0, .int .i64 (n : Int)), (1, .int .i64 tot)] #[.int .i64 (n : Int), .int .i64 tot, .slice none 0 0] rfl (by kernel_rfl)))
  refine hl_alloc (by decide) (fun b1 => ?_)
  refine hl_storeA 2 rfl rfl rfl rfl rfl (chV_one nil_ok) ?_
  repeat' (first | refine hl_a ?_ | refine hq_a ?_ | refine hl_nil ?_ | refine hq_nil ?_ | refine hq_ga ?_ | refine hq_sk ?_ | refine hq_su ?_ | refine hq_gT ?_ | refine hq_gF ?_ | refine hq_gd (fun h => ?_) (fun h => ?_) | refine hl_ga ?_ | refine hl_sk ?_ | refine hl_su ?_ | refine hl_gT ?_ | refine hl_gF ?_ | refine hl_gd (fun h => ?_) (fun h => ?_) | refine hx_next ?_ | refine hw_seq ?_ | refine hw_region ?_ | refine hw_dr ?_ | refine hw_block ?_ | refine hx_block ?_ | refine hw_tt ?_ | refine hw_ff ?_ | refine hw_iT ?_ | refine hw_iF ?_ | refine hw_skip ?_ | refine hw_ret ?_ | refine hw_exit ?_ | refine hx_then_ret ?_ | refine hx_block_ret ?_ | refine hx_then_exit ?_ | refine hx_block_here ?_ | refine hx_far ?_ | refine hx_any ?_ | (apply ha_end; decide +kernel))
  refine hw_mem (fun w hm => (hm.nilOwn 92 2).empty) ?_
  refine hw_loop (fun e r m => ∃ (k : Nat) (u : Value) (us : List Value), r = [rBlk b #[.int .i64 (n : Int), .int .i64 tot, v] 33, rBlk b0 #[.int .i64 0, .int .i64 0, .slice none 0 0] 33, rBlk b1 #[.int .i64 (n : Int), .int .i64 tot, u] 33, rOwn 92 2 u (tdS ks xss k).2.length (cells2 (tdS ks xss k).1 us), rStar (rRow 2 (Value.int .i64) us (tdS ks xss k).2)] ∧ us.length = (tdS ks xss k).2.length ∧ k ≤ xss.length ∧ m = xss.length - k ∧ e = [(1, .pointer (some ⟨b, 0, none⟩)), (2, .pointer (some ⟨b0, 0, none⟩)), (4, .pointer (some ⟨b1, 0, none⟩)), (5, .int .i64 (k : Int))])
    ⟨0, .slice none 0 0, [], rfl, rfl, Nat.zero_le _, rfl, rfl⟩ ⟨rfl, rfl, rfl, rfl, trivial⟩ ?_
  rintro _ _ _ ⟨k, u, us, rfl, hus, hk, rfl, rfl⟩
  refine hw_own 3 rfl (fun hu => ?_)
  repeat' (first | refine hl_a ?_ | refine hq_a ?_ | refine hl_nil ?_ | refine hq_nil ?_ | refine hq_ga ?_ | refine hq_sk ?_ | refine hq_su ?_ | refine hq_gT ?_ | refine hq_gF ?_ | refine hq_gd (fun h => ?_) (fun h => ?_) | refine hl_ga ?_ | refine hl_sk ?_ | refine hl_su ?_ | refine hl_gT ?_ | refine hl_gF ?_ | refine hl_gd (fun h => ?_) (fun h => ?_) | refine hx_next ?_ | refine hw_seq ?_ | refine hw_region ?_ | refine hw_dr ?_ | refine hw_block ?_ | refine hx_block ?_ | refine hw_tt ?_ | refine hw_ff ?_ | refine hw_iT ?_ | refine hw_iF ?_ | refine hw_skip ?_ | refine hw_ret ?_ | refine hw_exit ?_ | refine hx_then_ret ?_ | refine hx_block_ret ?_ | refine hx_then_exit ?_ | refine hx_block_here ?_ | refine hx_far ?_ | refine hx_any ?_ | (apply ha_end; decide +kernel))
  refine hw_if rfl (fun hlt => ?_) (fun hge => ?_)
  · have hk2 : k < xss.length := by omega
    have ck := hr.get k hk2
    have ck0 := hr.key k hk2
    have hrk := hr.row k hk2
    have sk := hrk.sl
    have hkey := hv.key k hk2
    have ht1 := hv.t1
    have hrl := hv.rlen k hk2
    obtain ⟨l1, l2⟩ := tdS_len ks xss k
    have hbd := (tdS_bd hv k (by omega)).1
    repeat' (first | refine hl_a ?_ | refine hq_a ?_ | refine hl_nil ?_ | refine hq_nil ?_ | refine hq_ga ?_ | refine hq_sk ?_ | refine hq_su ?_ | refine hq_gT ?_ | refine hq_gF ?_ | refine hq_gd (fun h => ?_) (fun h => ?_) | refine hl_ga ?_ | refine hl_sk ?_ | refine hl_su ?_ | refine hl_gT ?_ | refine hl_gF ?_ | refine hl_gd (fun h => ?_) (fun h => ?_) | refine hx_next ?_ | refine hw_seq ?_ | refine hw_region ?_ | refine hw_dr ?_ | refine hw_block ?_ | refine hx_block ?_ | refine hw_tt ?_ | refine hw_ff ?_ | refine hw_iT ?_ | refine hw_iF ?_ | refine hw_skip ?_ | refine hw_ret ?_ | refine hw_exit ?_ | refine hx_then_ret ?_ | refine hx_block_ret ?_ | refine hx_then_exit ?_ | refine hx_block_here ?_ | refine hx_far ?_ | refine hx_any ?_ | (apply ha_end; decide +kernel))
    refine hw_loop (fun e r m => r = [rBlk b #[.int .i64 (n : Int), .int .i64 tot, v] 33, rBlk b0 #[.int .i64 0, .int .i64 0, .slice none 0 0] 33, rBlk b1 #[.int .i64 (n : Int), .int .i64 tot, u] 33, rOwn 92 2 u (tdS ks xss k).2.length (cells2 (tdS ks xss k).1 us), rStar (rRow 2 (Value.int .i64) us (tdS ks xss k).2)] ∧ ∃ i : Nat, i ≤ (tdS ks xss k).2.length ∧ m = (tdS ks xss k).2.length - i ∧ e = [(1, .pointer (some ⟨b, 0, none⟩)), (2, .pointer (some ⟨b0, 0, none⟩)), (4, .pointer (some ⟨b1, 0, none⟩)), (5, .int .i64 (k : Int)), (6, .int .i64 (i : Int))] ∧ ∀ j, j < i → (tdS ks xss k).2.getD j [] ≠ xss.getD k [])
      ⟨rfl, 0, Nat.zero_le _, rfl, rfl, by omega⟩ ⟨rfl, rfl, rfl, rfl, rfl, trivial⟩ ?_
    rintro _ _ _ ⟨rfl, i, hi, rfl, rfl, hno⟩
    rcases Nat.lt_or_ge i (tdS ks xss k).2.length with hi2 | hi2
    · have hi3 : (i : Int) < ((tdS ks xss k).2.length : Int) := by omega
      have hld1 : Ld w [rBlk b #[.int .i64 (n : Int), .int .i64 tot, v] 33, rBlk b0 #[.int .i64 0, .int .i64 0, .slice none 0 0] 33, rBlk b1 #[.int .i64 (n : Int), .int .i64 tot, u] 33, rOwn 92 2 u (tdS ks xss k).2.length (cells2 (tdS ks xss k).1 us), rStar (rRow 2 (Value.int .i64) us (tdS ks xss k).2)] ((vAt u (i * 2)).add 1) (us.getD i undef) := by
        rw [vAt_add hu hi2]
        exact ld_own 3 rfl (cells2_1 _ _ _ (by omega) (by omega))
      repeat' (first | refine hl_a ?_ | refine hq_a ?_ | refine hl_nil ?_ | refine hq_nil ?_ | refine hq_ga ?_ | refine hq_sk ?_ | refine hq_su ?_ | refine hq_gT ?_ | refine hq_gF ?_ | refine hq_gd (fun h => ?_) (fun h => ?_) | refine hl_ga ?_ | refine hl_sk ?_ | refine hl_su ?_ | refine hl_gT ?_ | refine hl_gF ?_ | refine hl_gd (fun h => ?_) (fun h => ?_) | refine hx_next ?_ | refine hw_seq ?_ | refine hw_region ?_ | refine hw_dr ?_ | refine hw_block ?_ | refine hx_block ?_ | refine hw_tt ?_ | refine hw_ff ?_ | refine hw_iT ?_ | refine hw_iF ?_ | refine hw_skip ?_ | refine hw_ret ?_ | refine hw_exit ?_ | refine hx_then_ret ?_ | refine hx_block_ret ?_ | refine hx_then_exit ?_ | refine hx_block_here ?_ | refine hx_far ?_ | refine hx_any ?_ | (apply ha_end; decide +kernel))
      first | refine hl_q (by decide) (q_call (fun w hm => l00Same_c (us.getD i undef) (row k) ((tdS ks xss k).2.getD i []) (xss.getD k []) w (((hm.maps [] [] 3 4 hus.symm (by decide) rfl rfl rfl).rdM 0 rfl hus l1).row i hi2) (hrk.up hm.below)) rfl) ?_ | refine hq_q (by decide) (q_call (fun w hm => l00Same_c (us.getD i undef) (row k) ((tdS ks xss k).2.getD i []) (xss.getD k []) w (((hm.maps [] [] 3 4 hus.symm (by decide) rfl rfl rfl).rdM 0 rfl hus l1).row i hi2) (hrk.up hm.below)) rfl) ?_ | refine hl_g _ _ rfl rfl (by decide) (q_call (fun w hm => l00Same_c (us.getD i undef) (row k) ((tdS ks xss k).2.getD i []) (xss.getD k []) w (((hm.maps [] [] 3 4 hus.symm (by decide) rfl rfl rfl).rdM 0 rfl hus l1).row i hi2) (hrk.up hm.below)) rfl) ?_ | refine hq_g _ _ rfl rfl (by decide) (q_call (fun w hm => l00Same_c (us.getD i undef) (row k) ((tdS ks xss k).2.getD i []) (xss.getD k []) w (((hm.maps [] [] 3 4 hus.symm (by decide) rfl rfl rfl).rdM 0 rfl hus l1).row i hi2) (hrk.up hm.below)) rfl) ?_
      repeat' (first | refine hl_a ?_ | refine hq_a ?_ | refine hl_nil ?_ | refine hq_nil ?_ | refine hq_ga ?_ | refine hq_sk ?_ | refine hq_su ?_ | refine hq_gT ?_ | refine hq_gF ?_ | refine hq_gd (fun h => ?_) (fun h => ?_) | refine hl_ga ?_ | refine hl_sk ?_ | refine hl_su ?_ | refine hl_gT ?_ | refine hl_gF ?_ | refine hl_gd (fun h => ?_) (fun h => ?_) | refine hx_next ?_ | refine hw_seq ?_ | refine hw_region ?_ | refine hw_dr ?_ | refine hw_block ?_ | refine hx_block ?_ | refine hw_tt ?_ | refine hw_ff ?_ | refine hw_iT ?_ | refine hw_iF ?_ | refine hw_skip ?_ | refine hw_ret ?_ | refine hw_exit ?_ | refine hx_then_ret ?_ | refine hx_block_ret ?_ | refine hx_then_exit ?_ | refine hx_block_here ?_ | refine hx_far ?_ | refine hx_any ?_ | (apply ha_end; decide +kernel))
      refine hw_if rfl (fun h => ?_) (fun h => ?_)
      · repeat' (first | refine hl_a ?_ | refine hq_a ?_ | refine hl_nil ?_ | refine hq_nil ?_ | refine hq_ga ?_ | refine hq_sk ?_ | refine hq_su ?_ | refine hq_gT ?_ | refine hq_gF ?_ | refine hq_gd (fun h => ?_) (fun h => ?_) | refine hl_ga ?_ | refine hl_sk ?_ | refine hl_su ?_ | refine hl_gT ?_ | refine hl_gF ?_ | refine hl_gd (fun h => ?_) (fun h => ?_) | refine hx_next ?_ | refine hw_seq ?_ | refine hw_region ?_ | refine hw_dr ?_ | refine hw_block ?_ | refine hx_block ?_ | refine hw_tt ?_ | refine hw_ff ?_ | refine hw_iT ?_ | refine hw_iF ?_ | refine hw_skip ?_ | refine hw_ret ?_ | refine hw_exit ?_ | refine hx_then_ret ?_ | refine hx_block_ret ?_ | refine hx_then_exit ?_ | refine hx_block_here ?_ | refine hx_far ?_ | refine hx_any ?_ | (apply ha_end; decide +kernel))
        refine hx_round ⟨rfl, i + 1, hi2, rfl, rfl, fun j hj => ?_⟩ (by omega) ⟨rfl, rfl, rfl, rfl, rfl, trivial⟩
        by_cases e : j = i
        · subst e; exact h
        · exact hno j (by omega)
      · have heq := Classical.not_not.1 h
        have hT := tdS_at (posL_at _ _ i hi2 heq hno) hi2
        have hbi := hbd i (by omega)
        have hne : ¬ ((i : Int) = ((tdS ks xss k).2.length : Int)) := by omega
        have hld : Ld w [rBlk b #[.int .i64 (n : Int), .int .i64 tot, v] 33, rBlk b0 #[.int .i64 0, .int .i64 0, .slice none 0 0] 33, rBlk b1 #[.int .i64 (n : Int), .int .i64 tot, u] 33, rOwn 92 2 u (tdS ks xss k).2.length (cells2 (tdS ks xss k).1 us), rStar (rRow 2 (Value.int .i64) us (tdS ks xss k).2)] ((vAt u (i * 2)).add 0) (.int .i64 ((tdS ks xss k).1.getD i 0)) := by
          rw [vAt_add hu hi2, Nat.add_zero]
          exact ld_own 3 rfl (cells2_0 _ _ _ (by omega) (by omega))
        repeat' (first | refine hl_a ?_ | refine hq_a ?_ | refine hl_nil ?_ | refine hq_nil ?_ | refine hq_ga ?_ | refine hq_sk ?_ | refine hq_su ?_ | refine hq_gT ?_ | refine hq_gF ?_ | refine hq_gd (fun h => ?_) (fun h => ?_) | refine hl_ga ?_ | refine hl_sk ?_ | refine hl_su ?_ | refine hl_gT ?_ | refine hl_gF ?_ | refine hl_gd (fun h => ?_) (fun h => ?_) | refine hx_next ?_ | refine hw_seq ?_ | refine hw_region ?_ | refine hw_block ?_ | refine hx_block ?_ | refine hw_tt ?_ | refine hw_ff ?_ | refine hw_iT ?_ | refine hw_iF ?_ | refine hw_skip ?_ | refine hw_ret ?_ | refine hw_exit ?_ | refine hx_then_ret ?_ | refine hx_block_ret ?_ | refine hx_then_exit ?_ | refine hx_block_here ?_ | refine hx_far ?_ | refine hx_any ?_ | (apply ha_end; decide +kernel))
        refine hw_g [rBlk b #[.int .i64 (n : Int), .int .i64 tot, v] 33, rBlk b0 #[.int .i64 0, .int .i64 0, .slice none 0 0] 33, rBlk b1 #[.int .i64 (n : Int), .int .i64 tot, u] 33, rOwn 92 2 u (tdS ks xss k).2.length (cells2 (tdS ks xss k).1 us), rStar (rRow 2 (Value.int .i64) us (tdS ks xss k).2)] 15 (by kernel_rfl) ?_
        first | refine hg_t 0 ?_ | refine hg_tn 0 ?_
        first | refine hg_t 1 ?_ | refine hg_tn 1 ?_
        first | refine hg_t 2 ?_ | refine hg_tn 2 ?_
        first | refine hg_t 3 ?_ | refine hg_tn 3 ?_
        first | refine hg_t 4 ?_ | refine hg_tn 4 ?_
        first | refine hg_t 5 ?_ | refine hg_tn 5 ?_
        first | refine hg_t 6 ?_ | refine hg_tn 6 ?_
        first | refine hg_t 7 ?_ | refine hg_tn 7 ?_
        first | refine hg_t 8 ?_ | refine hg_tn 8 ?_
        first | refine hg_t 9 ?_ | refine hg_tn 9 ?_
        first | refine hg_t 10 ?_ | refine hg_tn 10 ?_
        first | refine hg_t 11 ?_ | refine hg_tn 11 ?_
        first | refine hg_t 12 ?_ | refine hg_tn 12 ?_
        first | refine hg_t 13 ?_ | refine hg_tn 13 ?_
        first | refine hg_t 14 ?_ | refine hg_tn 14 ?_
        refine hg_1 15 (by decide +kernel) rfl ?_
        refine hl_storeC 3 (i := i * 2) rfl rfl (vAt_add hu hi2 0) (by omega) rfl rfl ?_
        rw [cells2_set0 _ _ _ _ (by omega)]
        refine hl_nil ?_
        refine hx_hgT rfl ?_
        refine hg_end (by decide +kernel) ?_
        repeat' (first | refine hl_a ?_ | refine hq_a ?_ | refine hl_nil ?_ | refine hq_nil ?_ | refine hq_ga ?_ | refine hq_sk ?_ | refine hq_su ?_ | refine hq_gT ?_ | refine hq_gF ?_ | refine hq_gd (fun h => ?_) (fun h => ?_) | refine hl_ga ?_ | refine hl_sk ?_ | refine hl_su ?_ | refine hl_gT ?_ | refine hl_gF ?_ | refine hl_gd (fun h => ?_) (fun h => ?_) | refine hx_next ?_ | refine hw_seq ?_ | refine hw_region ?_ | refine hw_block ?_ | refine hx_block ?_ | refine hw_tt ?_ | refine hw_ff ?_ | refine hw_iT ?_ | refine hw_iF ?_ | refine hw_skip ?_ | refine hw_ret ?_ | refine hw_exit ?_ | refine hx_then_ret ?_ | refine hx_block_ret ?_ | refine hx_then_exit ?_ | refine hx_block_here ?_ | refine hx_far ?_ | refine hx_any ?_ | (apply ha_end; decide +kernel))
        refine hx_round ⟨k + 1, u, us, ?_, by rw [hT]; exact hus, hk2, rfl, rfl⟩ (by omega) ⟨rfl, rfl, rfl, rfl, trivial⟩
        rw [hT]; rfl
    · have e : i = (tdS ks xss k).2.length := by omega
      subst e
      have hT := tdS_no (posL_no _ _ hno)
      have hge : ¬ (((tdS ks xss k).2.length : Int) < ((tdS ks xss k).2.length : Int)) := by omega
      repeat' (first | refine hl_a ?_ | refine hq_a ?_ | refine hl_nil ?_ | refine hq_nil ?_ | refine hq_ga ?_ | refine hq_sk ?_ | refine hq_su ?_ | refine hq_gT ?_ | refine hq_gF ?_ | refine hq_gd (fun h => ?_) (fun h => ?_) | refine hl_ga ?_ | refine hl_sk ?_ | refine hl_su ?_ | refine hl_gT ?_ | refine hl_gF ?_ | refine hl_gd (fun h => ?_) (fun h => ?_) | refine hx_next ?_ | refine hw_seq ?_ | refine hw_region ?_ | refine hw_block ?_ | refine hx_block ?_ | refine hw_tt ?_ | refine hw_ff ?_ | refine hw_iT ?_ | refine hw_iF ?_ | refine hw_skip ?_ | refine hw_ret ?_ | refine hw_exit ?_ | refine hx_then_ret ?_ | refine hx_block_ret ?_ | refine hx_then_exit ?_ | refine hx_block_here ?_ | refine hx_far ?_ | refine hx_any ?_ | (apply ha_end; decide +kernel))
      repeat' (first | refine hl_a ?_ | refine hq_a ?_ | refine hl_nil ?_ | refine hq_nil ?_ | refine hq_ga ?_ | refine hq_sk ?_ | refine hq_su ?_ | refine hq_gT ?_ | refine hq_gF ?_ | refine hq_gd (fun h => ?_) (fun h => ?_) | refine hl_ga ?_ | refine hl_sk ?_ | refine hl_su ?_ | refine hl_gT ?_ | refine hl_gF ?_ | refine hl_gd (fun h => ?_) (fun h => ?_) | refine hx_next ?_ | refine hw_seq ?_ | refine hw_region ?_ | refine hw_dr ?_ | refine hw_block ?_ | refine hx_block ?_ | refine hw_tt ?_ | refine hw_ff ?_ | refine hw_iT ?_ | refine hw_iF ?_ | refine hw_skip ?_ | refine hw_ret ?_ | refine hw_exit ?_ | refine hx_then_ret ?_ | refine hx_block_ret ?_ | refine hx_then_exit ?_ | refine hx_block_here ?_ | refine hx_far ?_ | refine hx_any ?_ | (apply ha_end; decide +kernel))
      refine hw_if rfl (fun h9 => ?_) (fun h9 => absurd rfl h9)
      repeat' (first | refine hl_a ?_ | refine hq_a ?_ | refine hl_nil ?_ | refine hq_nil ?_ | refine hq_ga ?_ | refine hq_sk ?_ | refine hq_su ?_ | refine hq_gT ?_ | refine hq_gF ?_ | refine hq_gd (fun h => ?_) (fun h => ?_) | refine hl_ga ?_ | refine hl_sk ?_ | refine hl_su ?_ | refine hl_gT ?_ | refine hl_gF ?_ | refine hl_gd (fun h => ?_) (fun h => ?_) | refine hx_next ?_ | refine hw_seq ?_ | refine hw_region ?_ | refine hw_block ?_ | refine hx_block ?_ | refine hw_tt ?_ | refine hw_ff ?_ | refine hw_iT ?_ | refine hw_iF ?_ | refine hw_skip ?_ | refine hw_ret ?_ | refine hw_exit ?_ | refine hx_then_ret ?_ | refine hx_block_ret ?_ | refine hx_then_exit ?_ | refine hx_block_here ?_ | refine hx_far ?_ | refine hx_any ?_ | (apply ha_end; decide +kernel))
      refine hw_g [rBlk b #[.int .i64 (n : Int), .int .i64 tot, v] 33, rBlk b0 #[.int .i64 0, .int .i64 0, .slice none 0 0] 33, rBlk b1 #[.int .i64 (n : Int), .int .i64 tot, u] 33] 11 (by kernel_rfl) ?_
      first | refine hg_t 0 ?_ | refine hg_tn 0 ?_
      first | refine hg_t 1 ?_ | refine hg_tn 1 ?_
      first | refine hg_t 2 ?_ | refine hg_tn 2 ?_
      first | refine hg_t 3 ?_ | refine hg_tn 3 ?_
      first | refine hg_t 4 ?_ | refine hg_tn 4 ?_
      first | refine hg_t 5 ?_ | refine hg_tn 5 ?_
      first | refine hg_t 6 ?_ | refine hg_tn 6 ?_
      first | refine hg_t 7 ?_ | refine hg_tn 7 ?_
      refine hg_1 8 (by decide +kernel) rfl ?_
      refine hl_call (by decide) (fun w hm => l00Own_w (row k) (xss.getD k []) (by omega) (by omega) w (hrk.up hm.below)) rfl ?_
      rintro x _ ⟨rfl, hx⟩
      refine hl_nil ?_
      refine hx_hg (by first | exact fun w hm => hm.none | exact fun w hm => Mem.keep _ hm) ?_
      refine hg_t 9 ?_ (hq := by exact q_bld [(1, x)] #[.int .i64 0, x] rfl (bldMap1 hx))
      refine hg_1 10 (by decide +kernel) rfl ?_
      refine hl_build1S (by decide) rfl rfl (fun b3 => ?_)
      refine hl_nil ?_
      refine hx_hg (by first | exact fun w hm => hm.none | exact fun w hm => Mem.keep _ hm) ?_
      refine hg_1 11 (by decide +kernel) rfl ?_
      refine hl_appS 3 6 rfl rfl (by decide) rfl rfl rfl hx.one (by omega) (by decide) (fun u2 hu2 => ?_)
      refine hl_nil ?_
      refine hx_hgT rfl ?_
      refine hg_1 12 (by decide +kernel) rfl ?_
      refine hl_a ?_
      refine hl_nil ?_
      refine hx_hgT rfl ?_
      refine hg_1 13 (by decide +kernel) rfl ?_
      refine hl_storeB 2 rfl rfl rfl rfl rfl hu2.one ?_
      refine hl_nil ?_
      refine hx_hgT rfl ?_
      refine hg_end (by decide +kernel) ?_
      refine hx_mem (rs' := [rBlk b #[.int .i64 (n : Int), .int .i64 tot, v] 33, rBlk b0 #[.int .i64 0, .int .i64 0, .slice none 0 0] 33, rBlk b1 #[.int .i64 (n : Int), .int .i64 tot, u2] 33, rOwn 92 2 u2 ((tdS ks xss k).2.length + 1) (cells2 ((tdS ks xss k).1 ++ [0]) (us ++ [x])), rStar (rRow 2 (Value.int .i64) (us ++ [x]) ((tdS ks xss k).2 ++ [xss.getD k []]))]) (fun w hm => ?_) ?_
      · rw [cells2_snoc _ _ _ _ (by omega), rRow_snoc _ _ _ _ hus]
        exact Mem.pack [_, _, _, _] (hm.pick (rs' := [_, _, _, _, _, _]) [0, 1, 2, 3, 4, 5] (by simp) rfl)
      have hp : (tdS ks xss k).2.length < (tdS ks xss k).2.length + 1 := by omega
      have hld : Ld w [rBlk b #[.int .i64 (n : Int), .int .i64 tot, v] 33, rBlk b0 #[.int .i64 0, .int .i64 0, .slice none 0 0] 33, rBlk b1 #[.int .i64 (n : Int), .int .i64 tot, u2] 33, rOwn 92 2 u2 ((tdS ks xss k).2.length + 1) (cells2 ((tdS ks xss k).1 ++ [0]) (us ++ [x])), rStar (rRow 2 (Value.int .i64) (us ++ [x]) ((tdS ks xss k).2 ++ [xss.getD k []]))] ((vAt u2 ((tdS ks xss k).2.length * 2)).add 0) (.int .i64 0) := by
        rw [show (vAt u2 ((tdS ks xss k).2.length * 2)).add 0 = vAt u2 ((tdS ks xss k).2.length * 2) from vAt_add hu2 hp 0]
        refine ld_own 3 rfl ?_
        rw [cells2_0 _ _ _ (by simp; omega) (by simp; omega), snoc_getD _ _ _ _ (by omega), if_neg (by omega)]
      repeat' (first | refine hl_a ?_ | refine hq_a ?_ | refine hl_nil ?_ | refine hq_nil ?_ | refine hq_ga ?_ | refine hq_sk ?_ | refine hq_su ?_ | refine hq_gT ?_ | refine hq_gF ?_ | refine hq_gd (fun h => ?_) (fun h => ?_) | refine hl_ga ?_ | refine hl_sk ?_ | refine hl_su ?_ | refine hl_gT ?_ | refine hl_gF ?_ | refine hl_gd (fun h => ?_) (fun h => ?_) | refine hx_next ?_ | refine hw_seq ?_ | refine hw_region ?_ | refine hw_block ?_ | refine hx_block ?_ | refine hw_tt ?_ | refine hw_ff ?_ | refine hw_iT ?_ | refine hw_iF ?_ | refine hw_skip ?_ | refine hw_ret ?_ | refine hw_exit ?_ | refine hx_then_ret ?_ | refine hx_block_ret ?_ | refine hx_then_exit ?_ | refine hx_block_here ?_ | refine hx_far ?_ | refine hx_any ?_ | (apply ha_end; decide +kernel))
      refine hw_g [rBlk b #[.int .i64 (n : Int), .int .i64 tot, v] 33, rBlk b0 #[.int .i64 0, .int .i64 0, .slice none 0 0] 33, rBlk b1 #[.int .i64 (n : Int), .int .i64 tot, u2] 33, rOwn 92 2 u2 ((tdS ks xss k).2.length + 1) (cells2 ((tdS ks xss k).1 ++ [0]) (us ++ [x])), rStar (rRow 2 (Value.int .i64) (us ++ [x]) ((tdS ks xss k).2 ++ [xss.getD k []]))] 15 (by kernel_rfl) ?_
      first | refine hg_t 0 ?_ | refine hg_tn 0 ?_
      first | refine hg_t 1 ?_ | refine hg_tn 1 ?_
      first | refine hg_t 2 ?_ | refine hg_tn 2 ?_
      first | refine hg_t 3 ?_ | refine hg_tn 3 ?_
      first | refine hg_t 4 ?_ | refine hg_tn 4 ?_
      first | refine hg_t 5 ?_ | refine hg_tn 5 ?_
      first | refine hg_t 6 ?_ | refine hg_tn 6 ?_
      first | refine hg_t 7 ?_ | refine hg_tn 7 ?_
      first | refine hg_t 8 ?_ | refine hg_tn 8 ?_
      first | refine hg_t 9 ?_ | refine hg_tn 9 ?_
      first | refine hg_t 10 ?_ | refine hg_tn 10 ?_
      first | refine hg_t 11 ?_ | refine hg_tn 11 ?_
      first | refine hg_t 12 ?_ | refine hg_tn 12 ?_
      first | refine hg_t 13 ?_ | refine hg_tn 13 ?_
      first | refine hg_t 14 ?_ | refine hg_tn 14 ?_
      refine hg_1 15 (by decide +kernel) rfl ?_
      refine hl_storeC 3 (i := (tdS ks xss k).2.length * 2) rfl rfl (vAt_add hu2 hp 0) (by omega) rfl rfl ?_
      rw [cells2_set0 _ _ _ _ (by simp; omega)]
      refine hl_nil ?_
      refine hx_hgT rfl ?_
      refine hg_end (by decide +kernel) ?_
      repeat' (first | refine hl_a ?_ | refine hq_a ?_ | refine hl_nil ?_ | refine hq_nil ?_ | refine hq_ga ?_ | refine hq_sk ?_ | refine hq_su ?_ | refine hq_gT ?_ | refine hq_gF ?_ | refine hq_gd (fun h => ?_) (fun h => ?_) | refine hl_ga ?_ | refine hl_sk ?_ | refine hl_su ?_ | refine hl_gT ?_ | refine hl_gF ?_ | refine hl_gd (fun h => ?_) (fun h => ?_) | refine hx_next ?_ | refine hw_seq ?_ | refine hw_region ?_ | refine hw_block ?_ | refine hx_block ?_ | refine hw_tt ?_ | refine hw_ff ?_ | refine hw_iT ?_ | refine hw_iF ?_ | refine hw_skip ?_ | refine hw_ret ?_ | refine hw_exit ?_ | refine hx_then_ret ?_ | refine hx_block_ret ?_ | refine hx_then_exit ?_ | refine hx_block_here ?_ | refine hx_far ?_ | refine hx_any ?_ | (apply ha_end; decide +kernel))
      refine hx_round ⟨k + 1, u2, us ++ [x], ?_, by rw [hT]; simp [hus], hk2, rfl, rfl⟩ (by omega) ⟨rfl, rfl, rfl, rfl, trivial⟩
      rw [hT]
      have e1 : ((tdS ks xss k).1 ++ [0]).set (tdS ks xss k).2.length (0 + ks.getD k 0) = (tdS ks xss k).1 ++ [ks.getD k 0] := by
        rw [List.set_append_right _ _ (by omega), ← l1, Nat.sub_self, Int.zero_add]; rfl
      rw [e1]
      simp only [List.length_append, List.length_singleton]
      rfl
  · have e : k = xss.length := by omega
    subst e
    obtain ⟨l1, l2⟩ := tdS_len ks xss xss.length
    repeat' (first | refine hl_a ?_ | refine hq_a ?_ | refine hl_nil ?_ | refine hq_nil ?_ | refine hq_ga ?_ | refine hq_sk ?_ | refine hq_su ?_ | refine hq_gT ?_ | refine hq_gF ?_ | refine hq_gd (fun h => ?_) (fun h => ?_) | refine hl_ga ?_ | refine hl_sk ?_ | refine hl_su ?_ | refine hl_gT ?_ | refine hl_gF ?_ | refine hl_gd (fun h => ?_) (fun h => ?_) | refine hx_next ?_ | refine hw_seq ?_ | refine hw_region ?_ | refine hw_dr ?_ | refine hw_block ?_ | refine hx_block ?_ | refine hw_tt ?_ | refine hw_ff ?_ | refine hw_iT ?_ | refine hw_iF ?_ | refine hw_skip ?_ | refine hw_ret ?_ | refine hw_exit ?_ | refine hx_then_ret ?_ | refine hx_block_ret ?_ | refine hx_then_exit ?_ | refine hx_block_here ?_ | refine hx_far ?_ | refine hx_any ?_ | (apply ha_end; decide +kernel))
    refine hl_storeA 1 rfl rfl rfl rfl rfl (chV_one hu) ?_
    repeat' (first | refine hl_a ?_ | refine hq_a ?_ | refine hl_nil ?_ | refine hq_nil ?_ | refine hq_ga ?_ | refine hq_sk ?_ | refine hq_su ?_ | refine hq_gT ?_ | refine hq_gF ?_ | refine hq_gd (fun h => ?_) (fun h => ?_) | refine hl_ga ?_ | refine hl_sk ?_ | refine hl_su ?_ | refine hl_gT ?_ | refine hl_gF ?_ | refine hl_gd (fun h => ?_) (fun h => ?_) | refine hx_next ?_ | refine hw_seq ?_ | refine hw_region ?_ | refine hw_dr ?_ | refine hw_block ?_ | refine hx_block ?_ | refine hw_tt ?_ | refine hw_ff ?_ | refine hw_iT ?_ | refine hw_iF ?_ | refine hw_skip ?_ | refine hw_ret ?_ | refine hw_exit ?_ | refine hx_then_ret ?_ | refine hx_block_ret ?_ | refine hx_then_exit ?_ | refine hx_block_here ?_ | refine hx_far ?_ | refine hx_any ?_ | (apply ha_end; decide +kernel))
    exact hx_retBt 1 rfl rfl rfl rfl rfl (fun w hm => ⟨_, _, rfl, Mem.tail1 (hm.maps [] [] 3 4 hus.symm (by decide) rfl rfl rfl), by rw [hM]; exact ⟨u, us, rfl, rfl, hus, hu⟩⟩)
end Go.Proofs.Yteddlbgbakbpeaa
