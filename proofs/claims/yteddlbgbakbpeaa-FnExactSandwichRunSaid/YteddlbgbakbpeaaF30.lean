/- Contracts: runs from the past, by windows, forward; picks applied. -/
import Derived.Test.YteddlbgbakbpeaaF29
namespace Go.Proofs.Yteddlbgbakbpeaa
open Go.Eng Go.RowKit
set_option linter.unusedVariables false

/-- The greatest, the least of the first numbers. -/
def maxI (xs : List Int) : Nat → Int
  | 0 => xs.getD 0 0
  | k + 1 => if xs.getD k 0 > maxI xs k then xs.getD k 0 else maxI xs k
def minI (xs : List Int) : Nat → Int
  | 0 => xs.getD 0 0
  | k + 1 => if xs.getD k 0 < minI xs k then xs.getD k 0 else minI xs k
theorem maxI_ge (xs : List Int) : ∀ k i, i < k → xs.getD i 0 ≤ maxI xs k
  | 0, i, h => by omega
  | k + 1, i, h => by
    simp only [maxI]
    by_cases e : i = k
    · subst e; split <;> omega
    · have := maxI_ge xs k i (by omega)
      split <;> omega
theorem minI_le (xs : List Int) : ∀ k i, i < k → minI xs k ≤ xs.getD i 0
  | 0, i, h => by omega
  | k + 1, i, h => by
    simp only [minI]
    by_cases e : i = k
    · subst e; split <;> omega
    · have := minI_le xs k i (by omega)
      split <;> omega
theorem eq_maxmin (xs : List Int) (h : AllEq xs) : ∀ k, k ≤ xs.length → maxI xs k = xs.getD 0 0 ∧ minI xs k = xs.getD 0 0
  | 0, _ => ⟨rfl, rfl⟩
  | k + 1, hk => by
    obtain ⟨h1, h2⟩ := eq_maxmin xs h k (by omega)
    have h3 := h k (by omega)
    simp only [maxI, minI, h1, h2, h3]
    simp
theorem maxmin_iff (xs : List Int) : maxI xs xs.length = minI xs xs.length ↔ AllEq xs := by
  constructor
  · intro h i hi
    have h0 : 0 < xs.length := by omega
    have a := maxI_ge xs xs.length i hi
    have b := minI_le xs xs.length i hi
    have c := maxI_ge xs xs.length 0 h0
    have d := minI_le xs xs.length 0 h0
    omega
  · intro h
    obtain ⟨h1, h2⟩ := eq_maxmin xs h xs.length (Nat.le_refl _)
    rw [h1, h2]
theorem slicesMax_c (v : Value) (xs : List Int) (h0 : xs.length ≠ 0) (w : World) (hx : RdE (Value.int .i64) 0 w v xs) : Ret Try.prog 125 [v] w (.int .i64 (maxI xs xs.length)) := by
  refine calls_hw Try.func125 Try.ntmps125 rfl rfl ?_
  have hs := hx.sl
  have hle := hs.le
  have h1 : ¬ ((xs.length : Int) < 1) := by omega
  have h2 : 0 < xs.length := by omega
  have c0 := hx.get 0 h2
  repeat' (first | refine hl_a ?_ | refine hq_a ?_ | refine hl_nil ?_ | refine hq_nil ?_ | refine hq_ga ?_ | refine hq_sk ?_ | refine hq_su ?_ | refine hq_gT ?_ | refine hq_gF ?_ | refine hq_gd (fun h => ?_) (fun h => ?_) | refine hl_ga ?_ | refine hl_sk ?_ | refine hl_su ?_ | refine hl_gT ?_ | refine hl_gF ?_ | refine hl_gd (fun h => ?_) (fun h => ?_) | refine hx_next ?_ | refine hw_seq ?_ | refine hw_region ?_ | refine hw_dr ?_ | refine hw_block ?_ | refine hx_block ?_ | refine hw_tt ?_ | refine hw_ff ?_ | refine hw_iT ?_ | refine hw_iF ?_ | refine hw_skip ?_ | refine hw_ret ?_ | refine hw_exit ?_ | refine hx_then_ret ?_ | refine hx_block_ret ?_ | refine hx_then_exit ?_ | refine hx_block_here ?_ | refine hx_far ?_ | refine hx_any ?_ | (apply ha_end; decide +kernel))
  have e1 : xs.getD 0 0 = maxI xs 1 := by simp [maxI]
  rw [e1]
  refine hw_loop (fun e r m => r = [] ∧ ∃ k : Nat, 1 ≤ k ∧ k ≤ xs.length ∧ m = xs.length - k ∧ e = [(0, v), (3, .int .i64 (maxI xs k)), (4, .int .i64 k)])
    ⟨rfl, 1, Nat.le_refl _, by omega, rfl, rfl⟩ ⟨rfl, rfl, rfl, trivial⟩ ?_
  rintro _ _ _ ⟨rfl, k, hk1, hk, rfl, rfl⟩
  repeat' (first | refine hl_a ?_ | refine hq_a ?_ | refine hl_nil ?_ | refine hq_nil ?_ | refine hq_ga ?_ | refine hq_sk ?_ | refine hq_su ?_ | refine hq_gT ?_ | refine hq_gF ?_ | refine hq_gd (fun h => ?_) (fun h => ?_) | refine hl_ga ?_ | refine hl_sk ?_ | refine hl_su ?_ | refine hl_gT ?_ | refine hl_gF ?_ | refine hl_gd (fun h => ?_) (fun h => ?_) | refine hx_next ?_ | refine hw_seq ?_ | refine hw_region ?_ | refine hw_dr ?_ | refine hw_block ?_ | refine hx_block ?_ | refine hw_tt ?_ | refine hw_ff ?_ | refine hw_iT ?_ | refine hw_iF ?_ | refine hw_skip ?_ | refine hw_ret ?_ | refine hw_exit ?_ | refine hx_then_ret ?_ | refine hx_block_ret ?_ | refine hx_then_exit ?_ | refine hx_block_here ?_ | refine hx_far ?_ | refine hx_any ?_ | (apply ha_end; decide +kernel))
  refine hw_if rfl (fun hlt => ?_) (fun hge => ?_)
  · have hk2 : k < xs.length := by omega
    have hc := hx.get k hk2
    repeat' (first | refine hl_a ?_ | refine hq_a ?_ | refine hl_nil ?_ | refine hq_nil ?_ | refine hq_ga ?_ | refine hq_sk ?_ | refine hq_su ?_ | refine hq_gT ?_ | refine hq_gF ?_ | refine hq_gd (fun h => ?_) (fun h => ?_) | refine hl_ga ?_ | refine hl_sk ?_ | refine hl_su ?_ | refine hl_gT ?_ | refine hl_gF ?_ | refine hl_gd (fun h => ?_) (fun h => ?_) | refine hx_next ?_ | refine hw_seq ?_ | refine hw_region ?_ | refine hw_dr ?_ | refine hw_block ?_ | refine hx_block ?_ | refine hw_tt ?_ | refine hw_ff ?_ | refine hw_iT ?_ | refine hw_iF ?_ | refine hw_skip ?_ | refine hw_ret ?_ | refine hw_exit ?_ | refine hx_then_ret ?_ | refine hx_block_ret ?_ | refine hx_then_exit ?_ | refine hx_block_here ?_ | refine hx_far ?_ | refine hx_any ?_ | (apply ha_end; decide +kernel))
    first | refine hl_q (by decide) (q_max (maxI xs (k + 1)) rfl rfl rfl) ?_ | refine hq_q (by decide) (q_max (maxI xs (k + 1)) rfl rfl rfl) ?_ | refine hl_g _ _ rfl rfl (by decide) (q_max (maxI xs (k + 1)) rfl rfl rfl) ?_ | refine hq_g _ _ rfl rfl (by decide) (q_max (maxI xs (k + 1)) rfl rfl rfl) ?_
    repeat' (first | refine hl_a ?_ | refine hq_a ?_ | refine hl_nil ?_ | refine hq_nil ?_ | refine hq_ga ?_ | refine hq_sk ?_ | refine hq_su ?_ | refine hq_gT ?_ | refine hq_gF ?_ | refine hq_gd (fun h => ?_) (fun h => ?_) | refine hl_ga ?_ | refine hl_sk ?_ | refine hl_su ?_ | refine hl_gT ?_ | refine hl_gF ?_ | refine hl_gd (fun h => ?_) (fun h => ?_) | refine hx_next ?_ | refine hw_seq ?_ | refine hw_region ?_ | refine hw_dr ?_ | refine hw_block ?_ | refine hx_block ?_ | refine hw_tt ?_ | refine hw_ff ?_ | refine hw_iT ?_ | refine hw_iF ?_ | refine hw_skip ?_ | refine hw_ret ?_ | refine hw_exit ?_ | refine hx_then_ret ?_ | refine hx_block_ret ?_ | refine hx_then_exit ?_ | refine hx_block_here ?_ | refine hx_far ?_ | refine hx_any ?_ | (apply ha_end; decide +kernel))
    exact hx_round ⟨rfl, k + 1, by omega, hk2, rfl, rfl⟩ (by omega) ⟨rfl, rfl, rfl, trivial⟩
  · have e : k = xs.length := by omega
    subst e
    repeat' (first | refine hl_a ?_ | refine hq_a ?_ | refine hl_nil ?_ | refine hq_nil ?_ | refine hq_ga ?_ | refine hq_sk ?_ | refine hq_su ?_ | refine hq_gT ?_ | refine hq_gF ?_ | refine hq_gd (fun h => ?_) (fun h => ?_) | refine hl_ga ?_ | refine hl_sk ?_ | refine hl_su ?_ | refine hl_gT ?_ | refine hl_gF ?_ | refine hl_gd (fun h => ?_) (fun h => ?_) | refine hx_next ?_ | refine hw_seq ?_ | refine hw_region ?_ | refine hw_dr ?_ | refine hw_block ?_ | refine hx_block ?_ | refine hw_tt ?_ | refine hw_ff ?_ | refine hw_iT ?_ | refine hw_iF ?_ | refine hw_skip ?_ | refine hw_ret ?_ | refine hw_exit ?_ | refine hx_then_ret ?_ | refine hx_block_ret ?_ | refine hx_then_exit ?_ | refine hx_block_here ?_ | refine hx_far ?_ | refine hx_any ?_ | (apply ha_end; decide +kernel))
    exact hx_ret1 rfl rfl (fun w hm => ⟨rfl, hm.none⟩)
theorem slicesMin_c (v : Value) (xs : List Int) (h0 : xs.length ≠ 0) (w : World) (hx : RdE (Value.int .i64) 0 w v xs) : Ret Try.prog 126 [v] w (.int .i64 (minI xs xs.length)) := by
  refine calls_hw Try.func126 Try.ntmps126 rfl rfl ?_
  have hs := hx.sl
  have hle := hs.le
  have h1 : ¬ ((xs.length : Int) < 1) := by omega
  have h2 : 0 < xs.length := by omega
  have c0 := hx.get 0 h2
  repeat' (first | refine hl_a ?_ | refine hq_a ?_ | refine hl_nil ?_ | refine hq_nil ?_ | refine hq_ga ?_ | refine hq_sk ?_ | refine hq_su ?_ | refine hq_gT ?_ | refine hq_gF ?_ | refine hq_gd (fun h => ?_) (fun h => ?_) | refine hl_ga ?_ | refine hl_sk ?_ | refine hl_su ?_ | refine hl_gT ?_ | refine hl_gF ?_ | refine hl_gd (fun h => ?_) (fun h => ?_) | refine hx_next ?_ | refine hw_seq ?_ | refine hw_region ?_ | refine hw_dr ?_ | refine hw_block ?_ | refine hx_block ?_ | refine hw_tt ?_ | refine hw_ff ?_ | refine hw_iT ?_ | refine hw_iF ?_ | refine hw_skip ?_ | refine hw_ret ?_ | refine hw_exit ?_ | refine hx_then_ret ?_ | refine hx_block_ret ?_ | refine hx_then_exit ?_ | refine hx_block_here ?_ | refine hx_far ?_ | refine hx_any ?_ | (apply ha_end; decide +kernel))
  have e1 : xs.getD 0 0 = minI xs 1 := by simp [minI]
  rw [e1]
  refine hw_loop (fun e r m => r = [] ∧ ∃ k : Nat, 1 ≤ k ∧ k ≤ xs.length ∧ m = xs.length - k ∧ e = [(0, v), (3, .int .i64 (minI xs k)), (4, .int .i64 k)])
    ⟨rfl, 1, Nat.le_refl _, by omega, rfl, rfl⟩ ⟨rfl, rfl, rfl, trivial⟩ ?_
  rintro _ _ _ ⟨rfl, k, hk1, hk, rfl, rfl⟩
  repeat' (first | refine hl_a ?_ | refine hq_a ?_ | refine hl_nil ?_ | refine hq_nil ?_ | refine hq_ga ?_ | refine hq_sk ?_ | refine hq_su ?_ | refine hq_gT ?_ | refine hq_gF ?_ | refine hq_gd (fun h => ?_) (fun h => ?_) | refine hl_ga ?_ | refine hl_sk ?_ | refine hl_su ?_ | refine hl_gT ?_ | refine hl_gF ?_ | refine hl_gd (fun h => ?_) (fun h => ?_) | refine hx_next ?_ | refine hw_seq ?_ | refine hw_region ?_ | refine hw_dr ?_ | refine hw_block ?_ | refine hx_block ?_ | refine hw_tt ?_ | refine hw_ff ?_ | refine hw_iT ?_ | refine hw_iF ?_ | refine hw_skip ?_ | refine hw_ret ?_ | refine hw_exit ?_ | refine hx_then_ret ?_ | refine hx_block_ret ?_ | refine hx_then_exit ?_ | refine hx_block_here ?_ | refine hx_far ?_ | refine hx_any ?_ | (apply ha_end; decide +kernel))
  refine hw_if rfl (fun hlt => ?_) (fun hge => ?_)
  · have hk2 : k < xs.length := by omega
    have hc := hx.get k hk2
    repeat' (first | refine hl_a ?_ | refine hq_a ?_ | refine hl_nil ?_ | refine hq_nil ?_ | refine hq_ga ?_ | refine hq_sk ?_ | refine hq_su ?_ | refine hq_gT ?_ | refine hq_gF ?_ | refine hq_gd (fun h => ?_) (fun h => ?_) | refine hl_ga ?_ | refine hl_sk ?_ | refine hl_su ?_ | refine hl_gT ?_ | refine hl_gF ?_ | refine hl_gd (fun h => ?_) (fun h => ?_) | refine hx_next ?_ | refine hw_seq ?_ | refine hw_region ?_ | refine hw_dr ?_ | refine hw_block ?_ | refine hx_block ?_ | refine hw_tt ?_ | refine hw_ff ?_ | refine hw_iT ?_ | refine hw_iF ?_ | refine hw_skip ?_ | refine hw_ret ?_ | refine hw_exit ?_ | refine hx_then_ret ?_ | refine hx_block_ret ?_ | refine hx_then_exit ?_ | refine hx_block_here ?_ | refine hx_far ?_ | refine hx_any ?_ | (apply ha_end; decide +kernel))
    first | refine hl_q (by decide) (q_min (minI xs (k + 1)) rfl rfl rfl) ?_ | refine hq_q (by decide) (q_min (minI xs (k + 1)) rfl rfl rfl) ?_ | refine hl_g _ _ rfl rfl (by decide) (q_min (minI xs (k + 1)) rfl rfl rfl) ?_ | refine hq_g _ _ rfl rfl (by decide) (q_min (minI xs (k + 1)) rfl rfl rfl) ?_
    repeat' (first | refine hl_a ?_ | refine hq_a ?_ | refine hl_nil ?_ | refine hq_nil ?_ | refine hq_ga ?_ | refine hq_sk ?_ | refine hq_su ?_ | refine hq_gT ?_ | refine hq_gF ?_ | refine hq_gd (fun h => ?_) (fun h => ?_) | refine hl_ga ?_ | refine hl_sk ?_ | refine hl_su ?_ | refine hl_gT ?_ | refine hl_gF ?_ | refine hl_gd (fun h => ?_) (fun h => ?_) | refine hx_next ?_ | refine hw_seq ?_ | refine hw_region ?_ | refine hw_dr ?_ | refine hw_block ?_ | refine hx_block ?_ | refine hw_tt ?_ | refine hw_ff ?_ | refine hw_iT ?_ | refine hw_iF ?_ | refine hw_skip ?_ | refine hw_ret ?_ | refine hw_exit ?_ | refine hx_then_ret ?_ | refine hx_block_ret ?_ | refine hx_then_exit ?_ | refine hx_block_here ?_ | refine hx_far ?_ | refine hx_any ?_ | (apply ha_end; decide +kernel))
    exact hx_round ⟨rfl, k + 1, by omega, hk2, rfl, rfl⟩ (by omega) ⟨rfl, rfl, rfl, trivial⟩
  · have e : k = xs.length := by omega
    subst e
    repeat' (first | refine hl_a ?_ | refine hq_a ?_ | refine hl_nil ?_ | refine hq_nil ?_ | refine hq_ga ?_ | refine hq_sk ?_ | refine hq_su ?_ | refine hq_gT ?_ | refine hq_gF ?_ | refine hq_gd (fun h => ?_) (fun h => ?_) | refine hl_ga ?_ | refine hl_sk ?_ | refine hl_su ?_ | refine hl_gT ?_ | refine hl_gF ?_ | refine hl_gd (fun h => ?_) (fun h => ?_) | refine hx_next ?_ | refine hw_seq ?_ | refine hw_region ?_ | refine hw_dr ?_ | refine hw_block ?_ | refine hx_block ?_ | refine hw_tt ?_ | refine hw_ff ?_ | refine hw_iT ?_ | refine hw_iF ?_ | refine hw_skip ?_ | refine hw_ret ?_ | refine hw_exit ?_ | refine hx_then_ret ?_ | refine hx_block_ret ?_ | refine hx_then_exit ?_ | refine hx_block_here ?_ | refine hx_far ?_ | refine hx_any ?_ | (apply ha_end; decide +kernel))
    exact hx_ret1 rfl rfl (fun w hm => ⟨rfl, hm.none⟩)
theorem allSame_c (v : Value) (xs : List Int) (h0 : xs.length ≠ 0) (w : World) (hx : RdE (Value.int .i64) 0 w v xs) : Ret Try.prog 102 [v] w (.bool (decide (AllEq xs))) := by
  refine calls_hw Try.func102 Try.ntmps102 rfl rfl ?_
  repeat' (first | refine hl_a ?_ | refine hq_a ?_ | refine hl_nil ?_ | refine hq_nil ?_ | refine hq_ga ?_ | refine hq_sk ?_ | refine hq_su ?_ | refine hq_gT ?_ | refine hq_gF ?_ | refine hq_gd (fun h => ?_) (fun h => ?_) | refine hl_ga ?_ | refine hl_sk ?_ | refine hl_su ?_ | refine hl_gT ?_ | refine hl_gF ?_ | refine hl_gd (fun h => ?_) (fun h => ?_) | refine hx_next ?_ | refine hw_seq ?_ | refine hw_region ?_ | refine hw_dr ?_ | refine hw_block ?_ | refine hx_block ?_ | refine hw_tt ?_ | refine hw_ff ?_ | refine hw_iT ?_ | refine hw_iF ?_ | refine hw_skip ?_ | refine hw_ret ?_ | refine hw_exit ?_ | refine hx_then_ret ?_ | refine hx_block_ret ?_ | refine hx_then_exit ?_ | refine hx_block_here ?_ | refine hx_far ?_ | refine hx_any ?_ | (apply ha_end; decide +kernel))
  first | refine hl_q (by decide) (q_call (fun w hm => slicesMax_c v xs h0 w (hx.up hm.below)) rfl) ?_ | refine hq_q (by decide) (q_call (fun w hm => slicesMax_c v xs h0 w (hx.up hm.below)) rfl) ?_ | refine hl_g _ _ rfl rfl (by decide) (q_call (fun w hm => slicesMax_c v xs h0 w (hx.up hm.below)) rfl) ?_ | refine hq_g _ _ rfl rfl (by decide) (q_call (fun w hm => slicesMax_c v xs h0 w (hx.up hm.below)) rfl) ?_
  repeat' (first | refine hl_a ?_ | refine hq_a ?_ | refine hl_nil ?_ | refine hq_nil ?_ | refine hq_ga ?_ | refine hq_sk ?_ | refine hq_su ?_ | refine hq_gT ?_ | refine hq_gF ?_ | refine hq_gd (fun h => ?_) (fun h => ?_) | refine hl_ga ?_ | refine hl_sk ?_ | refine hl_su ?_ | refine hl_gT ?_ | refine hl_gF ?_ | refine hl_gd (fun h => ?_) (fun h => ?_) | refine hx_next ?_ | refine hw_seq ?_ | refine hw_region ?_ | refine hw_dr ?_ | refine hw_block ?_ | refine hx_block ?_ | refine hw_tt ?_ | refine hw_ff ?_ | refine hw_iT ?_ | refine hw_iF ?_ | refine hw_skip ?_ | refine hw_ret ?_ | refine hw_exit ?_ | refine hx_then_ret ?_ | refine hx_block_ret ?_ | refine hx_then_exit ?_ | refine hx_block_here ?_ | refine hx_far ?_ | refine hx_any ?_ | (apply ha_end; decide +kernel))
  first | refine hl_q (by decide) (q_call (fun w hm => slicesMin_c v xs h0 w (hx.up hm.below)) rfl) ?_ | refine hq_q (by decide) (q_call (fun w hm => slicesMin_c v xs h0 w (hx.up hm.below)) rfl) ?_ | refine hl_g _ _ rfl rfl (by decide) (q_call (fun w hm => slicesMin_c v xs h0 w (hx.up hm.below)) rfl) ?_ | refine hq_g _ _ rfl rfl (by decide) (q_call (fun w hm => slicesMin_c v xs h0 w (hx.up hm.below)) rfl) ?_
  repeat' (first | refine hl_a ?_ | refine hq_a ?_ | refine hl_nil ?_ | refine hq_nil ?_ | refine hq_ga ?_ | refine hq_sk ?_ | refine hq_su ?_ | refine hq_gT ?_ | refine hq_gF ?_ | refine hq_gd (fun h => ?_) (fun h => ?_) | refine hl_ga ?_ | refine hl_sk ?_ | refine hl_su ?_ | refine hl_gT ?_ | refine hl_gF ?_ | refine hl_gd (fun h => ?_) (fun h => ?_) | refine hx_next ?_ | refine hw_seq ?_ | refine hw_region ?_ | refine hw_dr ?_ | refine hw_block ?_ | refine hx_block ?_ | refine hw_tt ?_ | refine hw_ff ?_ | refine hw_iT ?_ | refine hw_iF ?_ | refine hw_skip ?_ | refine hw_ret ?_ | refine hw_exit ?_ | refine hx_then_ret ?_ | refine hx_block_ret ?_ | refine hx_then_exit ?_ | refine hx_block_here ?_ | refine hx_far ?_ | refine hx_any ?_ | (apply ha_end; decide +kernel))
  refine hx_ret1 rfl rfl (fun w hm => ⟨?_, hm.none⟩)
  simp only [maxmin_iff]
theorem l05Equal_c (v : Value) (xs : List Int) (h0 : xs.length ≠ 0) (w : World) (hx : RdE (Value.int .i64) 0 w v xs) : Ret Try.prog 101 [v] w (.bool (decide (AllEq xs))) := by
  refine calls_hw Try.func101 Try.ntmps101 rfl rfl ?_
  have hs := hx.sl
  have hle := hs.le
  have h2 : 0 < xs.length := by omega
  have c0 := hx.get 0 h2
  repeat' (first | refine hl_a ?_ | refine hq_a ?_ | refine hl_nil ?_ | refine hq_nil ?_ | refine hq_ga ?_ | refine hq_sk ?_ | refine hq_su ?_ | refine hq_gT ?_ | refine hq_gF ?_ | refine hq_gd (fun h => ?_) (fun h => ?_) | refine hl_ga ?_ | refine hl_sk ?_ | refine hl_su ?_ | refine hl_gT ?_ | refine hl_gF ?_ | refine hl_gd (fun h => ?_) (fun h => ?_) | refine hx_next ?_ | refine hw_seq ?_ | refine hw_region ?_ | refine hw_dr ?_ | refine hw_block ?_ | refine hx_block ?_ | refine hw_tt ?_ | refine hw_ff ?_ | refine hw_iT ?_ | refine hw_iF ?_ | refine hw_skip ?_ | refine hw_ret ?_ | refine hw_exit ?_ | refine hx_then_ret ?_ | refine hx_block_ret ?_ | refine hx_then_exit ?_ | refine hx_block_here ?_ | refine hx_far ?_ | refine hx_any ?_ | (apply ha_end; decide +kernel))
  refine hw_loop (fun e r m => r = [] ∧ ∃ k : Nat, 1 ≤ k ∧ k ≤ xs.length ∧ m = xs.length - k ∧ e = [(0, v), (3, .int .i64 k)] ∧ ∀ i, i < k → xs.getD i 0 = xs.getD 0 0)
    ⟨rfl, 1, Nat.le_refl _, by omega, rfl, rfl, fun i hi => by rw [show i = 0 by omega]⟩ ⟨rfl, rfl, trivial⟩ ?_
  rintro _ _ _ ⟨rfl, k, hk1, hk, rfl, rfl, hall⟩
  repeat' (first | refine hl_a ?_ | refine hq_a ?_ | refine hl_nil ?_ | refine hq_nil ?_ | refine hq_ga ?_ | refine hq_sk ?_ | refine hq_su ?_ | refine hq_gT ?_ | refine hq_gF ?_ | refine hq_gd (fun h => ?_) (fun h => ?_) | refine hl_ga ?_ | refine hl_sk ?_ | refine hl_su ?_ | refine hl_gT ?_ | refine hl_gF ?_ | refine hl_gd (fun h => ?_) (fun h => ?_) | refine hx_next ?_ | refine hw_seq ?_ | refine hw_region ?_ | refine hw_dr ?_ | refine hw_block ?_ | refine hx_block ?_ | refine hw_tt ?_ | refine hw_ff ?_ | refine hw_iT ?_ | refine hw_iF ?_ | refine hw_skip ?_ | refine hw_ret ?_ | refine hw_exit ?_ | refine hx_then_ret ?_ | refine hx_block_ret ?_ | refine hx_then_exit ?_ | refine hx_block_here ?_ | refine hx_far ?_ | refine hx_any ?_ | (apply ha_end; decide +kernel))
  refine hw_if rfl (fun hlt => ?_) (fun hge => ?_)
  · have hk2 : k < xs.length := by omega
    have hc := hx.get k hk2
    repeat' (first | refine hl_a ?_ | refine hq_a ?_ | refine hl_nil ?_ | refine hq_nil ?_ | refine hq_ga ?_ | refine hq_sk ?_ | refine hq_su ?_ | refine hq_gT ?_ | refine hq_gF ?_ | refine hq_gd (fun h => ?_) (fun h => ?_) | refine hl_ga ?_ | refine hl_sk ?_ | refine hl_su ?_ | refine hl_gT ?_ | refine hl_gF ?_ | refine hl_gd (fun h => ?_) (fun h => ?_) | refine hx_next ?_ | refine hw_seq ?_ | refine hw_region ?_ | refine hw_dr ?_ | refine hw_block ?_ | refine hx_block ?_ | refine hw_tt ?_ | refine hw_ff ?_ | refine hw_iT ?_ | refine hw_iF ?_ | refine hw_skip ?_ | refine hw_ret ?_ | refine hw_exit ?_ | refine hx_then_ret ?_ | refine hx_block_ret ?_ | refine hx_then_exit ?_ | refine hx_block_here ?_ | refine hx_far ?_ | refine hx_any ?_ | (apply ha_end; decide +kernel))
    refine hw_if rfl (fun h => ?_) (fun h => ?_)
    · repeat' (first | refine hl_a ?_ | refine hq_a ?_ | refine hl_nil ?_ | refine hq_nil ?_ | refine hq_ga ?_ | refine hq_sk ?_ | refine hq_su ?_ | refine hq_gT ?_ | refine hq_gF ?_ | refine hq_gd (fun h => ?_) (fun h => ?_) | refine hl_ga ?_ | refine hl_sk ?_ | refine hl_su ?_ | refine hl_gT ?_ | refine hl_gF ?_ | refine hl_gd (fun h => ?_) (fun h => ?_) | refine hx_next ?_ | refine hw_seq ?_ | refine hw_region ?_ | refine hw_dr ?_ | refine hw_block ?_ | refine hx_block ?_ | refine hw_tt ?_ | refine hw_ff ?_ | refine hw_iT ?_ | refine hw_iF ?_ | refine hw_skip ?_ | refine hw_ret ?_ | refine hw_exit ?_ | refine hx_then_ret ?_ | refine hx_block_ret ?_ | refine hx_then_exit ?_ | refine hx_block_here ?_ | refine hx_far ?_ | refine hx_any ?_ | (apply ha_end; decide +kernel))
      refine hx_ret1 rfl rfl (fun w hm => ⟨?_, hm.none⟩)
      rw [decide_eq_false (fun e => h (e k hk2))]
    repeat' (first | refine hl_a ?_ | refine hq_a ?_ | refine hl_nil ?_ | refine hq_nil ?_ | refine hq_ga ?_ | refine hq_sk ?_ | refine hq_su ?_ | refine hq_gT ?_ | refine hq_gF ?_ | refine hq_gd (fun h => ?_) (fun h => ?_) | refine hl_ga ?_ | refine hl_sk ?_ | refine hl_su ?_ | refine hl_gT ?_ | refine hl_gF ?_ | refine hl_gd (fun h => ?_) (fun h => ?_) | refine hx_next ?_ | refine hw_seq ?_ | refine hw_region ?_ | refine hw_dr ?_ | refine hw_block ?_ | refine hx_block ?_ | refine hw_tt ?_ | refine hw_ff ?_ | refine hw_iT ?_ | refine hw_iF ?_ | refine hw_skip ?_ | refine hw_ret ?_ | refine hw_exit ?_ | refine hx_then_ret ?_ | refine hx_block_ret ?_ | refine hx_then_exit ?_ | refine hx_block_here ?_ | refine hx_far ?_ | refine hx_any ?_ | (apply ha_end; decide +kernel))
    refine hx_round ⟨rfl, k + 1, by omega, hk2, rfl, rfl, fun i hi => ?_⟩ (by omega) ⟨rfl, rfl, trivial⟩
    by_cases e : i = k
    · subst e; exact Classical.not_not.1 h
    · exact hall i (by omega)
  · repeat' (first | refine hl_a ?_ | refine hq_a ?_ | refine hl_nil ?_ | refine hq_nil ?_ | refine hq_ga ?_ | refine hq_sk ?_ | refine hq_su ?_ | refine hq_gT ?_ | refine hq_gF ?_ | refine hq_gd (fun h => ?_) (fun h => ?_) | refine hl_ga ?_ | refine hl_sk ?_ | refine hl_su ?_ | refine hl_gT ?_ | refine hl_gF ?_ | refine hl_gd (fun h => ?_) (fun h => ?_) | refine hx_next ?_ | refine hw_seq ?_ | refine hw_region ?_ | refine hw_dr ?_ | refine hw_block ?_ | refine hx_block ?_ | refine hw_tt ?_ | refine hw_ff ?_ | refine hw_iT ?_ | refine hw_iF ?_ | refine hw_skip ?_ | refine hw_ret ?_ | refine hw_exit ?_ | refine hx_then_ret ?_ | refine hx_block_ret ?_ | refine hx_then_exit ?_ | refine hx_block_here ?_ | refine hx_far ?_ | refine hx_any ?_ | (apply ha_end; decide +kernel))
    refine hx_ret1 rfl rfl (fun w hm => ⟨?_, hm.none⟩)
    rw [decide_eq_true (p := AllEq xs) (fun i hi => hall i (by omega))]

theorem backL_congr (xss : List (List Int)) (ds es : List Int) : ∀ k now, (∀ i, i < k → ds.getD i 0 = es.getD i 0) → backL xss ds k now = backL xss es k now
  | 0, _, _ => rfl
  | k + 1, now, h => by
    rw [backL, backL, h k (by omega)]
    exact backL_congr xss ds es k _ (fun i hi => h i (by omega))
theorem take_getD (ds : List Int) (k i : Nat) (h : i < k) : (ds.take k).getD i 0 = ds.getD i 0 := by
  simp [List.getD_eq_getElem?_getD, List.getElem?_take, h]
theorem PicksOk.take {n : Nat} {ds : List Int} (h : PicksOk n ds) (k : Nat) : PicksOk n (ds.take k) := by
  have := h.len
  refine ⟨by rw [List.length_take]; omega, fun i hi => ?_⟩
  rw [List.length_take] at hi
  rw [take_getD _ _ _ (by omega)]
  exact h.all i (by omega)
set_option maxHeartbeats 1000000 in
theorem fromPast_c (st tot : Int) (v : Value) (ks : List Int) (xss : List (List Int)) (row : Nat → Value) (u : Value) (fr : List Int) (vp : Value) (ps : List Int) (w : World) (hr : RdM w v ks xss row) (hv : ValidM st tot ks xss) (hx : RdE (Value.int .i64) 0 w u fr) (hn : MSts st fr) (hl : fr.length ≤ 1000)
    (hd : RdE (Value.int .i64) 0 w vp ps) (hp : PicksOk xss.length ps) (h0 : ps.length ≠ 0) :
    Gives Try.prog 114 [chV st tot v, u, vp] w (OutE 2 (Value.int .i64) (backL xss ps ps.length fr)) := by
  refine calls_hw Try.func114 Try.ntmps114 rfl rfl ?_
  have hdl := hd.sl
  have hle := hdl.le
  repeat' (first | refine hl_a ?_ | refine hq_a ?_ | refine hl_nil ?_ | refine hq_nil ?_ | refine hq_ga ?_ | refine hq_sk ?_ | refine hq_su ?_ | refine hq_gT ?_ | refine hq_gF ?_ | refine hq_gd (fun h => ?_) (fun h => ?_) | refine hl_ga ?_ | refine hl_sk ?_ | refine hl_su ?_ | refine hl_gT ?_ | refine hl_gF ?_ | refine hl_gd (fun h => ?_) (fun h => ?_) | refine hx_next ?_ | refine hw_seq ?_ | refine hw_region ?_ | refine hw_dr ?_ | refine hw_block ?_ | refine hx_block ?_ | refine hw_tt ?_ | refine hw_ff ?_ | refine hw_iT ?_ | refine hw_iF ?_ | refine hw_skip ?_ | refine hw_ret ?_ | refine hw_exit ?_ | refine hx_then_ret ?_ | refine hx_block_ret ?_ | refine hx_then_exit ?_ | refine hx_block_here ?_ | refine hx_far ?_ | refine hx_any ?_ | (apply ha_end; decide +kernel))
  refine hl_box (by decide) rfl (fun b => ?_)
  repeat' (first | refine hl_a ?_ | refine hq_a ?_ | refine hl_nil ?_ | refine hq_nil ?_ | refine hq_ga ?_ | refine hq_sk ?_ | refine hq_su ?_ | refine hq_gT ?_ | refine hq_gF ?_ | refine hq_gd (fun h => ?_) (fun h => ?_) | refine hl_ga ?_ | refine hl_sk ?_ | refine hl_su ?_ | refine hl_gT ?_ | refine hl_gF ?_ | refine hl_gd (fun h => ?_) (fun h => ?_) | refine hx_next ?_ | refine hw_seq ?_ | refine hw_region ?_ | refine hw_dr ?_ | refine hw_block ?_ | refine hx_block ?_ | refine hw_tt ?_ | refine hw_ff ?_ | refine hw_iT ?_ | refine hw_iF ?_ | refine hw_skip ?_ | refine hw_ret ?_ | refine hw_exit ?_ | refine hx_then_ret ?_ | refine hx_block_ret ?_ | refine hx_then_exit ?_ | refine hx_block_here ?_ | refine hx_far ?_ | refine hx_any ?_ | (apply ha_end; decide +kernel))
  refine hw_loop (fun e r m => ∃ (j : Nat) (u : Value) (now : List Int) (r' : List Res), r = rBlk b #[.int .i64 st, .int .i64 tot, v] 33 :: r' ∧ (∀ w', Mem w r w' → RdE (Value.int .i64) 0 w' u now) ∧ j ≤ ps.length ∧ m = j ∧ e = [(1, u), (2, vp), (3, .pointer (some ⟨b, 0, none⟩)), (7, .int .i64 ((j : Int) - 1))] ∧ backL xss ps j now = backL xss ps ps.length fr ∧ MSts st now ∧ now.length ≤ 1000 ∧ (j < ps.length → r' = [rE 2 (Value.int .i64) u now] ∧ SlOk u now.length))
    ⟨ps.length, u, fr, [], rfl, fun w' hm => hx.up hm.below, Nat.le_refl _, rfl, rfl, rfl, hn, hl, by omega⟩ ⟨rfl, rfl, rfl, rfl, trivial⟩ ?_
  rintro _ _ j ⟨_, u, now, r', rfl, hrd, hj, rfl, rfl, hinv, hns, hnl, hlast⟩
  repeat' (first | refine hl_a ?_ | refine hq_a ?_ | refine hl_nil ?_ | refine hq_nil ?_ | refine hq_ga ?_ | refine hq_sk ?_ | refine hq_su ?_ | refine hq_gT ?_ | refine hq_gF ?_ | refine hq_gd (fun h => ?_) (fun h => ?_) | refine hl_ga ?_ | refine hl_sk ?_ | refine hl_su ?_ | refine hl_gT ?_ | refine hl_gF ?_ | refine hl_gd (fun h => ?_) (fun h => ?_) | refine hx_next ?_ | refine hw_seq ?_ | refine hw_region ?_ | refine hw_dr ?_ | refine hw_block ?_ | refine hx_block ?_ | refine hw_tt ?_ | refine hw_ff ?_ | refine hw_iT ?_ | refine hw_iF ?_ | refine hw_skip ?_ | refine hw_ret ?_ | refine hw_exit ?_ | refine hx_then_ret ?_ | refine hx_block_ret ?_ | refine hx_then_exit ?_ | refine hx_block_here ?_ | refine hx_far ?_ | refine hx_any ?_ | (apply ha_end; decide +kernel))
  refine hw_if rfl (fun hlt => ?_) (fun hge => ?_)
  · obtain ⟨i, rfl⟩ : ∃ i, j = i + 1 := ⟨j - 1, by omega⟩
    rw [show (((i + 1 : Nat) : Int) - 1) = (i : Int) by omega]
    have hi2 : i < ps.length := by omega
    have ci := hd.get i hi2
    have hpi := hp.all i hi2
    repeat' (first | refine hl_a ?_ | refine hq_a ?_ | refine hl_nil ?_ | refine hq_nil ?_ | refine hq_ga ?_ | refine hq_sk ?_ | refine hq_su ?_ | refine hq_gT ?_ | refine hq_gF ?_ | refine hq_gd (fun h => ?_) (fun h => ?_) | refine hl_ga ?_ | refine hl_sk ?_ | refine hl_su ?_ | refine hl_gT ?_ | refine hl_gF ?_ | refine hl_gd (fun h => ?_) (fun h => ?_) | refine hx_next ?_ | refine hw_seq ?_ | refine hw_region ?_ | refine hw_block ?_ | refine hx_block ?_ | refine hw_tt ?_ | refine hw_ff ?_ | refine hw_iT ?_ | refine hw_iF ?_ | refine hw_skip ?_ | refine hw_ret ?_ | refine hw_exit ?_ | refine hx_then_ret ?_ | refine hx_block_ret ?_ | refine hx_then_exit ?_ | refine hx_block_here ?_ | refine hx_far ?_ | refine hx_any ?_ | (apply ha_end; decide +kernel))
    refine hw_g [rBlk b #[.int .i64 st, .int .i64 tot, v] 33] 8 (by kernel_rfl) ?_
    first | refine hg_t 0 ?_ | refine hg_tn 0 ?_
    first | refine hg_t 1 ?_ | refine hg_tn 1 ?_
    first | refine hg_t 2 ?_ | refine hg_tn 2 ?_
    first | refine hg_t 3 ?_ | refine hg_tn 3 ?_
    first | refine hg_t 4 ?_ | refine hg_tn 4 ?_
    first | refine hg_t 5 ?_ | refine hg_tn 5 ?_
    refine hg_1 6 (by decide +kernel) rfl ?_
    refine hl_call (by decide) (fun w hm => goBy_c st tot v ks xss row u now (ps.getD i 0) w (hr.up hm.below) hv (hrd w hm) hns hnl hpi) rfl ?_
    rintro u2 _ ⟨rfl, hu2⟩
    refine hl_nil ?_
    refine hx_hg (by first | exact fun w hm => hm.none | exact fun w hm => Mem.keep _ hm) ?_
    refine hg_1 7 (by decide +kernel) rfl ?_
    refine hl_a ?_
    refine hl_nil ?_
    refine hx_hg (by first | exact fun w hm => hm.none | exact fun w hm => Mem.keep _ hm) ?_
    refine hg_end (by decide +kernel) ?_
    repeat' (first | refine hl_a ?_ | refine hq_a ?_ | refine hl_nil ?_ | refine hq_nil ?_ | refine hq_ga ?_ | refine hq_sk ?_ | refine hq_su ?_ | refine hq_gT ?_ | refine hq_gF ?_ | refine hq_gd (fun h => ?_) (fun h => ?_) | refine hl_ga ?_ | refine hl_sk ?_ | refine hl_su ?_ | refine hl_gT ?_ | refine hl_gF ?_ | refine hl_gd (fun h => ?_) (fun h => ?_) | refine hx_next ?_ | refine hw_seq ?_ | refine hw_region ?_ | refine hw_block ?_ | refine hx_block ?_ | refine hw_tt ?_ | refine hw_ff ?_ | refine hw_iT ?_ | refine hw_iF ?_ | refine hw_skip ?_ | refine hw_ret ?_ | refine hw_exit ?_ | refine hx_then_ret ?_ | refine hx_block_ret ?_ | refine hx_then_exit ?_ | refine hx_block_here ?_ | refine hx_far ?_ | refine hx_any ?_ | (apply ha_end; decide +kernel))
    refine hx_mem (rs' := [rBlk b #[.int .i64 st, .int .i64 tot, v] 33, rE 2 (Value.int .i64) u2 (byL xss now (ps.getD i 0))]) (fun w hm => Mem.ends hm) ?_
    exact hx_round ⟨i, u2, _, _, rfl, fun w' hm => hm.rd 1 rfl 0, by omega, rfl, rfl, by rw [← hinv]; rfl, byL_sts hv hns hpi, by rw [byL_length]; exact hnl, fun _ => ⟨rfl, hu2⟩⟩ (by omega) ⟨rfl, rfl, rfl, rfl, trivial⟩
  · have e : j = 0 := by omega
    subst e
    obtain ⟨rfl, hu⟩ := hlast (by omega)
    rw [← hinv]
    repeat' (first | refine hl_a ?_ | refine hq_a ?_ | refine hl_nil ?_ | refine hq_nil ?_ | refine hq_ga ?_ | refine hq_sk ?_ | refine hq_su ?_ | refine hq_gT ?_ | refine hq_gF ?_ | refine hq_gd (fun h => ?_) (fun h => ?_) | refine hl_ga ?_ | refine hl_sk ?_ | refine hl_su ?_ | refine hl_gT ?_ | refine hl_gF ?_ | refine hl_gd (fun h => ?_) (fun h => ?_) | refine hx_next ?_ | refine hw_seq ?_ | refine hw_region ?_ | refine hw_dr ?_ | refine hw_block ?_ | refine hx_block ?_ | refine hw_tt ?_ | refine hw_ff ?_ | refine hw_iT ?_ | refine hw_iF ?_ | refine hw_skip ?_ | refine hw_ret ?_ | refine hw_exit ?_ | refine hx_then_ret ?_ | refine hx_block_ret ?_ | refine hx_then_exit ?_ | refine hx_block_here ?_ | refine hx_far ?_ | refine hx_any ?_ | (apply ha_end; decide +kernel))
    exact hx_ret1 rfl rfl (fun w hm => ⟨_, _, rfl, hm.lone 1 rfl, rfl, hu⟩)
set_option maxHeartbeats 1000000 in
theorem l05Back_c (p : Addr) (st tot : Int) (v : Value) (ks : List Int) (xss : List (List Int)) (row : Nat → Value) (u : Value) (fr : List Int) (vp : Value) (ps : List Int) (k : Nat) (w : World) (hpt : PtM w p st tot v ks xss row) (hv : ValidM st tot ks xss) (hx : RdE (Value.int .i64) 0 w u fr) (hn : MSts st fr) (hl : fr.length ≤ 1000) (hf0 : fr.length ≠ 0)
    (hd : RdE (Value.int .i64) 0 w vp ps) (hp : PicksOk xss.length ps) (hk : k ≤ ps.length) :
    Gives Try.prog 103 [.pointer (some p), u, vp, .int .i64 (k : Int)] w (OutE 2 (Value.int .i64) (backL xss ps k fr)) := by
  refine calls_hw Try.func103 Try.ntmps103 rfl rfl ?_
  have hdl := hd.sl
  have hpl := hp.len
  repeat' (first | refine hl_a ?_ | refine hq_a ?_ | refine hl_nil ?_ | refine hq_nil ?_ | refine hq_ga ?_ | refine hq_sk ?_ | refine hq_su ?_ | refine hq_gT ?_ | refine hq_gF ?_ | refine hq_gd (fun h => ?_) (fun h => ?_) | refine hl_ga ?_ | refine hl_sk ?_ | refine hl_su ?_ | refine hl_gT ?_ | refine hl_gF ?_ | refine hl_gd (fun h => ?_) (fun h => ?_) | refine hx_next ?_ | refine hw_seq ?_ | refine hw_region ?_ | refine hw_dr ?_ | refine hw_block ?_ | refine hx_block ?_ | refine hw_tt ?_ | refine hw_ff ?_ | refine hw_iT ?_ | refine hw_iF ?_ | refine hw_skip ?_ | refine hw_ret ?_ | refine hw_exit ?_ | refine hx_then_ret ?_ | refine hx_block_ret ?_ | refine hx_then_exit ?_ | refine hx_block_here ?_ | refine hx_far ?_ | refine hx_any ?_ | (apply ha_end; decide +kernel))
  refine hl_call (by decide) (fun w hm => l00Own_w u fr hl hf0 w (hx.up hm.below)) rfl ?_
  rintro u0 _ ⟨rfl, hu0⟩
  repeat' (first | refine hl_a ?_ | refine hq_a ?_ | refine hl_nil ?_ | refine hq_nil ?_ | refine hq_ga ?_ | refine hq_sk ?_ | refine hq_su ?_ | refine hq_gT ?_ | refine hq_gF ?_ | refine hq_gd (fun h => ?_) (fun h => ?_) | refine hl_ga ?_ | refine hl_sk ?_ | refine hl_su ?_ | refine hl_gT ?_ | refine hl_gF ?_ | refine hl_gd (fun h => ?_) (fun h => ?_) | refine hx_next ?_ | refine hw_seq ?_ | refine hw_region ?_ | refine hw_dr ?_ | refine hw_block ?_ | refine hx_block ?_ | refine hw_tt ?_ | refine hw_ff ?_ | refine hw_iT ?_ | refine hw_iF ?_ | refine hw_skip ?_ | refine hw_ret ?_ | refine hw_exit ?_ | refine hx_then_ret ?_ | refine hx_block_ret ?_ | refine hx_then_exit ?_ | refine hx_block_here ?_ | refine hx_far ?_ | refine hx_any ?_ | (apply ha_end; decide +kernel))
  refine hw_loop (fun e r m => ∃ (j : Nat) (u : Value) (now : List Int), r = [rE 2 (Value.int .i64) u now] ∧ SlOk u now.length ∧ j ≤ k ∧ m = j ∧ e = [(0, .pointer (some p)), (2, vp), (9, u), (10, .int .i64 ((j : Int) - 1))] ∧ backL xss ps j now = backL xss ps k fr ∧ MSts st now ∧ now.length ≤ 1000)
    ⟨k, u0, fr, rfl, hu0, Nat.le_refl _, rfl, rfl, rfl, hn, hl⟩ ⟨rfl, rfl, rfl, rfl, trivial⟩ ?_
  rintro _ _ j ⟨_, u, now, rfl, hu, hj, rfl, rfl, hinv, hns, hnl⟩
  repeat' (first | refine hl_a ?_ | refine hq_a ?_ | refine hl_nil ?_ | refine hq_nil ?_ | refine hq_ga ?_ | refine hq_sk ?_ | refine hq_su ?_ | refine hq_gT ?_ | refine hq_gF ?_ | refine hq_gd (fun h => ?_) (fun h => ?_) | refine hl_ga ?_ | refine hl_sk ?_ | refine hl_su ?_ | refine hl_gT ?_ | refine hl_gF ?_ | refine hl_gd (fun h => ?_) (fun h => ?_) | refine hx_next ?_ | refine hw_seq ?_ | refine hw_region ?_ | refine hw_dr ?_ | refine hw_block ?_ | refine hx_block ?_ | refine hw_tt ?_ | refine hw_ff ?_ | refine hw_iT ?_ | refine hw_iF ?_ | refine hw_skip ?_ | refine hw_ret ?_ | refine hw_exit ?_ | refine hx_then_ret ?_ | refine hx_block_ret ?_ | refine hx_then_exit ?_ | refine hx_block_here ?_ | refine hx_far ?_ | refine hx_any ?_ | (apply ha_end; decide +kernel))
  refine hw_if rfl (fun hlt => ?_) (fun hge => ?_)
  · obtain ⟨i, rfl⟩ : ∃ i, j = i + 1 := ⟨j - 1, by omega⟩
    rw [show (((i + 1 : Nat) : Int) - 1) = (i : Int) by omega]
    have hi2 : i < ps.length := by omega
    have ci := hd.get i hi2
    have hpi := hp.all i hi2
    repeat' (first | refine hl_a ?_ | refine hq_a ?_ | refine hl_nil ?_ | refine hq_nil ?_ | refine hq_ga ?_ | refine hq_sk ?_ | refine hq_su ?_ | refine hq_gT ?_ | refine hq_gF ?_ | refine hq_gd (fun h => ?_) (fun h => ?_) | refine hl_ga ?_ | refine hl_sk ?_ | refine hl_su ?_ | refine hl_gT ?_ | refine hl_gF ?_ | refine hl_gd (fun h => ?_) (fun h => ?_) | refine hx_next ?_ | refine hw_seq ?_ | refine hw_region ?_ | refine hw_dr ?_ | refine hw_block ?_ | refine hx_block ?_ | refine hw_tt ?_ | refine hw_ff ?_ | refine hw_iT ?_ | refine hw_iF ?_ | refine hw_skip ?_ | refine hw_ret ?_ | refine hw_exit ?_ | refine hx_then_ret ?_ | refine hx_block_ret ?_ | refine hx_then_exit ?_ | refine hx_block_here ?_ | refine hx_far ?_ | refine hx_any ?_ | (apply ha_end; decide +kernel))
    refine hl_call (by decide) (fun w hm => l05By_c p st tot v ks xss row u now (ps.getD i 0) w (hpt.up hm.below) hv (hm.rd 0 rfl 0) hns hnl hpi) rfl ?_
    rintro u2 _ ⟨rfl, hu2⟩
    repeat' (first | refine hl_a ?_ | refine hq_a ?_ | refine hl_nil ?_ | refine hq_nil ?_ | refine hq_ga ?_ | refine hq_sk ?_ | refine hq_su ?_ | refine hq_gT ?_ | refine hq_gF ?_ | refine hq_gd (fun h => ?_) (fun h => ?_) | refine hl_ga ?_ | refine hl_sk ?_ | refine hl_su ?_ | refine hl_gT ?_ | refine hl_gF ?_ | refine hl_gd (fun h => ?_) (fun h => ?_) | refine hx_next ?_ | refine hw_seq ?_ | refine hw_region ?_ | refine hw_dr ?_ | refine hw_block ?_ | refine hx_block ?_ | refine hw_tt ?_ | refine hw_ff ?_ | refine hw_iT ?_ | refine hw_iF ?_ | refine hw_skip ?_ | refine hw_ret ?_ | refine hw_exit ?_ | refine hx_then_ret ?_ | refine hx_block_ret ?_ | refine hx_then_exit ?_ | refine hx_block_here ?_ | refine hx_far ?_ | refine hx_any ?_ | (apply ha_end; decide +kernel))
    refine hx_mem (rs' := [rE 2 (Value.int .i64) u2 (byL xss now (ps.getD i 0))]) (fun w hm => hm.lone 1 rfl) ?_
    exact hx_round ⟨i, u2, _, rfl, hu2, by omega, rfl, rfl, by rw [← hinv]; rfl, byL_sts hv hns hpi, by rw [byL_length]; exact hnl⟩ (by omega) ⟨rfl, rfl, rfl, rfl, trivial⟩
  · have e : j = 0 := by omega
    subst e
    rw [← hinv]
    repeat' (first | refine hl_a ?_ | refine hq_a ?_ | refine hl_nil ?_ | refine hq_nil ?_ | refine hq_ga ?_ | refine hq_sk ?_ | refine hq_su ?_ | refine hq_gT ?_ | refine hq_gF ?_ | refine hq_gd (fun h => ?_) (fun h => ?_) | refine hl_ga ?_ | refine hl_sk ?_ | refine hl_su ?_ | refine hl_gT ?_ | refine hl_gF ?_ | refine hl_gd (fun h => ?_) (fun h => ?_) | refine hx_next ?_ | refine hw_seq ?_ | refine hw_region ?_ | refine hw_dr ?_ | refine hw_block ?_ | refine hx_block ?_ | refine hw_tt ?_ | refine hw_ff ?_ | refine hw_iT ?_ | refine hw_iF ?_ | refine hw_skip ?_ | refine hw_ret ?_ | refine hw_exit ?_ | refine hx_then_ret ?_ | refine hx_block_ret ?_ | refine hx_then_exit ?_ | refine hx_block_here ?_ | refine hx_far ?_ | refine hx_any ?_ | (apply ha_end; decide +kernel))
    exact hx_ret1 rfl rfl (fun w hm => ⟨_, _, rfl, hm.lone 0 rfl, rfl, hu⟩)
set_option maxHeartbeats 2000000 in
theorem run_c (st tot : Int) (v : Value) (ks : List Int) (xss : List (List Int)) (row : Nat → Value) (u : Value) (fr : List Int) (vp : Value) (ds : List Int) (f : FuncId) [hB : Body Try.prog f] (g : Nat → Nat) (w : World) (hr : RdM w v ks xss row) (hv : ValidM st tot ks xss) (hx : RdE (Value.int .i64) 0 w u fr) (hn : MSts st fr) (hl : fr.length ≤ 1000) (hf0 : fr.length ≠ 0)
    (hd : RdE (Value.int .i64) 0 w vp ds) (hp : PicksOk xss.length ds) (hg : ∀ k, 1 ≤ k → k < g k) (hf : ∀ w' (k : Nat), k ≤ 200 → Ret Try.prog f [.int .i64 (k : Int)] w' (.int .i64 (g k : Nat))) :
    Ret Try.prog 70 [chV st tot v, u, vp, .int .i64 1, .func (.func f) #[] #[]] w (.tuple #[.int .i64 (runV g xss fr ds).a, .int .i64 (runV g xss fr ds).b, .int .i64 (runV g xss fr ds).c]) := by
  refine calls_hw Try.func70 Try.ntmps70 rfl rfl ?_
  have hdl := hd.sl
  have hpl := hp.len
  have hu := hx.sl
  have hf1 : 0 < fr.length := by omega
  have cf := hx.get 0 hf1
  repeat' (first | refine hl_a ?_ | refine hq_a ?_ | refine hl_nil ?_ | refine hq_nil ?_ | refine hq_ga ?_ | refine hq_sk ?_ | refine hq_su ?_ | refine hq_gT ?_ | refine hq_gF ?_ | refine hq_gd (fun h => ?_) (fun h => ?_) | refine hl_ga ?_ | refine hl_sk ?_ | refine hl_su ?_ | refine hl_gT ?_ | refine hl_gF ?_ | refine hl_gd (fun h => ?_) (fun h => ?_) | refine hx_next ?_ | refine hw_seq ?_ | refine hw_region ?_ | refine hw_dr ?_ | refine hw_block ?_ | refine hx_block ?_ | refine hw_tt ?_ | refine hw_ff ?_ | refine hw_iT ?_ | refine hw_iF ?_ | refine hw_skip ?_ | refine hw_ret ?_ | refine hw_exit ?_ | refine hx_then_ret ?_ | refine hx_block_ret ?_ | refine hx_then_exit ?_ | refine hx_block_here ?_ | refine hx_far ?_ | refine hx_any ?_ | (apply ha_end; decide +kernel))
  refine hl_box (by decide) rfl (fun b => ?_)
  repeat' (first | refine hl_a ?_ | refine hq_a ?_ | refine hl_nil ?_ | refine hq_nil ?_ | refine hq_ga ?_ | refine hq_sk ?_ | refine hq_su ?_ | refine hq_gT ?_ | refine hq_gF ?_ | refine hq_gd (fun h => ?_) (fun h => ?_) | refine hl_ga ?_ | refine hl_sk ?_ | refine hl_su ?_ | refine hl_gT ?_ | refine hl_gF ?_ | refine hl_gd (fun h => ?_) (fun h => ?_) | refine hx_next ?_ | refine hw_seq ?_ | refine hw_region ?_ | refine hw_dr ?_ | refine hw_block ?_ | refine hx_block ?_ | refine hw_tt ?_ | refine hw_ff ?_ | refine hw_iT ?_ | refine hw_iF ?_ | refine hw_skip ?_ | refine hw_ret ?_ | refine hw_exit ?_ | refine hx_then_ret ?_ | refine hx_block_ret ?_ | refine hx_then_exit ?_ | refine hx_block_here ?_ | refine hx_far ?_ | refine hx_any ?_ | (apply ha_end; decide +kernel))
  first | refine hl_q (by decide) (q_call (fun w hm => allSame_c u fr hf0 w (hx.up hm.below)) rfl) ?_ | refine hq_q (by decide) (q_call (fun w hm => allSame_c u fr hf0 w (hx.up hm.below)) rfl) ?_ | refine hl_g _ _ rfl rfl (by decide) (q_call (fun w hm => allSame_c u fr hf0 w (hx.up hm.below)) rfl) ?_ | refine hq_g _ _ rfl rfl (by decide) (q_call (fun w hm => allSame_c u fr hf0 w (hx.up hm.below)) rfl) ?_
  repeat' (first | refine hl_a ?_ | refine hq_a ?_ | refine hl_nil ?_ | refine hq_nil ?_ | refine hq_ga ?_ | refine hq_sk ?_ | refine hq_su ?_ | refine hq_gT ?_ | refine hq_gF ?_ | refine hq_gd (fun h => ?_) (fun h => ?_) | refine hl_ga ?_ | refine hl_sk ?_ | refine hl_su ?_ | refine hl_gT ?_ | refine hl_gF ?_ | refine hl_gd (fun h => ?_) (fun h => ?_) | refine hx_next ?_ | refine hw_seq ?_ | refine hw_region ?_ | refine hw_dr ?_ | refine hw_block ?_ | refine hx_block ?_ | refine hw_tt ?_ | refine hw_ff ?_ | refine hw_iT ?_ | refine hw_iF ?_ | refine hw_skip ?_ | refine hw_ret ?_ | refine hw_exit ?_ | refine hx_then_ret ?_ | refine hx_block_ret ?_ | refine hx_then_exit ?_ | refine hx_block_here ?_ | refine hx_far ?_ | refine hx_any ?_ | (apply ha_end; decide +kernel))
  refine hw_if rfl (fun h => ?_) (fun h => ?_)
  · have hR : runV g xss fr ds = ⟨fr.getD 0 0, 0, 0⟩ := by rw [runV, if_pos h]
    rw [hR]
    repeat' (first | refine hl_a ?_ | refine hq_a ?_ | refine hl_nil ?_ | refine hq_nil ?_ | refine hq_ga ?_ | refine hq_sk ?_ | refine hq_su ?_ | refine hq_gT ?_ | refine hq_gF ?_ | refine hq_gd (fun h => ?_) (fun h => ?_) | refine hl_ga ?_ | refine hl_sk ?_ | refine hl_su ?_ | refine hl_gT ?_ | refine hl_gF ?_ | refine hl_gd (fun h => ?_) (fun h => ?_) | refine hx_next ?_ | refine hw_seq ?_ | refine hw_region ?_ | refine hw_dr ?_ | refine hw_block ?_ | refine hx_block ?_ | refine hw_tt ?_ | refine hw_ff ?_ | refine hw_iT ?_ | refine hw_iF ?_ | refine hw_skip ?_ | refine hw_ret ?_ | refine hw_exit ?_ | refine hx_then_ret ?_ | refine hx_block_ret ?_ | refine hx_then_exit ?_ | refine hx_block_here ?_ | refine hx_far ?_ | refine hx_any ?_ | (apply ha_end; decide +kernel))
    exact hx_ret3 rfl rfl rfl rfl (fun w hm => ⟨rfl, hm.none⟩)
  have hR : runV g xss fr ds = runG g xss fr ds ds.length 1 := by rw [runV, if_neg h]
  rw [hR]
  repeat' (first | refine hl_a ?_ | refine hq_a ?_ | refine hl_nil ?_ | refine hq_nil ?_ | refine hq_ga ?_ | refine hq_sk ?_ | refine hq_su ?_ | refine hq_gT ?_ | refine hq_gF ?_ | refine hq_gd (fun h => ?_) (fun h => ?_) | refine hl_ga ?_ | refine hl_sk ?_ | refine hl_su ?_ | refine hl_gT ?_ | refine hl_gF ?_ | refine hl_gd (fun h => ?_) (fun h => ?_) | refine hx_next ?_ | refine hw_seq ?_ | refine hw_region ?_ | refine hw_dr ?_ | refine hw_block ?_ | refine hx_block ?_ | refine hw_tt ?_ | refine hw_ff ?_ | refine hw_iT ?_ | refine hw_iF ?_ | refine hw_skip ?_ | refine hw_ret ?_ | refine hw_exit ?_ | refine hx_then_ret ?_ | refine hx_block_ret ?_ | refine hx_then_exit ?_ | refine hx_block_here ?_ | refine hx_far ?_ | refine hx_any ?_ | (apply ha_end; decide +kernel))
  refine hw_loop (fun e r m => r = [rBlk b #[.int .i64 st, .int .i64 tot, v] 33] ∧ ∃ k : Nat, 1 ≤ k ∧ ds.length < k + m ∧ e = [(1, u), (2, vp), (4, .func (.func f) #[] #[]), (5, .pointer (some ⟨b, 0, none⟩)), (13, .int .i64 (k : Int))] ∧ runG g xss fr ds m k = runG g xss fr ds ds.length 1)
    (m0 := ds.length) ⟨rfl, 1, Nat.le_refl _, by omega, rfl, rfl⟩ ⟨rfl, rfl, rfl, rfl, rfl, trivial⟩ ?_
  rintro _ _ m ⟨rfl, k, hk1, hkm, rfl, hinv⟩
  repeat' (first | refine hl_a ?_ | refine hq_a ?_ | refine hl_nil ?_ | refine hq_nil ?_ | refine hq_ga ?_ | refine hq_sk ?_ | refine hq_su ?_ | refine hq_gT ?_ | refine hq_gF ?_ | refine hq_gd (fun h => ?_) (fun h => ?_) | refine hl_ga ?_ | refine hl_sk ?_ | refine hl_su ?_ | refine hl_gT ?_ | refine hl_gF ?_ | refine hl_gd (fun h => ?_) (fun h => ?_) | refine hx_next ?_ | refine hw_seq ?_ | refine hw_region ?_ | refine hw_dr ?_ | refine hw_block ?_ | refine hx_block ?_ | refine hw_tt ?_ | refine hw_ff ?_ | refine hw_iT ?_ | refine hw_iF ?_ | refine hw_skip ?_ | refine hw_ret ?_ | refine hw_exit ?_ | refine hx_then_ret ?_ | refine hx_block_ret ?_ | refine hx_then_exit ?_ | refine hx_block_here ?_ | refine hx_far ?_ | refine hx_any ?_ | (apply ha_end; decide +kernel))
  refine hw_if rfl (fun hlt => ?_) (fun hge => ?_)
  · have hk2 : k ≤ ds.length := by omega
    obtain ⟨q, rfl⟩ : ∃ q, m = q + 1 := ⟨m - 1, by omega⟩
    rw [runG, if_pos hk2] at hinv
    have htl : (ds.take k).length = k := by rw [List.length_take]; omega
    have hbe : backL xss (ds.take k) (ds.take k).length fr = backL xss ds k fr := by
      rw [htl]; exact backL_congr xss _ _ k fr (fun i hi => take_getD ds k i hi)
    have hbl := backL_length xss ds k fr
    repeat' (first | refine hl_a ?_ | refine hq_a ?_ | refine hl_nil ?_ | refine hq_nil ?_ | refine hq_ga ?_ | refine hq_sk ?_ | refine hq_su ?_ | refine hq_gT ?_ | refine hq_gF ?_ | refine hq_gd (fun h => ?_) (fun h => ?_) | refine hl_ga ?_ | refine hl_sk ?_ | refine hl_su ?_ | refine hl_gT ?_ | refine hl_gF ?_ | refine hl_gd (fun h => ?_) (fun h => ?_) | refine hx_next ?_ | refine hw_seq ?_ | refine hw_region ?_ | refine hw_block ?_ | refine hx_block ?_ | refine hw_tt ?_ | refine hw_ff ?_ | refine hw_iT ?_ | refine hw_iF ?_ | refine hw_skip ?_ | refine hw_ret ?_ | refine hw_exit ?_ | refine hx_then_ret ?_ | refine hx_block_ret ?_ | refine hx_then_exit ?_ | refine hx_block_here ?_ | refine hx_far ?_ | refine hx_any ?_ | (apply ha_end; decide +kernel))
    refine hw_g [rBlk b #[.int .i64 st, .int .i64 tot, v] 33] 7 (by kernel_rfl) ?_
    first | refine hg_t 0 ?_ | refine hg_tn 0 ?_
    first | refine hg_t 1 ?_ | refine hg_tn 1 ?_
    first | refine hg_t 2 ?_ | refine hg_tn 2 ?_
    first | refine hg_t 3 ?_ | refine hg_tn 3 ?_
    refine hg_t 4 ?_ (hq := by exact q_pre rfl rfl hdl hk2)
    refine hg_1 5 (by decide +kernel) rfl ?_
    refine hl_call (by decide) (fun w hm => fromPast_c st tot v ks xss row u fr (preV vp k) (ds.take k) w (hr.up hm.below) hv (hx.up hm.below) hn hl ((hd.up hm.below).pre hk2) (hp.take k) (by omega)) rfl ?_
    rintro u2 _ ⟨rfl, hu2⟩
    rw [hbe] at hu2 ⊢
    refine hl_nil ?_
    refine hx_hg (by first | exact fun w hm => hm.none | exact fun w hm => Mem.keep _ hm) ?_
    refine hg_1 6 (by decide +kernel) rfl ?_
    refine hl_a ?_
    refine hl_nil ?_
    refine hx_hg (by first | exact fun w hm => hm.none | exact fun w hm => Mem.keep _ hm) ?_
    refine hg_end (by decide +kernel) ?_
    repeat' (first | refine hl_a ?_ | refine hq_a ?_ | refine hl_nil ?_ | refine hq_nil ?_ | refine hq_ga ?_ | refine hq_sk ?_ | refine hq_su ?_ | refine hq_gT ?_ | refine hq_gF ?_ | refine hq_gd (fun h => ?_) (fun h => ?_) | refine hl_ga ?_ | refine hl_sk ?_ | refine hl_su ?_ | refine hl_gT ?_ | refine hl_gF ?_ | refine hl_gd (fun h => ?_) (fun h => ?_) | refine hx_next ?_ | refine hw_seq ?_ | refine hw_region ?_ | refine hw_block ?_ | refine hx_block ?_ | refine hw_tt ?_ | refine hw_ff ?_ | refine hw_iT ?_ | refine hw_iF ?_ | refine hw_skip ?_ | refine hw_ret ?_ | refine hw_exit ?_ | refine hx_then_ret ?_ | refine hx_block_ret ?_ | refine hx_then_exit ?_ | refine hx_block_here ?_ | refine hx_far ?_ | refine hx_any ?_ | (apply ha_end; decide +kernel))
    first | refine hl_q (by decide) (q_call (fun w hm => allSame_c u2 _ (by rw [hbl]; exact hf0) w (hm.rd 1 rfl 0)) rfl) ?_ | refine hq_q (by decide) (q_call (fun w hm => allSame_c u2 _ (by rw [hbl]; exact hf0) w (hm.rd 1 rfl 0)) rfl) ?_ | refine hl_g _ _ rfl rfl (by decide) (q_call (fun w hm => allSame_c u2 _ (by rw [hbl]; exact hf0) w (hm.rd 1 rfl 0)) rfl) ?_ | refine hq_g _ _ rfl rfl (by decide) (q_call (fun w hm => allSame_c u2 _ (by rw [hbl]; exact hf0) w (hm.rd 1 rfl 0)) rfl) ?_
    repeat' (first | refine hl_a ?_ | refine hq_a ?_ | refine hl_nil ?_ | refine hq_nil ?_ | refine hq_ga ?_ | refine hq_sk ?_ | refine hq_su ?_ | refine hq_gT ?_ | refine hq_gF ?_ | refine hq_gd (fun h => ?_) (fun h => ?_) | refine hl_ga ?_ | refine hl_sk ?_ | refine hl_su ?_ | refine hl_gT ?_ | refine hl_gF ?_ | refine hl_gd (fun h => ?_) (fun h => ?_) | refine hx_next ?_ | refine hw_seq ?_ | refine hw_region ?_ | refine hw_dr ?_ | refine hw_block ?_ | refine hx_block ?_ | refine hw_tt ?_ | refine hw_ff ?_ | refine hw_iT ?_ | refine hw_iF ?_ | refine hw_skip ?_ | refine hw_ret ?_ | refine hw_exit ?_ | refine hx_then_ret ?_ | refine hx_block_ret ?_ | refine hx_then_exit ?_ | refine hx_block_here ?_ | refine hx_far ?_ | refine hx_any ?_ | (apply ha_end; decide +kernel))
    refine hw_if rfl (fun h2 => ?_) (fun h2 => ?_)
    · rw [if_pos h2] at hinv
      have h3 : 0 < (backL xss ds k fr).length := by omega
      have hld := ld_E (w0 := w) (rs := [rBlk b #[.int .i64 st, .int .i64 tot, v] 33, rE 2 (Value.int .i64) u2 (backL xss ds k fr)]) (e := 2) (enc := Value.int .i64) (v := u2) (xs := backL xss ds k fr) 1 (j := 0) 0 rfl h3
      rw [← hinv]
      repeat' (first | refine hl_a ?_ | refine hq_a ?_ | refine hl_nil ?_ | refine hq_nil ?_ | refine hq_ga ?_ | refine hq_sk ?_ | refine hq_su ?_ | refine hq_gT ?_ | refine hq_gF ?_ | refine hq_gd (fun h => ?_) (fun h => ?_) | refine hl_ga ?_ | refine hl_sk ?_ | refine hl_su ?_ | refine hl_gT ?_ | refine hl_gF ?_ | refine hl_gd (fun h => ?_) (fun h => ?_) | refine hx_next ?_ | refine hw_seq ?_ | refine hw_region ?_ | refine hw_dr ?_ | refine hw_block ?_ | refine hx_block ?_ | refine hw_tt ?_ | refine hw_ff ?_ | refine hw_iT ?_ | refine hw_iF ?_ | refine hw_skip ?_ | refine hw_ret ?_ | refine hw_exit ?_ | refine hx_then_ret ?_ | refine hx_block_ret ?_ | refine hx_then_exit ?_ | refine hx_block_here ?_ | refine hx_far ?_ | refine hx_any ?_ | (apply ha_end; decide +kernel))
      exact hx_ret3 rfl rfl rfl rfl (fun w hm => ⟨rfl, hm.none⟩)
    · rw [if_neg h2] at hinv
      repeat' (first | refine hl_a ?_ | refine hq_a ?_ | refine hl_nil ?_ | refine hq_nil ?_ | refine hq_ga ?_ | refine hq_sk ?_ | refine hq_su ?_ | refine hq_gT ?_ | refine hq_gF ?_ | refine hq_gd (fun h => ?_) (fun h => ?_) | refine hl_ga ?_ | refine hl_sk ?_ | refine hl_su ?_ | refine hl_gT ?_ | refine hl_gF ?_ | refine hl_gd (fun h => ?_) (fun h => ?_) | refine hx_next ?_ | refine hw_seq ?_ | refine hw_region ?_ | refine hw_dr ?_ | refine hw_block ?_ | refine hx_block ?_ | refine hw_tt ?_ | refine hw_ff ?_ | refine hw_iT ?_ | refine hw_iF ?_ | refine hw_skip ?_ | refine hw_ret ?_ | refine hw_exit ?_ | refine hx_then_ret ?_ | refine hx_block_ret ?_ | refine hx_then_exit ?_ | refine hx_block_here ?_ | refine hx_far ?_ | refine hx_any ?_ | (apply ha_end; decide +kernel))
      first | refine hl_q (by decide) (q_callv (vs := [.int .i64 (k : Int)]) rfl rfl (fun w hm => hf w k (by omega))) ?_ | refine hq_q (by decide) (q_callv (vs := [.int .i64 (k : Int)]) rfl rfl (fun w hm => hf w k (by omega))) ?_ | refine hl_g _ _ rfl rfl (by decide) (q_callv (vs := [.int .i64 (k : Int)]) rfl rfl (fun w hm => hf w k (by omega))) ?_ | refine hq_g _ _ rfl rfl (by decide) (q_callv (vs := [.int .i64 (k : Int)]) rfl rfl (fun w hm => hf w k (by omega))) ?_
      repeat' (first | refine hl_a ?_ | refine hq_a ?_ | refine hl_nil ?_ | refine hq_nil ?_ | refine hq_ga ?_ | refine hq_sk ?_ | refine hq_su ?_ | refine hq_gT ?_ | refine hq_gF ?_ | refine hq_gd (fun h => ?_) (fun h => ?_) | refine hl_ga ?_ | refine hl_sk ?_ | refine hl_su ?_ | refine hl_gT ?_ | refine hl_gF ?_ | refine hl_gd (fun h => ?_) (fun h => ?_) | refine hx_next ?_ | refine hw_seq ?_ | refine hw_region ?_ | refine hw_dr ?_ | refine hw_block ?_ | refine hx_block ?_ | refine hw_tt ?_ | refine hw_ff ?_ | refine hw_iT ?_ | refine hw_iF ?_ | refine hw_skip ?_ | refine hw_ret ?_ | refine hw_exit ?_ | refine hx_then_ret ?_ | refine hx_block_ret ?_ | refine hx_then_exit ?_ | refine hx_block_here ?_ | refine hx_far ?_ | refine hx_any ?_ | (apply ha_end; decide +kernel))
      have hgk := hg k hk1
      exact hx_mem (fun w hm => Mem.keep [_] hm) (hx_round ⟨rfl, g k, by omega, (by omega : ds.length < g k + q), rfl, hinv⟩ (by omega) ⟨rfl, rfl, rfl, rfl, rfl, trivial⟩)
  · rw [runG_end _ _ _ _ _ _ (by omega)] at hinv
    rw [← hinv]
    repeat' (first | refine hl_a ?_ | refine hq_a ?_ | refine hl_nil ?_ | refine hq_nil ?_ | refine hq_ga ?_ | refine hq_sk ?_ | refine hq_su ?_ | refine hq_gT ?_ | refine hq_gF ?_ | refine hq_gd (fun h => ?_) (fun h => ?_) | refine hl_ga ?_ | refine hl_sk ?_ | refine hl_su ?_ | refine hl_gT ?_ | refine hl_gF ?_ | refine hl_gd (fun h => ?_) (fun h => ?_) | refine hx_next ?_ | refine hw_seq ?_ | refine hw_region ?_ | refine hw_dr ?_ | refine hw_block ?_ | refine hx_block ?_ | refine hw_tt ?_ | refine hw_ff ?_ | refine hw_iT ?_ | refine hw_iF ?_ | refine hw_skip ?_ | refine hw_ret ?_ | refine hw_exit ?_ | refine hx_then_ret ?_ | refine hx_block_ret ?_ | refine hx_then_exit ?_ | refine hx_block_here ?_ | refine hx_far ?_ | refine hx_any ?_ | (apply ha_end; decide +kernel))
    exact hx_ret3 rfl rfl rfl rfl (fun w hm => ⟨rfl, hm.none⟩)
set_option maxHeartbeats 2000000 in
theorem l05Least_c (p : Addr) (st tot : Int) (v : Value) (ks : List Int) (xss : List (List Int)) (row : Nat → Value) (u : Value) (fr : List Int) (vp : Value) (ds : List Int) (w : World) (hpt : PtM w p st tot v ks xss row) (hv : ValidM st tot ks xss) (hx : RdE (Value.int .i64) 0 w u fr) (hn : MSts st fr) (hl : fr.length ≤ 1000) (hf0 : fr.length ≠ 0)
    (hd : RdE (Value.int .i64) 0 w vp ds) (hp : PicksOk xss.length ds) :
    Ret Try.prog 63 [.pointer (some p), u, vp] w (.tuple #[.int .i64 (runV (fun k => k + 1) xss fr ds).a, .int .i64 (runV (fun k => k + 1) xss fr ds).b, .int .i64 (runV (fun k => k + 1) xss fr ds).c]) := by
  refine calls_hw Try.func63 Try.ntmps63 rfl rfl ?_
  have hdl := hd.sl
  have hpl := hp.len
  have hR : runV (fun k => k + 1) xss fr ds = runG (fun k => k + 1) xss fr ds (ds.length + 1) 0 := by
    rw [runV, runG, if_pos (Nat.zero_le _)]; rfl
  rw [hR]
  repeat' (first | refine hl_a ?_ | refine hq_a ?_ | refine hl_nil ?_ | refine hq_nil ?_ | refine hq_ga ?_ | refine hq_sk ?_ | refine hq_su ?_ | refine hq_gT ?_ | refine hq_gF ?_ | refine hq_gd (fun h => ?_) (fun h => ?_) | refine hl_ga ?_ | refine hl_sk ?_ | refine hl_su ?_ | refine hl_gT ?_ | refine hl_gF ?_ | refine hl_gd (fun h => ?_) (fun h => ?_) | refine hx_next ?_ | refine hw_seq ?_ | refine hw_region ?_ | refine hw_dr ?_ | refine hw_block ?_ | refine hx_block ?_ | refine hw_tt ?_ | refine hw_ff ?_ | refine hw_iT ?_ | refine hw_iF ?_ | refine hw_skip ?_ | refine hw_ret ?_ | refine hw_exit ?_ | refine hx_then_ret ?_ | refine hx_block_ret ?_ | refine hx_then_exit ?_ | refine hx_block_here ?_ | refine hx_far ?_ | refine hx_any ?_ | (apply ha_end; decide +kernel))
  refine hw_loop (fun e r m => r = [] ∧ ∃ k : Nat, ds.length < k + m ∧ e = [(0, .pointer (some p)), (1, u), (2, vp), (9, .int .i64 (k : Int))] ∧ runG (fun k => k + 1) xss fr ds m k = runG (fun k => k + 1) xss fr ds (ds.length + 1) 0)
    (m0 := ds.length + 1) ⟨rfl, 0, by omega, rfl, rfl⟩ ⟨rfl, rfl, rfl, rfl, trivial⟩ ?_
  rintro _ _ m ⟨rfl, k, hkm, rfl, hinv⟩
  repeat' (first | refine hl_a ?_ | refine hq_a ?_ | refine hl_nil ?_ | refine hq_nil ?_ | refine hq_ga ?_ | refine hq_sk ?_ | refine hq_su ?_ | refine hq_gT ?_ | refine hq_gF ?_ | refine hq_gd (fun h => ?_) (fun h => ?_) | refine hl_ga ?_ | refine hl_sk ?_ | refine hl_su ?_ | refine hl_gT ?_ | refine hl_gF ?_ | refine hl_gd (fun h => ?_) (fun h => ?_) | refine hx_next ?_ | refine hw_seq ?_ | refine hw_region ?_ | refine hw_dr ?_ | refine hw_block ?_ | refine hx_block ?_ | refine hw_tt ?_ | refine hw_ff ?_ | refine hw_iT ?_ | refine hw_iF ?_ | refine hw_skip ?_ | refine hw_ret ?_ | refine hw_exit ?_ | refine hx_then_ret ?_ | refine hx_block_ret ?_ | refine hx_then_exit ?_ | refine hx_block_here ?_ | refine hx_far ?_ | refine hx_any ?_ | (apply ha_end; decide +kernel))
  refine hw_if rfl (fun hlt => ?_) (fun hge => ?_)
  · have hk2 : k ≤ ds.length := by omega
    obtain ⟨q, rfl⟩ : ∃ q, m = q + 1 := ⟨m - 1, by omega⟩
    rw [runG, if_pos hk2] at hinv
    have hbl := backL_length xss ds k fr
    repeat' (first | refine hl_a ?_ | refine hq_a ?_ | refine hl_nil ?_ | refine hq_nil ?_ | refine hq_ga ?_ | refine hq_sk ?_ | refine hq_su ?_ | refine hq_gT ?_ | refine hq_gF ?_ | refine hq_gd (fun h => ?_) (fun h => ?_) | refine hl_ga ?_ | refine hl_sk ?_ | refine hl_su ?_ | refine hl_gT ?_ | refine hl_gF ?_ | refine hl_gd (fun h => ?_) (fun h => ?_) | refine hx_next ?_ | refine hw_seq ?_ | refine hw_region ?_ | refine hw_dr ?_ | refine hw_block ?_ | refine hx_block ?_ | refine hw_tt ?_ | refine hw_ff ?_ | refine hw_iT ?_ | refine hw_iF ?_ | refine hw_skip ?_ | refine hw_ret ?_ | refine hw_exit ?_ | refine hx_then_ret ?_ | refine hx_block_ret ?_ | refine hx_then_exit ?_ | refine hx_block_here ?_ | refine hx_far ?_ | refine hx_any ?_ | (apply ha_end; decide +kernel))
    refine hl_call (by decide) (fun w hm => l05Back_c p st tot v ks xss row u fr vp ds k w (hpt.up hm.below) hv (hx.up hm.below) hn hl hf0 (hd.up hm.below) hp hk2) rfl ?_
    rintro u2 _ ⟨rfl, hu2⟩
    repeat' (first | refine hl_a ?_ | refine hq_a ?_ | refine hl_nil ?_ | refine hq_nil ?_ | refine hq_ga ?_ | refine hq_sk ?_ | refine hq_su ?_ | refine hq_gT ?_ | refine hq_gF ?_ | refine hq_gd (fun h => ?_) (fun h => ?_) | refine hl_ga ?_ | refine hl_sk ?_ | refine hl_su ?_ | refine hl_gT ?_ | refine hl_gF ?_ | refine hl_gd (fun h => ?_) (fun h => ?_) | refine hx_next ?_ | refine hw_seq ?_ | refine hw_region ?_ | refine hw_dr ?_ | refine hw_block ?_ | refine hx_block ?_ | refine hw_tt ?_ | refine hw_ff ?_ | refine hw_iT ?_ | refine hw_iF ?_ | refine hw_skip ?_ | refine hw_ret ?_ | refine hw_exit ?_ | refine hx_then_ret ?_ | refine hx_block_ret ?_ | refine hx_then_exit ?_ | refine hx_block_here ?_ | refine hx_far ?_ | refine hx_any ?_ | (apply ha_end; decide +kernel))
    first | refine hl_q (by decide) (q_call (fun w hm => l05Equal_c u2 _ (by rw [hbl]; exact hf0) w (hm.rd 0 rfl 0)) rfl) ?_ | refine hq_q (by decide) (q_call (fun w hm => l05Equal_c u2 _ (by rw [hbl]; exact hf0) w (hm.rd 0 rfl 0)) rfl) ?_ | refine hl_g _ _ rfl rfl (by decide) (q_call (fun w hm => l05Equal_c u2 _ (by rw [hbl]; exact hf0) w (hm.rd 0 rfl 0)) rfl) ?_ | refine hq_g _ _ rfl rfl (by decide) (q_call (fun w hm => l05Equal_c u2 _ (by rw [hbl]; exact hf0) w (hm.rd 0 rfl 0)) rfl) ?_
    repeat' (first | refine hl_a ?_ | refine hq_a ?_ | refine hl_nil ?_ | refine hq_nil ?_ | refine hq_ga ?_ | refine hq_sk ?_ | refine hq_su ?_ | refine hq_gT ?_ | refine hq_gF ?_ | refine hq_gd (fun h => ?_) (fun h => ?_) | refine hl_ga ?_ | refine hl_sk ?_ | refine hl_su ?_ | refine hl_gT ?_ | refine hl_gF ?_ | refine hl_gd (fun h => ?_) (fun h => ?_) | refine hx_next ?_ | refine hw_seq ?_ | refine hw_region ?_ | refine hw_dr ?_ | refine hw_block ?_ | refine hx_block ?_ | refine hw_tt ?_ | refine hw_ff ?_ | refine hw_iT ?_ | refine hw_iF ?_ | refine hw_skip ?_ | refine hw_ret ?_ | refine hw_exit ?_ | refine hx_then_ret ?_ | refine hx_block_ret ?_ | refine hx_then_exit ?_ | refine hx_block_here ?_ | refine hx_far ?_ | refine hx_any ?_ | (apply ha_end; decide +kernel))
    refine hw_if rfl (fun h2 => ?_) (fun h2 => ?_)
    · rw [if_pos h2] at hinv
      have h3 : 0 < (backL xss ds k fr).length := by omega
      have hld := ld_E (w0 := w) (rs := [rE 2 (Value.int .i64) u2 (backL xss ds k fr)]) (e := 2) (enc := Value.int .i64) (v := u2) (xs := backL xss ds k fr) 0 (j := 0) 0 rfl h3
      rw [← hinv]
      repeat' (first | refine hl_a ?_ | refine hq_a ?_ | refine hl_nil ?_ | refine hq_nil ?_ | refine hq_ga ?_ | refine hq_sk ?_ | refine hq_su ?_ | refine hq_gT ?_ | refine hq_gF ?_ | refine hq_gd (fun h => ?_) (fun h => ?_) | refine hl_ga ?_ | refine hl_sk ?_ | refine hl_su ?_ | refine hl_gT ?_ | refine hl_gF ?_ | refine hl_gd (fun h => ?_) (fun h => ?_) | refine hx_next ?_ | refine hw_seq ?_ | refine hw_region ?_ | refine hw_dr ?_ | refine hw_block ?_ | refine hx_block ?_ | refine hw_tt ?_ | refine hw_ff ?_ | refine hw_iT ?_ | refine hw_iF ?_ | refine hw_skip ?_ | refine hw_ret ?_ | refine hw_exit ?_ | refine hx_then_ret ?_ | refine hx_block_ret ?_ | refine hx_then_exit ?_ | refine hx_block_here ?_ | refine hx_far ?_ | refine hx_any ?_ | (apply ha_end; decide +kernel))
      exact hx_ret3 rfl rfl rfl rfl (fun w hm => ⟨rfl, hm.none⟩)
    · rw [if_neg h2] at hinv
      repeat' (first | refine hl_a ?_ | refine hq_a ?_ | refine hl_nil ?_ | refine hq_nil ?_ | refine hq_ga ?_ | refine hq_sk ?_ | refine hq_su ?_ | refine hq_gT ?_ | refine hq_gF ?_ | refine hq_gd (fun h => ?_) (fun h => ?_) | refine hl_ga ?_ | refine hl_sk ?_ | refine hl_su ?_ | refine hl_gT ?_ | refine hl_gF ?_ | refine hl_gd (fun h => ?_) (fun h => ?_) | refine hx_next ?_ | refine hw_seq ?_ | refine hw_region ?_ | refine hw_dr ?_ | refine hw_block ?_ | refine hx_block ?_ | refine hw_tt ?_ | refine hw_ff ?_ | refine hw_iT ?_ | refine hw_iF ?_ | refine hw_skip ?_ | refine hw_ret ?_ | refine hw_exit ?_ | refine hx_then_ret ?_ | refine hx_block_ret ?_ | refine hx_then_exit ?_ | refine hx_block_here ?_ | refine hx_far ?_ | refine hx_any ?_ | (apply ha_end; decide +kernel))
      exact hx_mem (fun w hm => hm.none) (hx_round ⟨rfl, k + 1, (by omega : ds.length < k + 1 + q), rfl, hinv⟩ (by omega) ⟨rfl, rfl, rfl, rfl, trivial⟩)
  · rw [runG_end _ _ _ _ _ _ (by omega)] at hinv
    rw [← hinv]
    repeat' (first | refine hl_a ?_ | refine hq_a ?_ | refine hl_nil ?_ | refine hq_nil ?_ | refine hq_ga ?_ | refine hq_sk ?_ | refine hq_su ?_ | refine hq_gT ?_ | refine hq_gF ?_ | refine hq_gd (fun h => ?_) (fun h => ?_) | refine hl_ga ?_ | refine hl_sk ?_ | refine hl_su ?_ | refine hl_gT ?_ | refine hl_gF ?_ | refine hl_gd (fun h => ?_) (fun h => ?_) | refine hx_next ?_ | refine hw_seq ?_ | refine hw_region ?_ | refine hw_dr ?_ | refine hw_block ?_ | refine hx_block ?_ | refine hw_tt ?_ | refine hw_ff ?_ | refine hw_iT ?_ | refine hw_iF ?_ | refine hw_skip ?_ | refine hw_ret ?_ | refine hw_exit ?_ | refine hx_then_ret ?_ | refine hx_block_ret ?_ | refine hx_then_exit ?_ | refine hx_block_here ?_ | refine hx_far ?_ | refine hx_any ?_ | (apply ha_end; decide +kernel))
    exact hx_ret3 rfl rfl rfl rfl (fun w hm => ⟨rfl, hm.none⟩)
end Go.Proofs.Yteddlbgbakbpeaa
