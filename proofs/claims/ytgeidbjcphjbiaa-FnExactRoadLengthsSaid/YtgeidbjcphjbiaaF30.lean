/- Contracts: runs from the past, by windows, forward; picks applied. -/
import Derived.Test.YtgeidbjcphjbiaaF29
namespace Go.Proofs.Ytgeidbjcphjbiaa
open Go.Eng Go.RowKit
set_option linter.unusedVariables false

/-- The greatest, the least of the first numbers. -/
def maxI (xs : List Int) : Nat → Int
  | 0 => xs.getD 0 0
  | k + 1 => if xs.getD k 0 > maxI xs k then xs.getD k 0 else maxI xs k
def minI (xs : List Int) : Nat → Int
  | 0 => xs.getD 0 0
  | k + 1 => if xs.getD k 0 < minI xs k then xs.getD k 0 else minI xs k
theorem maxI_ge (xs : List Int) : ∀ k i, i < k → xs.getD i 0 ≤ maxI xs k
  | 0, i, h => by omega
  | k + 1, i, h => by
    simp only [maxI]
    by_cases e : i = k
    · subst e; split <;> omega
    · have := maxI_ge xs k i (by omega)
      split <;> omega
theorem minI_le (xs : List Int) : ∀ k i, i < k → minI xs k ≤ xs.getD i 0
  | 0, i, h => by omega
  | k + 1, i, h => by
    simp only [minI]
    by_cases e : i = k
    · subst e; split <;> omega
    · have := minI_le xs k i (by omega)
      split <;> omega
theorem eq_maxmin (xs : List Int) (h : AllEq xs) : ∀ k, k ≤ xs.length → maxI xs k = xs.getD 0 0 ∧ minI xs k = xs.getD 0 0
  | 0, _ => ⟨rfl, rfl⟩
  | k + 1, hk => by
    obtain ⟨h1, h2⟩ := eq_maxmin xs h k (by omega)
    have h3 := h k (by omega)
    simp only [maxI, minI, h1, h2, h3]
    simp
theorem maxmin_iff (xs : List Int) : maxI xs xs.length = minI xs xs.length ↔ AllEq xs := by
  constructor
  · intro h i hi
    have h0 : 0 < xs.length := by omega
    have a := maxI_ge xs xs.length i hi
    have b := minI_le xs xs.length i hi
    have c := maxI_ge xs xs.length 0 h0
    have d := minI_le xs xs.length 0 h0
    omega
  · intro h
    obtain ⟨h1, h2⟩ := eq_maxmin xs h xs.length (Nat.le_refl _)
    rw [h1, h2]
theorem slicesMax_c (v : Value) (xs : List Int) (h0 : xs.length ≠ 0) (w : World) (hx : RdE (Value.int .i64) 0 w v xs) : Ret Try.prog 109 [v] w (.int .i64 (maxI xs xs.length)) := by
  refine calls_hw Try.func109 Try.ntmps109 rfl rfl ?_
  have hs := hx.sl
  have hle := hs.le
  have h1 : ¬ ((xs.length : Int) < 1) := by omega
  have h2 : 0 < xs.length := by omega
  have c0 := hx.get 0 h2
  repeat' (first | refine hl_a ?_ | refine hq_a ?_ | refine hl_nil ?_ | refine hq_nil ?_ | refine hq_ga ?_ | refine hq_sk ?_ | refine hq_su ?_ | refine hq_gT ?_ | refine hq_gF ?_ | refine hq_gd (fun h => ?_) (fun h => ?_) | refine hl_ga ?_ | refine hl_sk ?_ | refine hl_su ?_ | refine hl_gT ?_ | refine hl_gF ?_ | refine hl_gd (fun h => ?_) (fun h => ?_) | refine hx_next ?_ | refine hw_seq ?_ | refine hw_region ?_ | refine hw_dr ?_ | refine hw_block ?_ | refine hx_block ?_ | refine hw_tt ?_ | refine hw_ff ?_ | refine hw_iT ?_ | refine hw_iF ?_ | refine hw_skip ?_ | refine hw_ret ?_ | refine hw_exit ?_ | refine hx_then_ret ?_ | refine hx_block_ret ?_ | refine hx_then_exit ?_ | refine hx_block_here ?_ | refine hx_far ?_ | refine hx_any ?_ | (apply ha_end; decide +kernel))
  have e1 : xs.getD 0 0 = maxI xs 1 := by simp [maxI]
  rw [e1]
  refine hw_loop (fun e r m => r = [] ∧ ∃ k : Nat, 1 ≤ k ∧ k ≤ xs.length ∧ m = xs.length - k ∧ e = [(0, v), (3, .int .i64 (maxI xs k)), (4, .int .i64 k)])
    ⟨rfl, 1, Nat.le_refl _, by omega, rfl, rfl⟩ ⟨rfl, rfl, rfl, trivial⟩ ?_
  rintro _ _ _ ⟨rfl, k, hk1, hk, rfl, rfl⟩
  repeat' (first | refine hl_a ?_ | refine hq_a ?_ | refine hl_nil ?_ | refine hq_nil ?_ | refine hq_ga ?_ | refine hq_sk ?_ | refine hq_su ?_ | refine hq_gT ?_ | refine hq_gF ?_ | refine hq_gd (fun h => ?_) (fun h => ?_) | refine hl_ga ?_ | refine hl_sk ?_ | refine hl_su ?_ | refine hl_gT ?_ | refine hl_gF ?_ | refine hl_gd (fun h => ?_) (fun h => ?_) | refine hx_next ?_ | refine hw_seq ?_ | refine hw_region ?_ | refine hw_dr ?_ | refine hw_block ?_ | refine hx_block ?_ | refine hw_tt ?_ | refine hw_ff ?_ | refine hw_iT ?_ | refine hw_iF ?_ | refine hw_skip ?_ | refine hw_ret ?_ | refine hw_exit ?_ | refine hx_then_ret ?_ | refine hx_block_ret ?_ | refine hx_then_exit ?_ | refine hx_block_here ?_ | refine hx_far ?_ | refine hx_any ?_ | (apply ha_end; decide +kernel))
  refine hw_if rfl (fun hlt => ?_) (fun hge => ?_)
  · have hk2 : k < xs.length := by omega
    have hc := hx.get k hk2
    repeat' (first | refine hl_a ?_ | refine hq_a ?_ | refine hl_nil ?_ | refine hq_nil ?_ | refine hq_ga ?_ | refine hq_sk ?_ | refine hq_su ?_ | refine hq_gT ?_ | refine hq_gF ?_ | refine hq_gd (fun h => ?_) (fun h => ?_) | refine hl_ga ?_ | refine hl_sk ?_ | refine hl_su ?_ | refine hl_gT ?_ | refine hl_gF ?_ | refine hl_gd (fun h => ?_) (fun h => ?_) | refine hx_next ?_ | refine hw_seq ?_ | refine hw_region ?_ | refine hw_dr ?_ | refine hw_block ?_ | refine hx_block ?_ | refine hw_tt ?_ | refine hw_ff ?_ | refine hw_iT ?_ | refine hw_iF ?_ | refine hw_skip ?_ | refine hw_ret ?_ | refine hw_exit ?_ | refine hx_then_ret ?_ | refine hx_block_ret ?_ | refine hx_then_exit ?_ | refine hx_block_here ?_ | refine hx_far ?_ | refine hx_any ?_ | (apply ha_end; decide +kernel))
    first | refine hl_q (by decide) (q_max (maxI xs (k + 1)) rfl rfl rfl) ?_ | refine hq_q (by decide) (q_max (maxI xs (k + 1)) rfl rfl rfl) ?_ | refine hl_g _ _ rfl rfl (by decide) (q_max (maxI xs (k + 1)) rfl rfl rfl) ?_ | refine hq_g _ _ rfl rfl (by decide) (q_max (maxI xs (k + 1)) rfl rfl rfl) ?_
    repeat' (first | refine hl_a ?_ | refine hq_a ?_ | refine hl_nil ?_ | refine hq_nil ?_ | refine hq_ga ?_ | refine hq_sk ?_ | refine hq_su ?_ | refine hq_gT ?_ | refine hq_gF ?_ | refine hq_gd (fun h => ?_) (fun h => ?_) | refine hl_ga ?_ | refine hl_sk ?_ | refine hl_su ?_ | refine hl_gT ?_ | refine hl_gF ?_ | refine hl_gd (fun h => ?_) (fun h => ?_) | refine hx_next ?_ | refine hw_seq ?_ | refine hw_region ?_ | refine hw_dr ?_ | refine hw_block ?_ | refine hx_block ?_ | refine hw_tt ?_ | refine hw_ff ?_ | refine hw_iT ?_ | refine hw_iF ?_ | refine hw_skip ?_ | refine hw_ret ?_ | refine hw_exit ?_ | refine hx_then_ret ?_ | refine hx_block_ret ?_ | refine hx_then_exit ?_ | refine hx_block_here ?_ | refine hx_far ?_ | refine hx_any ?_ | (apply ha_end; decide +kernel))
    exact hx_round ⟨rfl, k + 1, by omega, hk2, rfl, rfl⟩ (by omega) ⟨rfl, rfl, rfl, trivial⟩
  · have e : k = xs.length := by omega
    subst e
    repeat' (first | refine hl_a ?_ | refine hq_a ?_ | refine hl_nil ?_ | refine hq_nil ?_ | refine hq_ga ?_ | refine hq_sk ?_ | refine hq_su ?_ | refine hq_gT ?_ | refine hq_gF ?_ | refine hq_gd (fun h => ?_) (fun h => ?_) | refine hl_ga ?_ | refine hl_sk ?_ | refine hl_su ?_ | refine hl_gT ?_ | refine hl_gF ?_ | refine hl_gd (fun h => ?_) (fun h => ?_) | refine hx_next ?_ | refine hw_seq ?_ | refine hw_region ?_ | refine hw_dr ?_ | refine hw_block ?_ | refine hx_block ?_ | refine hw_tt ?_ | refine hw_ff ?_ | refine hw_iT ?_ | refine hw_iF ?_ | refine hw_skip ?_ | refine hw_ret ?_ | refine hw_exit ?_ | refine hx_then_ret ?_ | refine hx_block_ret ?_ | refine hx_then_exit ?_ | refine hx_block_here ?_ | refine hx_far ?_ | refine hx_any ?_ | (apply ha_end; decide +kernel))
    exact hx_ret1 rfl rfl (fun w hm => ⟨rfl, hm.none⟩)

theorem backL_congr (xss : List (List Int)) (ds es : List Int) : ∀ k now, (∀ i, i < k → ds.getD i 0 = es.getD i 0) → backL xss ds k now = backL xss es k now
  | 0, _, _ => rfl
  | k + 1, now, h => by
    rw [backL, backL, h k (by omega)]
    exact backL_congr xss ds es k _ (fun i hi => h i (by omega))
theorem take_getD (ds : List Int) (k i : Nat) (h : i < k) : (ds.take k).getD i 0 = ds.getD i 0 := by
  simp [List.getD_eq_getElem?_getD, List.getElem?_take, h]
theorem PicksOk.take {n : Nat} {ds : List Int} (h : PicksOk n ds) (k : Nat) : PicksOk n (ds.take k) := by
  have := h.len
  refine ⟨by rw [List.length_take]; omega, fun i hi => ?_⟩
  rw [List.length_take] at hi
  rw [take_getD _ _ _ (by omega)]
  exact h.all i (by omega)
end Go.Proofs.Ytgeidbjcphjbiaa
