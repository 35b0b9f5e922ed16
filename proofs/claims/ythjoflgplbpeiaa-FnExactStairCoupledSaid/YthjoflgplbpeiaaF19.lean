/- Contracts: what is reached, by the book; CanReach. -/
import Derived.Test.YthjoflgplbpeiaaF18
namespace Go.Proofs.Ythjoflgplbpeiaa
open Go.Eng Go.RowKit
set_option linter.unusedVariables false

theorem filt_one {n s : Nat} (hs : s < n) : filt n (fun j => decide (j ∈ [s])) = [(s : Int)] := by
  have h1 := putL_filt hs (fun _ => false) (fun j => decide (j ∈ [s])) (fun i _ => by simp)
  have h2 : filt n (fun _ => false) = [] := by unfold filt; simp
  rw [h2] at h1
  exact h1.symm
theorem filt_add {n t : Nat} (ht : t < n) (L : List Nat) : putL (t : Int) (filt n fun j => decide (j ∈ L)) = filt n fun j => decide (j ∈ L ++ [t]) :=
  putL_filt ht _ _ fun i _ => by simp; exact ⟨Or.symm, Or.symm⟩

noncomputable def stC (st tot : Int) (xss : List (List Int)) (xs : List Int) : Int := if Valid st tot xss then @ite _ (∀ i, i < xs.length → 0 ≤ xs.getD i 0 ∧ xs.getD i 0 ≤ st - 1) (Classical.propDecidable _) 0 2 else 1
theorem stateCode_c (st tot : Int) (v : Value) (xss : List (List Int)) (row : Nat → Value) (vo : Value) (xs : List Int) (w : World) (hr : RdS (Value.int .i64) 0 w v xss row) (hx : RdE (Value.int .i64) 0 w vo xs) :
    Ret Try.prog 99 [chV st tot v, vo] w (.int .i64 (stC st tot xss xs)) := by
  refine calls_hw Try.func99 Try.ntmps99 rfl rfl ?_
  have hxl := hx.sl
  have hle := hxl.le
  repeat' (first | refine hl_a ?_ | refine hq_a ?_ | refine hl_nil ?_ | refine hq_nil ?_ | refine hq_ga ?_ | refine hq_sk ?_ | refine hq_su ?_ | refine hq_gT ?_ | refine hq_gF ?_ | refine hq_gd (fun h => ?_) (fun h => ?_) | refine hl_ga ?_ | refine hl_sk ?_ | refine hl_su ?_ | refine hl_gT ?_ | refine hl_gF ?_ | refine hl_gd (fun h => ?_) (fun h => ?_) | refine hx_next ?_ | refine hw_seq ?_ | refine hw_region ?_ | refine hw_dr ?_ | refine hw_block ?_ | refine hx_block ?_ | refine hw_tt ?_ | refine hw_ff ?_ | refine hw_iT ?_ | refine hw_iF ?_ | refine hw_skip ?_ | refine hw_ret ?_ | refine hw_exit ?_ | refine hx_then_ret ?_ | refine hx_block_ret ?_ | refine hx_then_exit ?_ | refine hx_block_here ?_ | refine hx_far ?_ | refine hx_any ?_ | (apply ha_end; decide +kernel))
  refine hl_box (by decide) rfl (fun b => ?_)
  repeat' (first | refine hl_a ?_ | refine hq_a ?_ | refine hl_nil ?_ | refine hq_nil ?_ | refine hq_ga ?_ | refine hq_sk ?_ | refine hq_su ?_ | refine hq_gT ?_ | refine hq_gF ?_ | refine hq_gd (fun h => ?_) (fun h => ?_) | refine hl_ga ?_ | refine hl_sk ?_ | refine hl_su ?_ | refine hl_gT ?_ | refine hl_gF ?_ | refine hl_gd (fun h => ?_) (fun h => ?_) | refine hx_next ?_ | refine hw_seq ?_ | refine hw_region ?_ | refine hw_dr ?_ | refine hw_block ?_ | refine hx_block ?_ | refine hw_tt ?_ | refine hw_ff ?_ | refine hw_iT ?_ | refine hw_iF ?_ | refine hw_skip ?_ | refine hw_ret ?_ | refine hw_exit ?_ | refine hx_then_ret ?_ | refine hx_block_ret ?_ | refine hx_then_exit ?_ | refine hx_block_here ?_ | refine hx_far ?_ | refine hx_any ?_ | (apply ha_end; decide +kernel))
  first | refine hl_q (by decide) (q_call (fun w hm => implValidChain_c st tot v xss row w (hr.up hm.below)) rfl) ?_ | refine hq_q (by decide) (q_call (fun w hm => implValidChain_c st tot v xss row w (hr.up hm.below)) rfl) ?_ | refine hl_g _ _ rfl rfl (by decide) (q_call (fun w hm => implValidChain_c st tot v xss row w (hr.up hm.below)) rfl) ?_ | refine hq_g _ _ rfl rfl (by decide) (q_call (fun w hm => implValidChain_c st tot v xss row w (hr.up hm.below)) rfl) ?_
  repeat' (first | refine hl_a ?_ | refine hq_a ?_ | refine hl_nil ?_ | refine hq_nil ?_ | refine hq_ga ?_ | refine hq_sk ?_ | refine hq_su ?_ | refine hq_gT ?_ | refine hq_gF ?_ | refine hq_gd (fun h => ?_) (fun h => ?_) | refine hl_ga ?_ | refine hl_sk ?_ | refine hl_su ?_ | refine hl_gT ?_ | refine hl_gF ?_ | refine hl_gd (fun h => ?_) (fun h => ?_) | refine hx_next ?_ | refine hw_seq ?_ | refine hw_region ?_ | refine hw_dr ?_ | refine hw_block ?_ | refine hx_block ?_ | refine hw_tt ?_ | refine hw_ff ?_ | refine hw_iT ?_ | refine hw_iF ?_ | refine hw_skip ?_ | refine hw_ret ?_ | refine hw_exit ?_ | refine hx_then_ret ?_ | refine hx_block_ret ?_ | refine hx_then_exit ?_ | refine hx_block_here ?_ | refine hx_far ?_ | refine hx_any ?_ | (apply ha_end; decide +kernel))
  refine hw_if rfl (fun h => ?_) (fun h => ?_)
  · repeat' (first | refine hl_a ?_ | refine hq_a ?_ | refine hl_nil ?_ | refine hq_nil ?_ | refine hq_ga ?_ | refine hq_sk ?_ | refine hq_su ?_ | refine hq_gT ?_ | refine hq_gF ?_ | refine hq_gd (fun h => ?_) (fun h => ?_) | refine hl_ga ?_ | refine hl_sk ?_ | refine hl_su ?_ | refine hl_gT ?_ | refine hl_gF ?_ | refine hl_gd (fun h => ?_) (fun h => ?_) | refine hx_next ?_ | refine hw_seq ?_ | refine hw_region ?_ | refine hw_dr ?_ | refine hw_block ?_ | refine hx_block ?_ | refine hw_tt ?_ | refine hw_ff ?_ | refine hw_iT ?_ | refine hw_iF ?_ | refine hw_skip ?_ | refine hw_ret ?_ | refine hw_exit ?_ | refine hx_then_ret ?_ | refine hx_block_ret ?_ | refine hx_then_exit ?_ | refine hx_block_here ?_ | refine hx_far ?_ | refine hx_any ?_ | (apply ha_end; decide +kernel))
    refine hx_ret1 rfl rfl (fun w hm => ⟨?_, hm.none⟩)
    rw [stC, if_neg h]
  have hv := Classical.not_not.1 h
  obtain ⟨i1, i2, i3, i4⟩ := i64_valid hv
  repeat' (first | refine hl_a ?_ | refine hq_a ?_ | refine hl_nil ?_ | refine hq_nil ?_ | refine hq_ga ?_ | refine hq_sk ?_ | refine hq_su ?_ | refine hq_gT ?_ | refine hq_gF ?_ | refine hq_gd (fun h => ?_) (fun h => ?_) | refine hl_ga ?_ | refine hl_sk ?_ | refine hl_su ?_ | refine hl_gT ?_ | refine hl_gF ?_ | refine hl_gd (fun h => ?_) (fun h => ?_) | refine hx_next ?_ | refine hw_seq ?_ | refine hw_region ?_ | refine hw_dr ?_ | refine hw_block ?_ | refine hx_block ?_ | refine hw_tt ?_ | refine hw_ff ?_ | refine hw_iT ?_ | refine hw_iF ?_ | refine hw_skip ?_ | refine hw_ret ?_ | refine hw_exit ?_ | refine hx_then_ret ?_ | refine hx_block_ret ?_ | refine hx_then_exit ?_ | refine hx_block_here ?_ | refine hx_far ?_ | refine hx_any ?_ | (apply ha_end; decide +kernel))
  refine hw_loop (fun e r m => r = [rBlk b #[.int .i64 st, .int .i64 tot, v] 44] ∧ ∃ k : Nat, k ≤ xs.length ∧ m = xs.length - k ∧ e = [(2, .pointer (some ⟨b, 0, none⟩)), (10, vo), (11, .int .i64 (xs.length : Int)), (12, .int .i64 k)] ∧ ∀ i, i < k → 0 ≤ xs.getD i 0 ∧ xs.getD i 0 ≤ st - 1)
    ⟨rfl, 0, Nat.zero_le _, rfl, rfl, by omega⟩ ⟨rfl, rfl, rfl, rfl, trivial⟩ ?_
  rintro _ _ _ ⟨rfl, k, hk, rfl, rfl, hall⟩
  repeat' (first | refine hl_a ?_ | refine hq_a ?_ | refine hl_nil ?_ | refine hq_nil ?_ | refine hq_ga ?_ | refine hq_sk ?_ | refine hq_su ?_ | refine hq_gT ?_ | refine hq_gF ?_ | refine hq_gd (fun h => ?_) (fun h => ?_) | refine hl_ga ?_ | refine hl_sk ?_ | refine hl_su ?_ | refine hl_gT ?_ | refine hl_gF ?_ | refine hl_gd (fun h => ?_) (fun h => ?_) | refine hx_next ?_ | refine hw_seq ?_ | refine hw_region ?_ | refine hw_dr ?_ | refine hw_block ?_ | refine hx_block ?_ | refine hw_tt ?_ | refine hw_ff ?_ | refine hw_iT ?_ | refine hw_iF ?_ | refine hw_skip ?_ | refine hw_ret ?_ | refine hw_exit ?_ | refine hx_then_ret ?_ | refine hx_block_ret ?_ | refine hx_then_exit ?_ | refine hx_block_here ?_ | refine hx_far ?_ | refine hx_any ?_ | (apply ha_end; decide +kernel))
  refine hw_if rfl (fun hlt => ?_) (fun hge => ?_)
  · have hk2 : k < xs.length := by omega
    have hc := hx.get k hk2
    repeat' (first | refine hl_a ?_ | refine hq_a ?_ | refine hl_nil ?_ | refine hq_nil ?_ | refine hq_ga ?_ | refine hq_sk ?_ | refine hq_su ?_ | refine hq_gT ?_ | refine hq_gF ?_ | refine hq_gd (fun h => ?_) (fun h => ?_) | refine hl_ga ?_ | refine hl_sk ?_ | refine hl_su ?_ | refine hl_gT ?_ | refine hl_gF ?_ | refine hl_gd (fun h => ?_) (fun h => ?_) | refine hx_next ?_ | refine hw_seq ?_ | refine hw_region ?_ | refine hw_dr ?_ | refine hw_block ?_ | refine hx_block ?_ | refine hw_tt ?_ | refine hw_ff ?_ | refine hw_iT ?_ | refine hw_iF ?_ | refine hw_skip ?_ | refine hw_ret ?_ | refine hw_exit ?_ | refine hx_then_ret ?_ | refine hx_block_ret ?_ | refine hx_then_exit ?_ | refine hx_block_here ?_ | refine hx_far ?_ | refine hx_any ?_ | (apply ha_end; decide +kernel))
    first | refine hl_q (by decide) (q_call (fun w hm => isState_c st tot v _ w i1 i3) rfl) ?_ | refine hq_q (by decide) (q_call (fun w hm => isState_c st tot v _ w i1 i3) rfl) ?_ | refine hl_g _ _ rfl rfl (by decide) (q_call (fun w hm => isState_c st tot v _ w i1 i3) rfl) ?_ | refine hq_g _ _ rfl rfl (by decide) (q_call (fun w hm => isState_c st tot v _ w i1 i3) rfl) ?_
    repeat' (first | refine hl_a ?_ | refine hq_a ?_ | refine hl_nil ?_ | refine hq_nil ?_ | refine hq_ga ?_ | refine hq_sk ?_ | refine hq_su ?_ | refine hq_gT ?_ | refine hq_gF ?_ | refine hq_gd (fun h => ?_) (fun h => ?_) | refine hl_ga ?_ | refine hl_sk ?_ | refine hl_su ?_ | refine hl_gT ?_ | refine hl_gF ?_ | refine hl_gd (fun h => ?_) (fun h => ?_) | refine hx_next ?_ | refine hw_seq ?_ | refine hw_region ?_ | refine hw_dr ?_ | refine hw_block ?_ | refine hx_block ?_ | refine hw_tt ?_ | refine hw_ff ?_ | refine hw_iT ?_ | refine hw_iF ?_ | refine hw_skip ?_ | refine hw_ret ?_ | refine hw_exit ?_ | refine hx_then_ret ?_ | refine hx_block_ret ?_ | refine hx_then_exit ?_ | refine hx_block_here ?_ | refine hx_far ?_ | refine hx_any ?_ | (apply ha_end; decide +kernel))
    refine hw_if rfl (fun h => ?_) (fun h => ?_)
    · repeat' (first | refine hl_a ?_ | refine hq_a ?_ | refine hl_nil ?_ | refine hq_nil ?_ | refine hq_ga ?_ | refine hq_sk ?_ | refine hq_su ?_ | refine hq_gT ?_ | refine hq_gF ?_ | refine hq_gd (fun h => ?_) (fun h => ?_) | refine hl_ga ?_ | refine hl_sk ?_ | refine hl_su ?_ | refine hl_gT ?_ | refine hl_gF ?_ | refine hl_gd (fun h => ?_) (fun h => ?_) | refine hx_next ?_ | refine hw_seq ?_ | refine hw_region ?_ | refine hw_dr ?_ | refine hw_block ?_ | refine hx_block ?_ | refine hw_tt ?_ | refine hw_ff ?_ | refine hw_iT ?_ | refine hw_iF ?_ | refine hw_skip ?_ | refine hw_ret ?_ | refine hw_exit ?_ | refine hx_then_ret ?_ | refine hx_block_ret ?_ | refine hx_then_exit ?_ | refine hx_block_here ?_ | refine hx_far ?_ | refine hx_any ?_ | (apply ha_end; decide +kernel))
      refine hx_ret1 rfl rfl (fun w hm => ⟨?_, hm.none⟩)
      rw [stC, if_pos hv, if_neg (fun e => h (e k hk2))]
    · repeat' (first | refine hl_a ?_ | refine hq_a ?_ | refine hl_nil ?_ | refine hq_nil ?_ | refine hq_ga ?_ | refine hq_sk ?_ | refine hq_su ?_ | refine hq_gT ?_ | refine hq_gF ?_ | refine hq_gd (fun h => ?_) (fun h => ?_) | refine hl_ga ?_ | refine hl_sk ?_ | refine hl_su ?_ | refine hl_gT ?_ | refine hl_gF ?_ | refine hl_gd (fun h => ?_) (fun h => ?_) | refine hx_next ?_ | refine hw_seq ?_ | refine hw_region ?_ | refine hw_dr ?_ | refine hw_block ?_ | refine hx_block ?_ | refine hw_tt ?_ | refine hw_ff ?_ | refine hw_iT ?_ | refine hw_iF ?_ | refine hw_skip ?_ | refine hw_ret ?_ | refine hw_exit ?_ | refine hx_then_ret ?_ | refine hx_block_ret ?_ | refine hx_then_exit ?_ | refine hx_block_here ?_ | refine hx_far ?_ | refine hx_any ?_ | (apply ha_end; decide +kernel))
      refine hx_round ⟨rfl, k + 1, hk2, rfl, rfl, fun i hi => ?_⟩ (by omega) ⟨rfl, rfl, rfl, rfl, trivial⟩
      by_cases e : i = k
      · rw [e]; exact Classical.not_not.1 h
      · exact hall i (by omega)
  · have e : k = xs.length := by omega
    subst e
    repeat' (first | refine hl_a ?_ | refine hq_a ?_ | refine hl_nil ?_ | refine hq_nil ?_ | refine hq_ga ?_ | refine hq_sk ?_ | refine hq_su ?_ | refine hq_gT ?_ | refine hq_gF ?_ | refine hq_gd (fun h => ?_) (fun h => ?_) | refine hl_ga ?_ | refine hl_sk ?_ | refine hl_su ?_ | refine hl_gT ?_ | refine hl_gF ?_ | refine hl_gd (fun h => ?_) (fun h => ?_) | refine hx_next ?_ | refine hw_seq ?_ | refine hw_region ?_ | refine hw_dr ?_ | refine hw_block ?_ | refine hx_block ?_ | refine hw_tt ?_ | refine hw_ff ?_ | refine hw_iT ?_ | refine hw_iF ?_ | refine hw_skip ?_ | refine hw_ret ?_ | refine hw_exit ?_ | refine hx_then_ret ?_ | refine hx_block_ret ?_ | refine hx_then_exit ?_ | refine hx_block_here ?_ | refine hx_far ?_ | refine hx_any ?_ | (apply ha_end; decide +kernel))
    refine hx_ret1 rfl rfl (fun w hm => ⟨?_, hm.none⟩)
    rw [stC, if_pos hv, if_pos hall]
theorem stC_1 {st tot : Int} {xss : List (List Int)} {a : Int} (hv : Valid st tot xss) : stC st tot xss [a] = if 0 ≤ a ∧ a ≤ st - 1 then 0 else 2 := by
  rw [stC, if_pos hv]
  by_cases h : 0 ≤ a ∧ a ≤ st - 1
  · rw [if_pos h, if_pos (fun i hi => by simp at hi; subst hi; exact h)]
  · rw [if_neg h, if_neg (fun e => h (e 0 (by simp)))]
noncomputable def canXs (st tot : Int) (xss : List (List Int)) (a : Int) : List Int := if stC st tot xss [a] = 0 then filt xss.length (rB xss a.toNat) else []
theorem stC_0 {st tot : Int} {xss : List (List Int)} {a : Int} (h : stC st tot xss [a] = 0) : Valid st tot xss ∧ ∃ s : Nat, s < xss.length ∧ a = (s : Int) := by
  by_cases hv : Valid st tot xss
  · rw [stC_1 hv] at h
    split at h
    · rename_i h1
      have := hv.len
      exact ⟨hv, a.toNat, by omega, by omega⟩
    · cases h
  · rw [stC, if_neg hv] at h; cases h
theorem canXs_small (st tot : Int) (xss : List (List Int)) (a : Int) : (canXs st tot xss a).length ≤ 1048576 := by
  unfold canXs
  split
  · rename_i h
    have := (stC_0 h).1.nat
    have := filt_len xss.length (rB xss a.toNat)
    omega
  · simp
end Go.Proofs.Ythjoflgplbpeiaa
