/- Contracts: lengths of roads, the program's side. -/
import Derived.Test.YtgeidbjcphjbiaaF60
namespace Go.Proofs.Ytgeidbjcphjbiaa
open Go.Eng Go.RowKit
set_option linter.unusedVariables false

theorem maxI_at (xs : List Int) (h : 0 < xs.length) : ∀ k, k ≤ xs.length → ∃ i, i < xs.length ∧ maxI xs k = xs.getD i 0
  | 0, _ => ⟨0, h, rfl⟩
  | k + 1, hk => by
    obtain ⟨i, hi, he⟩ := maxI_at xs h k (by omega)
    simp only [maxI]
    split
    · exact ⟨k, hk, rfl⟩
    · exact ⟨i, hi, he⟩
set_option maxHeartbeats 4000000 in
theorem roadLengths_c (st : Int) (v : Value) (rds : List RoadR) (w : World) (hst : I64 st) (hr : RdR w v rds) : Gives Try.prog 67 [.int .i64 st, v] w (L2Out 82 2 (rlX st rds) (rlC st rds)) := by
  unfold I64 at hst
  have hsl := hr.sl
  have hle := hsl.le
  refine calls_hw Try.func67 Try.ntmps67 rfl rfl ?_
  have hbad : ¬ RlOk st rds → rlC st rds = 2 ∧ rlX st rds = [] := fun h => ⟨by rw [rlC, if_neg h], by rw [rlX, if_neg h]⟩
  rcases Classical.em (1 ≤ st ∧ st ≤ 6) with h1 | h1
  case inr =>
    obtain ⟨hC, hX⟩ := hbad (fun e => h1 e.s)
    repeat' (first | refine hl_a ?_ | refine hq_a ?_ | refine hl_nil ?_ | refine hq_nil ?_ | refine hq_ga ?_ | refine hq_sk ?_ | refine hq_su ?_ | refine hq_gT ?_ | refine hq_gF ?_ | refine hq_gd (fun h => ?_) (fun h => ?_) | refine hl_ga ?_ | refine hl_sk ?_ | refine hl_su ?_ | refine hl_gT ?_ | refine hl_gF ?_ | refine hl_gd (fun h => ?_) (fun h => ?_) | refine hx_next ?_ | refine hw_seq ?_ | refine hw_region ?_ | refine hw_dr ?_ | refine hw_block ?_ | refine hx_block ?_ | refine hw_tt ?_ | refine hw_ff ?_ | refine hw_iT ?_ | refine hw_iF ?_ | refine hw_skip ?_ | refine hw_ret ?_ | refine hw_exit ?_ | refine hx_then_ret ?_ | refine hx_block_ret ?_ | refine hx_then_exit ?_ | refine hx_block_here ?_ | refine hx_far ?_ | refine hx_any ?_ | (apply ha_end; decide +kernel))
    first | refine hl_q (by decide) (q_call (fun w hm => inRange_c _ _ _ _) rfl) ?_ | refine hq_q (by decide) (q_call (fun w hm => inRange_c _ _ _ _) rfl) ?_ | refine hl_g _ _ rfl rfl (by decide) (q_call (fun w hm => inRange_c _ _ _ _) rfl) ?_ | refine hq_g _ _ rfl rfl (by decide) (q_call (fun w hm => inRange_c _ _ _ _) rfl) ?_
    repeat' (first | refine hl_a ?_ | refine hq_a ?_ | refine hl_nil ?_ | refine hq_nil ?_ | refine hq_ga ?_ | refine hq_sk ?_ | refine hq_su ?_ | refine hq_gT ?_ | refine hq_gF ?_ | refine hq_gd (fun h => ?_) (fun h => ?_) | refine hl_ga ?_ | refine hl_sk ?_ | refine hl_su ?_ | refine hl_gT ?_ | refine hl_gF ?_ | refine hl_gd (fun h => ?_) (fun h => ?_) | refine hx_next ?_ | refine hw_seq ?_ | refine hw_region ?_ | refine hw_dr ?_ | refine hw_block ?_ | refine hx_block ?_ | refine hw_tt ?_ | refine hw_ff ?_ | refine hw_iT ?_ | refine hw_iF ?_ | refine hw_skip ?_ | refine hw_ret ?_ | refine hw_exit ?_ | refine hx_then_ret ?_ | refine hx_block_ret ?_ | refine hx_then_exit ?_ | refine hx_block_here ?_ | refine hx_far ?_ | refine hx_any ?_ | (apply ha_end; decide +kernel))
    exact hx_ret2 rfl rfl rfl (fun w hm => ⟨_, _, rfl, rows_nil 82 2 (Value.int .i64) hm.none, _, [], by rw [hC], by rw [hX]; rfl, by rw [hX]; rfl, by rw [hX]; exact nil_ok⟩)
  have h1' : ¬ ¬ (1 ≤ st ∧ st ≤ 6) := fun e => e h1
  rcases Nat.lt_or_ge 20 rds.length with h2 | h2
  · have h2' : (20 : Int) < (rds.length : Int) := by omega
    obtain ⟨hC, hX⟩ := hbad (fun e => by have := e.n; omega)
    repeat' (first | refine hl_a ?_ | refine hq_a ?_ | refine hl_nil ?_ | refine hq_nil ?_ | refine hq_ga ?_ | refine hq_sk ?_ | refine hq_su ?_ | refine hq_gT ?_ | refine hq_gF ?_ | refine hq_gd (fun h => ?_) (fun h => ?_) | refine hl_ga ?_ | refine hl_sk ?_ | refine hl_su ?_ | refine hl_gT ?_ | refine hl_gF ?_ | refine hl_gd (fun h => ?_) (fun h => ?_) | refine hx_next ?_ | refine hw_seq ?_ | refine hw_region ?_ | refine hw_dr ?_ | refine hw_block ?_ | refine hx_block ?_ | refine hw_tt ?_ | refine hw_ff ?_ | refine hw_iT ?_ | refine hw_iF ?_ | refine hw_skip ?_ | refine hw_ret ?_ | refine hw_exit ?_ | refine hx_then_ret ?_ | refine hx_block_ret ?_ | refine hx_then_exit ?_ | refine hx_block_here ?_ | refine hx_far ?_ | refine hx_any ?_ | (apply ha_end; decide +kernel))
    first | refine hl_q (by decide) (q_call (fun w hm => inRange_c _ _ _ _) rfl) ?_ | refine hq_q (by decide) (q_call (fun w hm => inRange_c _ _ _ _) rfl) ?_ | refine hl_g _ _ rfl rfl (by decide) (q_call (fun w hm => inRange_c _ _ _ _) rfl) ?_ | refine hq_g _ _ rfl rfl (by decide) (q_call (fun w hm => inRange_c _ _ _ _) rfl) ?_
    repeat' (first | refine hl_a ?_ | refine hq_a ?_ | refine hl_nil ?_ | refine hq_nil ?_ | refine hq_ga ?_ | refine hq_sk ?_ | refine hq_su ?_ | refine hq_gT ?_ | refine hq_gF ?_ | refine hq_gd (fun h => ?_) (fun h => ?_) | refine hl_ga ?_ | refine hl_sk ?_ | refine hl_su ?_ | refine hl_gT ?_ | refine hl_gF ?_ | refine hl_gd (fun h => ?_) (fun h => ?_) | refine hx_next ?_ | refine hw_seq ?_ | refine hw_region ?_ | refine hw_dr ?_ | refine hw_block ?_ | refine hx_block ?_ | refine hw_tt ?_ | refine hw_ff ?_ | refine hw_iT ?_ | refine hw_iF ?_ | refine hw_skip ?_ | refine hw_ret ?_ | refine hw_exit ?_ | refine hx_then_ret ?_ | refine hx_block_ret ?_ | refine hx_then_exit ?_ | refine hx_block_here ?_ | refine hx_far ?_ | refine hx_any ?_ | (apply ha_end; decide +kernel))
    exact hx_ret2 rfl rfl rfl (fun w hm => ⟨_, _, rfl, rows_nil 82 2 (Value.int .i64) hm.none, _, [], by rw [hC], by rw [hX]; rfl, by rw [hX]; rfl, by rw [hX]; exact nil_ok⟩)
  have h2' : ¬ (20 : Int) < (rds.length : Int) := by omega
  obtain ⟨n, rfl⟩ : ∃ n : Nat, st = (n : Int) := ⟨st.toNat, by omega⟩
  have hn1 : 1 ≤ n := by omega
  have hn6 : n ≤ 6 := by omega
  repeat' (first | refine hl_a ?_ | refine hq_a ?_ | refine hl_nil ?_ | refine hq_nil ?_ | refine hq_ga ?_ | refine hq_sk ?_ | refine hq_su ?_ | refine hq_gT ?_ | refine hq_gF ?_ | refine hq_gd (fun h => ?_) (fun h => ?_) | refine hl_ga ?_ | refine hl_sk ?_ | refine hl_su ?_ | refine hl_gT ?_ | refine hl_gF ?_ | refine hl_gd (fun h => ?_) (fun h => ?_) | refine hx_next ?_ | refine hw_seq ?_ | refine hw_region ?_ | refine hw_dr ?_ | refine hw_block ?_ | refine hx_block ?_ | refine hw_tt ?_ | refine hw_ff ?_ | refine hw_iT ?_ | refine hw_iF ?_ | refine hw_skip ?_ | refine hw_ret ?_ | refine hw_exit ?_ | refine hx_then_ret ?_ | refine hx_block_ret ?_ | refine hx_then_exit ?_ | refine hx_block_here ?_ | refine hx_far ?_ | refine hx_any ?_ | (apply ha_end; decide +kernel))
  first | refine hl_q (by decide) (q_call (fun w hm => inRange_c _ _ _ _) rfl) ?_ | refine hq_q (by decide) (q_call (fun w hm => inRange_c _ _ _ _) rfl) ?_ | refine hl_g _ _ rfl rfl (by decide) (q_call (fun w hm => inRange_c _ _ _ _) rfl) ?_ | refine hq_g _ _ rfl rfl (by decide) (q_call (fun w hm => inRange_c _ _ _ _) rfl) ?_
  repeat' (first | refine hl_a ?_ | refine hq_a ?_ | refine hl_nil ?_ | refine hq_nil ?_ | refine hq_ga ?_ | refine hq_sk ?_ | refine hq_su ?_ | refine hq_gT ?_ | refine hq_gF ?_ | refine hq_gd (fun h => ?_) (fun h => ?_) | refine hl_ga ?_ | refine hl_sk ?_ | refine hl_su ?_ | refine hl_gT ?_ | refine hl_gF ?_ | refine hl_gd (fun h => ?_) (fun h => ?_) | refine hx_next ?_ | refine hw_seq ?_ | refine hw_region ?_ | refine hw_dr ?_ | refine hw_block ?_ | refine hx_block ?_ | refine hw_tt ?_ | refine hw_ff ?_ | refine hw_iT ?_ | refine hw_iF ?_ | refine hw_skip ?_ | refine hw_ret ?_ | refine hw_exit ?_ | refine hx_then_ret ?_ | refine hx_block_ret ?_ | refine hx_then_exit ?_ | refine hx_block_here ?_ | refine hx_far ?_ | refine hx_any ?_ | (apply ha_end; decide +kernel))
  refine hl_build0 (by decide) (fun b0 => ?_)
  repeat' (first | refine hl_a ?_ | refine hq_a ?_ | refine hl_nil ?_ | refine hq_nil ?_ | refine hq_ga ?_ | refine hq_sk ?_ | refine hq_su ?_ | refine hq_gT ?_ | refine hq_gF ?_ | refine hq_gd (fun h => ?_) (fun h => ?_) | refine hl_ga ?_ | refine hl_sk ?_ | refine hl_su ?_ | refine hl_gT ?_ | refine hl_gF ?_ | refine hl_gd (fun h => ?_) (fun h => ?_) | refine hx_next ?_ | refine hw_seq ?_ | refine hw_region ?_ | refine hw_dr ?_ | refine hw_block ?_ | refine hx_block ?_ | refine hw_tt ?_ | refine hw_ff ?_ | refine hw_iT ?_ | refine hw_iF ?_ | refine hw_skip ?_ | refine hw_ret ?_ | refine hw_exit ?_ | refine hx_then_ret ?_ | refine hx_block_ret ?_ | refine hx_then_exit ?_ | refine hx_block_here ?_ | refine hx_far ?_ | refine hx_any ?_ | (apply ha_end; decide +kernel))
  refine hw_mem (fun w hm => hm.empty) ?_
  refine hw_loop (fun e r m => ∃ (s : Nat) (u : Value) (vs : List Value), r = [rOwn 82 1 u s vs, rStar (rRow 2 (Value.int .i64) vs (tab s fun s => tab n (wf 600 rds 0 s)))] ∧ vs.length = s ∧ s ≤ n ∧ m = n - s ∧ e = [(0, .int .i64 (n : Int)), (1, v), (6, u), (26, .int .i64 (n : Int)), (27, .int .i64 (s : Int))])
    ⟨0, _, [], rfl, rfl, Nat.zero_le _, rfl, rfl⟩ ⟨rfl, rfl, rfl, rfl, rfl, trivial⟩ ?_
  rintro _ _ _ ⟨s, u, vs, rfl, hvs, hs, rfl, rfl⟩
  repeat' (first | refine hl_a ?_ | refine hq_a ?_ | refine hl_nil ?_ | refine hq_nil ?_ | refine hq_ga ?_ | refine hq_sk ?_ | refine hq_su ?_ | refine hq_gT ?_ | refine hq_gF ?_ | refine hq_gd (fun h => ?_) (fun h => ?_) | refine hl_ga ?_ | refine hl_sk ?_ | refine hl_su ?_ | refine hl_gT ?_ | refine hl_gF ?_ | refine hl_gd (fun h => ?_) (fun h => ?_) | refine hx_next ?_ | refine hw_seq ?_ | refine hw_region ?_ | refine hw_dr ?_ | refine hw_block ?_ | refine hx_block ?_ | refine hw_tt ?_ | refine hw_ff ?_ | refine hw_iT ?_ | refine hw_iF ?_ | refine hw_skip ?_ | refine hw_ret ?_ | refine hw_exit ?_ | refine hx_then_ret ?_ | refine hx_block_ret ?_ | refine hx_then_exit ?_ | refine hx_block_here ?_ | refine hx_far ?_ | refine hx_any ?_ | (apply ha_end; decide +kernel))
  refine hw_if rfl (fun hlt => ?_) (fun hge => ?_)
  · have hs2 : s < n := by omega
    repeat' (first | refine hl_a ?_ | refine hq_a ?_ | refine hl_nil ?_ | refine hq_nil ?_ | refine hq_ga ?_ | refine hq_sk ?_ | refine hq_su ?_ | refine hq_gT ?_ | refine hq_gF ?_ | refine hq_gd (fun h => ?_) (fun h => ?_) | refine hl_ga ?_ | refine hl_sk ?_ | refine hl_su ?_ | refine hl_gT ?_ | refine hl_gF ?_ | refine hl_gd (fun h => ?_) (fun h => ?_) | refine hx_next ?_ | refine hw_seq ?_ | refine hw_region ?_ | refine hw_dr ?_ | refine hw_block ?_ | refine hx_block ?_ | refine hw_tt ?_ | refine hw_ff ?_ | refine hw_iT ?_ | refine hw_iF ?_ | refine hw_skip ?_ | refine hw_ret ?_ | refine hw_exit ?_ | refine hx_then_ret ?_ | refine hx_block_ret ?_ | refine hx_then_exit ?_ | refine hx_block_here ?_ | refine hx_far ?_ | refine hx_any ?_ | (apply ha_end; decide +kernel))
    refine hl_build0 (by decide) (fun b2 => ?_)
    repeat' (first | refine hl_a ?_ | refine hq_a ?_ | refine hl_nil ?_ | refine hq_nil ?_ | refine hq_ga ?_ | refine hq_sk ?_ | refine hq_su ?_ | refine hq_gT ?_ | refine hq_gF ?_ | refine hq_gd (fun h => ?_) (fun h => ?_) | refine hl_ga ?_ | refine hl_sk ?_ | refine hl_su ?_ | refine hl_gT ?_ | refine hl_gF ?_ | refine hl_gd (fun h => ?_) (fun h => ?_) | refine hx_next ?_ | refine hw_seq ?_ | refine hw_region ?_ | refine hw_dr ?_ | refine hw_block ?_ | refine hx_block ?_ | refine hw_tt ?_ | refine hw_ff ?_ | refine hw_iT ?_ | refine hw_iF ?_ | refine hw_skip ?_ | refine hw_ret ?_ | refine hw_exit ?_ | refine hx_then_ret ?_ | refine hx_block_ret ?_ | refine hx_then_exit ?_ | refine hx_block_here ?_ | refine hx_far ?_ | refine hx_any ?_ | (apply ha_end; decide +kernel))
    refine hw_loop (fun e r m => ∃ (t : Nat) (x : Value), r = [rOwn 82 1 u s vs, rStar (rRow 2 (Value.int .i64) vs (tab s fun s => tab n (wf 600 rds 0 s))), rE 2 (Value.int .i64) x (tab t (wf 600 rds 0 s))] ∧ SlOk x t ∧ t ≤ n ∧ m = n - t ∧ e = [(0, .int .i64 (n : Int)), (1, v), (6, u), (7, .int .i64 (s : Int)), (8, x), (26, .int .i64 (n : Int)), (27, .int .i64 (s : Int)), (31, .int .i64 (n : Int)), (32, .int .i64 (t : Int))])
      ⟨0, _, rfl, lit_ok _ 0 (by decide), Nat.zero_le _, rfl, rfl⟩ ⟨rfl, rfl, rfl, rfl, rfl, rfl, rfl, rfl, rfl, trivial⟩ ?_
    rintro _ _ _ ⟨t, x, rfl, hx, ht, rfl, rfl⟩
    repeat' (first | refine hl_a ?_ | refine hq_a ?_ | refine hl_nil ?_ | refine hq_nil ?_ | refine hq_ga ?_ | refine hq_sk ?_ | refine hq_su ?_ | refine hq_gT ?_ | refine hq_gF ?_ | refine hq_gd (fun h => ?_) (fun h => ?_) | refine hl_ga ?_ | refine hl_sk ?_ | refine hl_su ?_ | refine hl_gT ?_ | refine hl_gF ?_ | refine hl_gd (fun h => ?_) (fun h => ?_) | refine hx_next ?_ | refine hw_seq ?_ | refine hw_region ?_ | refine hw_dr ?_ | refine hw_block ?_ | refine hx_block ?_ | refine hw_tt ?_ | refine hw_ff ?_ | refine hw_iT ?_ | refine hw_iF ?_ | refine hw_skip ?_ | refine hw_ret ?_ | refine hw_exit ?_ | refine hx_then_ret ?_ | refine hx_block_ret ?_ | refine hx_then_exit ?_ | refine hx_block_here ?_ | refine hx_far ?_ | refine hx_any ?_ | (apply ha_end; decide +kernel))
    refine hw_if rfl (fun hlt2 => ?_) (fun hge2 => ?_)
    · have ht2 : t < n := by omega
      rcases Classical.em ((s : Int) = (t : Int)) with hst2 | hst2
      · have hw : wf 600 rds 0 s t = 0 := by rw [wf_0, if_pos (by omega)]
        repeat' (first | refine hl_a ?_ | refine hq_a ?_ | refine hl_nil ?_ | refine hq_nil ?_ | refine hq_ga ?_ | refine hq_sk ?_ | refine hq_su ?_ | refine hq_gT ?_ | refine hq_gF ?_ | refine hq_gd (fun h => ?_) (fun h => ?_) | refine hl_ga ?_ | refine hl_sk ?_ | refine hl_su ?_ | refine hl_gT ?_ | refine hl_gF ?_ | refine hl_gd (fun h => ?_) (fun h => ?_) | refine hx_next ?_ | refine hw_seq ?_ | refine hw_region ?_ | refine hw_dr ?_ | refine hw_block ?_ | refine hx_block ?_ | refine hw_tt ?_ | refine hw_ff ?_ | refine hw_iT ?_ | refine hw_iF ?_ | refine hw_skip ?_ | refine hw_ret ?_ | refine hw_exit ?_ | refine hx_then_ret ?_ | refine hx_block_ret ?_ | refine hx_then_exit ?_ | refine hx_block_here ?_ | refine hx_far ?_ | refine hx_any ?_ | (apply ha_end; decide +kernel))
        refine hl_pushE 2 rfl (by decide) (by decide) 0 rfl rfl rfl (fun b => rfl) (by rw [tab_length]; omega) (by decide) (fun x' bq hx' => ?_)
        repeat' (first | refine hl_a ?_ | refine hq_a ?_ | refine hl_nil ?_ | refine hq_nil ?_ | refine hq_ga ?_ | refine hq_sk ?_ | refine hq_su ?_ | refine hq_gT ?_ | refine hq_gF ?_ | refine hq_gd (fun h => ?_) (fun h => ?_) | refine hl_ga ?_ | refine hl_sk ?_ | refine hl_su ?_ | refine hl_gT ?_ | refine hl_gF ?_ | refine hl_gd (fun h => ?_) (fun h => ?_) | refine hx_next ?_ | refine hw_seq ?_ | refine hw_region ?_ | refine hw_dr ?_ | refine hw_block ?_ | refine hx_block ?_ | refine hw_tt ?_ | refine hw_ff ?_ | refine hw_iT ?_ | refine hw_iF ?_ | refine hw_skip ?_ | refine hw_ret ?_ | refine hw_exit ?_ | refine hx_then_ret ?_ | refine hx_block_ret ?_ | refine hx_then_exit ?_ | refine hx_block_here ?_ | refine hx_far ?_ | refine hx_any ?_ | (apply ha_end; decide +kernel))
        refine hx_round ⟨t + 1, x', by rw [tab_succ, hw]; rfl, by simpa [tab_length] using hx', ht2, rfl, rfl⟩ (by omega) ⟨rfl, rfl, rfl, rfl, rfl, rfl, rfl, rfl, rfl, trivial⟩
      · have hw : wf 600 rds 0 s t = 600 := by rw [wf_0, if_neg (by omega)]
        repeat' (first | refine hl_a ?_ | refine hq_a ?_ | refine hl_nil ?_ | refine hq_nil ?_ | refine hq_ga ?_ | refine hq_sk ?_ | refine hq_su ?_ | refine hq_gT ?_ | refine hq_gF ?_ | refine hq_gd (fun h => ?_) (fun h => ?_) | refine hl_ga ?_ | refine hl_sk ?_ | refine hl_su ?_ | refine hl_gT ?_ | refine hl_gF ?_ | refine hl_gd (fun h => ?_) (fun h => ?_) | refine hx_next ?_ | refine hw_seq ?_ | refine hw_region ?_ | refine hw_dr ?_ | refine hw_block ?_ | refine hx_block ?_ | refine hw_tt ?_ | refine hw_ff ?_ | refine hw_iT ?_ | refine hw_iF ?_ | refine hw_skip ?_ | refine hw_ret ?_ | refine hw_exit ?_ | refine hx_then_ret ?_ | refine hx_block_ret ?_ | refine hx_then_exit ?_ | refine hx_block_here ?_ | refine hx_far ?_ | refine hx_any ?_ | (apply ha_end; decide +kernel))
        refine hl_pushE 2 rfl (by decide) (by decide) 600 rfl rfl rfl (fun b => rfl) (by rw [tab_length]; omega) (by decide) (fun x' bq hx' => ?_)
        repeat' (first | refine hl_a ?_ | refine hq_a ?_ | refine hl_nil ?_ | refine hq_nil ?_ | refine hq_ga ?_ | refine hq_sk ?_ | refine hq_su ?_ | refine hq_gT ?_ | refine hq_gF ?_ | refine hq_gd (fun h => ?_) (fun h => ?_) | refine hl_ga ?_ | refine hl_sk ?_ | refine hl_su ?_ | refine hl_gT ?_ | refine hl_gF ?_ | refine hl_gd (fun h => ?_) (fun h => ?_) | refine hx_next ?_ | refine hw_seq ?_ | refine hw_region ?_ | refine hw_dr ?_ | refine hw_block ?_ | refine hx_block ?_ | refine hw_tt ?_ | refine hw_ff ?_ | refine hw_iT ?_ | refine hw_iF ?_ | refine hw_skip ?_ | refine hw_ret ?_ | refine hw_exit ?_ | refine hx_then_ret ?_ | refine hx_block_ret ?_ | refine hx_then_exit ?_ | refine hx_block_here ?_ | refine hx_far ?_ | refine hx_any ?_ | (apply ha_end; decide +kernel))
        refine hx_round ⟨t + 1, x', by rw [tab_succ, hw]; rfl, by simpa [tab_length] using hx', ht2, rfl, rfl⟩ (by omega) ⟨rfl, rfl, rfl, rfl, rfl, rfl, rfl, rfl, rfl, trivial⟩
    · have e : t = n := by omega
      subst e
      repeat' (first | refine hl_a ?_ | refine hq_a ?_ | refine hl_nil ?_ | refine hq_nil ?_ | refine hq_ga ?_ | refine hq_sk ?_ | refine hq_su ?_ | refine hq_gT ?_ | refine hq_gF ?_ | refine hq_gd (fun h => ?_) (fun h => ?_) | refine hl_ga ?_ | refine hl_sk ?_ | refine hl_su ?_ | refine hl_gT ?_ | refine hl_gF ?_ | refine hl_gd (fun h => ?_) (fun h => ?_) | refine hx_next ?_ | refine hw_seq ?_ | refine hw_region ?_ | refine hw_dr ?_ | refine hw_block ?_ | refine hx_block ?_ | refine hw_tt ?_ | refine hw_ff ?_ | refine hw_iT ?_ | refine hw_iF ?_ | refine hw_skip ?_ | refine hw_ret ?_ | refine hw_exit ?_ | refine hx_then_ret ?_ | refine hx_block_ret ?_ | refine hx_then_exit ?_ | refine hx_block_here ?_ | refine hx_far ?_ | refine hx_any ?_ | (apply ha_end; decide +kernel))
      refine hl_push 0 rfl (by decide) (by decide) rfl hx.one rfl (fun b => rfl) (by omega) (by decide) (fun u' bq hu' => ?_)
      repeat' (first | refine hl_a ?_ | refine hq_a ?_ | refine hl_nil ?_ | refine hq_nil ?_ | refine hq_ga ?_ | refine hq_sk ?_ | refine hq_su ?_ | refine hq_gT ?_ | refine hq_gF ?_ | refine hq_gd (fun h => ?_) (fun h => ?_) | refine hl_ga ?_ | refine hl_sk ?_ | refine hl_su ?_ | refine hl_gT ?_ | refine hl_gF ?_ | refine hl_gd (fun h => ?_) (fun h => ?_) | refine hx_next ?_ | refine hw_seq ?_ | refine hw_region ?_ | refine hw_dr ?_ | refine hw_block ?_ | refine hx_block ?_ | refine hw_tt ?_ | refine hw_ff ?_ | refine hw_iT ?_ | refine hw_iF ?_ | refine hw_skip ?_ | refine hw_ret ?_ | refine hw_exit ?_ | refine hx_then_ret ?_ | refine hx_block_ret ?_ | refine hx_then_exit ?_ | refine hx_block_here ?_ | refine hx_far ?_ | refine hx_any ?_ | (apply ha_end; decide +kernel))
      refine hx_mem (rs' := [rOwn 82 1 u' (s + 1) (vs ++ [x]), rStar (rRow 2 (Value.int .i64) (vs ++ [x]) (tab (s + 1) fun s => tab t (wf 600 rds 0 s)))]) (fun w hm => ?_) ?_
      · rw [tab_succ, rRow_snoc _ _ _ _ (by rw [tab_length]; exact hvs)]
        exact Mem.pack [_] hm
      · exact hx_round ⟨s + 1, u', vs ++ [x], rfl, by simp [hvs], hs2, rfl, rfl⟩ (by omega) ⟨rfl, rfl, rfl, rfl, rfl, trivial⟩
  have e : s = n := by omega
  subst e
  repeat' (first | refine hl_a ?_ | refine hq_a ?_ | refine hl_nil ?_ | refine hq_nil ?_ | refine hq_ga ?_ | refine hq_sk ?_ | refine hq_su ?_ | refine hq_gT ?_ | refine hq_gF ?_ | refine hq_gd (fun h => ?_) (fun h => ?_) | refine hl_ga ?_ | refine hl_sk ?_ | refine hl_su ?_ | refine hl_gT ?_ | refine hl_gF ?_ | refine hl_gd (fun h => ?_) (fun h => ?_) | refine hx_next ?_ | refine hw_seq ?_ | refine hw_region ?_ | refine hw_dr ?_ | refine hw_block ?_ | refine hx_block ?_ | refine hw_tt ?_ | refine hw_ff ?_ | refine hw_iT ?_ | refine hw_iF ?_ | refine hw_skip ?_ | refine hw_ret ?_ | refine hw_exit ?_ | refine hx_then_ret ?_ | refine hx_block_ret ?_ | refine hx_then_exit ?_ | refine hx_block_here ?_ | refine hx_far ?_ | refine hx_any ?_ | (apply ha_end; decide +kernel))
  refine hw_mem (rs' := [rRows 82 2 (Value.int .i64) u vs (mat s (wf 600 rds 0))]) (fun w hm => Mem.rows 0 1 hm hvs.symm (by decide) rfl rfl) ?_
  refine hw_fact (fun w hm => slOk_mat 0 rfl hvs hm) (fun hsl2 => ?_)
  obtain ⟨hu, hrow⟩ := hsl2
  have hlr : ∀ (f : Nat → Nat → Int) (T : List Res) (c : Nat), c < s → Ld w (rRows 82 2 (Value.int .i64) u vs (mat s f) :: T) (vAt u c) (vs.getD c undef) := fun f T c hc => ld_rows 0 rfl (by omega)
  refine hw_loop (fun e r m => ∃ i : Nat, r = [rRows 82 2 (Value.int .i64) u vs (mat s (wf 600 rds i))] ∧ i ≤ rds.length ∧ (∀ j, j < i → RoadOk s (rds.getD j rd0)) ∧ m = rds.length - i ∧ e = [(0, .int .i64 (s : Int)), (6, u), (50, v), (51, .int .i64 (rds.length : Int)), (52, .int .i64 (i : Int))])
    ⟨0, rfl, Nat.zero_le _, by omega, rfl, rfl⟩ ⟨rfl, rfl, rfl, rfl, rfl, trivial⟩ ?_
  rintro _ _ _ ⟨i, rfl, hi, hall, rfl, rfl⟩
  repeat' (first | refine hl_a ?_ | refine hq_a ?_ | refine hl_nil ?_ | refine hq_nil ?_ | refine hq_ga ?_ | refine hq_sk ?_ | refine hq_su ?_ | refine hq_gT ?_ | refine hq_gF ?_ | refine hq_gd (fun h => ?_) (fun h => ?_) | refine hl_ga ?_ | refine hl_sk ?_ | refine hl_su ?_ | refine hl_gT ?_ | refine hl_gF ?_ | refine hl_gd (fun h => ?_) (fun h => ?_) | refine hx_next ?_ | refine hw_seq ?_ | refine hw_region ?_ | refine hw_dr ?_ | refine hw_block ?_ | refine hx_block ?_ | refine hw_tt ?_ | refine hw_ff ?_ | refine hw_iT ?_ | refine hw_iF ?_ | refine hw_skip ?_ | refine hw_ret ?_ | refine hw_exit ?_ | refine hx_then_ret ?_ | refine hx_block_ret ?_ | refine hx_then_exit ?_ | refine hx_block_here ?_ | refine hx_far ?_ | refine hx_any ?_ | (apply ha_end; decide +kernel))
  refine hw_if rfl (fun hlt => ?_) (fun hge => ?_)
  · have hi2 : i < rds.length := by omega
    have c0 := hr.c0 i hi2
    have c1 := hr.c1 i hi2
    have c2 := hr.c2 i hi2
    have hno : ¬ RoadOk s (rds.getD i rd0) → rlC (s : Int) rds = 2 ∧ rlX (s : Int) rds = [] := fun h => hbad (fun e => h (by have := e.r i hi2; rwa [Int.toNat_natCast] at this))
    have hwf : wf 600 rds (i + 1) = addR (wf 600 rds i) (rds.getD i rd0) := rfl
    generalize hf : wf 600 rds i = f at hwf
    generalize hr9 : rds.getD i rd0 = rr at c0 c1 c2 hno hwf
    obtain ⟨a, b, len⟩ := rr
    repeat' (first | refine hl_a ?_ | refine hq_a ?_ | refine hl_nil ?_ | refine hq_nil ?_ | refine hq_ga ?_ | refine hq_sk ?_ | refine hq_su ?_ | refine hq_gT ?_ | refine hq_gF ?_ | refine hq_gd (fun h => ?_) (fun h => ?_) | refine hl_ga ?_ | refine hl_sk ?_ | refine hl_su ?_ | refine hl_gT ?_ | refine hl_gF ?_ | refine hl_gd (fun h => ?_) (fun h => ?_) | refine hx_next ?_ | refine hw_seq ?_ | refine hw_region ?_ | refine hw_dr ?_ | refine hw_block ?_ | refine hx_block ?_ | refine hw_tt ?_ | refine hw_ff ?_ | refine hw_iT ?_ | refine hw_iF ?_ | refine hw_skip ?_ | refine hw_ret ?_ | refine hw_exit ?_ | refine hx_then_ret ?_ | refine hx_block_ret ?_ | refine hx_then_exit ?_ | refine hx_block_here ?_ | refine hx_far ?_ | refine hx_any ?_ | (apply ha_end; decide +kernel))
    first | refine hl_q (by decide) (q_loadA3 rfl (ld_base c0) (ld_base c1) (ld_base c2)) ?_ | refine hq_q (by decide) (q_loadA3 rfl (ld_base c0) (ld_base c1) (ld_base c2)) ?_ | refine hl_g _ _ rfl rfl (by decide) (q_loadA3 rfl (ld_base c0) (ld_base c1) (ld_base c2)) ?_ | refine hq_g _ _ rfl rfl (by decide) (q_loadA3 rfl (ld_base c0) (ld_base c1) (ld_base c2)) ?_
    refine hl_alloc (by decide) (fun bx => ?_)
    refine hl_storeA 1 rfl rfl rfl rfl rfl (by intro x hx; simp at hx; rcases hx with rfl | rfl | rfl <;> rfl) ?_
    rcases Classical.em (0 ≤ a ∧ a ≤ (s : Int) - 1) with ha | ha
    case inr =>
      obtain ⟨hC, hX⟩ := hno (fun e => ha e.a)
      repeat' (first | refine hl_a ?_ | refine hq_a ?_ | refine hl_nil ?_ | refine hq_nil ?_ | refine hq_ga ?_ | refine hq_sk ?_ | refine hq_su ?_ | refine hq_gT ?_ | refine hq_gF ?_ | refine hq_gd (fun h => ?_) (fun h => ?_) | refine hl_ga ?_ | refine hl_sk ?_ | refine hl_su ?_ | refine hl_gT ?_ | refine hl_gF ?_ | refine hl_gd (fun h => ?_) (fun h => ?_) | refine hx_next ?_ | refine hw_seq ?_ | refine hw_region ?_ | refine hw_dr ?_ | refine hw_block ?_ | refine hx_block ?_ | refine hw_tt ?_ | refine hw_ff ?_ | refine hw_iT ?_ | refine hw_iF ?_ | refine hw_skip ?_ | refine hw_ret ?_ | refine hw_exit ?_ | refine hx_then_ret ?_ | refine hx_block_ret ?_ | refine hx_then_exit ?_ | refine hx_block_here ?_ | refine hx_far ?_ | refine hx_any ?_ | (apply ha_end; decide +kernel))
      first | refine hl_q (by decide) (q_call (fun w hm => inRange_c _ _ _ _) rfl) ?_ | refine hq_q (by decide) (q_call (fun w hm => inRange_c _ _ _ _) rfl) ?_ | refine hl_g _ _ rfl rfl (by decide) (q_call (fun w hm => inRange_c _ _ _ _) rfl) ?_ | refine hq_g _ _ rfl rfl (by decide) (q_call (fun w hm => inRange_c _ _ _ _) rfl) ?_
      repeat' (first | refine hl_a ?_ | refine hq_a ?_ | refine hl_nil ?_ | refine hq_nil ?_ | refine hq_ga ?_ | refine hq_sk ?_ | refine hq_su ?_ | refine hq_gT ?_ | refine hq_gF ?_ | refine hq_gd (fun h => ?_) (fun h => ?_) | refine hl_ga ?_ | refine hl_sk ?_ | refine hl_su ?_ | refine hl_gT ?_ | refine hl_gF ?_ | refine hl_gd (fun h => ?_) (fun h => ?_) | refine hx_next ?_ | refine hw_seq ?_ | refine hw_region ?_ | refine hw_dr ?_ | refine hw_block ?_ | refine hx_block ?_ | refine hw_tt ?_ | refine hw_ff ?_ | refine hw_iT ?_ | refine hw_iF ?_ | refine hw_skip ?_ | refine hw_ret ?_ | refine hw_exit ?_ | refine hx_then_ret ?_ | refine hx_block_ret ?_ | refine hx_then_exit ?_ | refine hx_block_here ?_ | refine hx_far ?_ | refine hx_any ?_ | (apply ha_end; decide +kernel))
      exact hx_ret2 rfl rfl rfl (fun w hm => ⟨_, _, rfl, rows_nil 82 2 (Value.int .i64) hm.none, _, [], by rw [hC], by rw [hX]; rfl, by rw [hX]; rfl, by rw [hX]; exact nil_ok⟩)
    have ha' : ¬ ¬ (0 ≤ a ∧ a ≤ (s : Int) - 1) := fun e => e ha
    rcases Classical.em (0 ≤ b ∧ b ≤ (s : Int) - 1) with hb | hb
    case inr =>
      obtain ⟨hC, hX⟩ := hno (fun e => hb e.b)
      repeat' (first | refine hl_a ?_ | refine hq_a ?_ | refine hl_nil ?_ | refine hq_nil ?_ | refine hq_ga ?_ | refine hq_sk ?_ | refine hq_su ?_ | refine hq_gT ?_ | refine hq_gF ?_ | refine hq_gd (fun h => ?_) (fun h => ?_) | refine hl_ga ?_ | refine hl_sk ?_ | refine hl_su ?_ | refine hl_gT ?_ | refine hl_gF ?_ | refine hl_gd (fun h => ?_) (fun h => ?_) | refine hx_next ?_ | refine hw_seq ?_ | refine hw_region ?_ | refine hw_dr ?_ | refine hw_block ?_ | refine hx_block ?_ | refine hw_tt ?_ | refine hw_ff ?_ | refine hw_iT ?_ | refine hw_iF ?_ | refine hw_skip ?_ | refine hw_ret ?_ | refine hw_exit ?_ | refine hx_then_ret ?_ | refine hx_block_ret ?_ | refine hx_then_exit ?_ | refine hx_block_here ?_ | refine hx_far ?_ | refine hx_any ?_ | (apply ha_end; decide +kernel))
      first | refine hl_q (by decide) (q_call (fun w hm => inRange_c _ _ _ _) rfl) ?_ | refine hq_q (by decide) (q_call (fun w hm => inRange_c _ _ _ _) rfl) ?_ | refine hl_g _ _ rfl rfl (by decide) (q_call (fun w hm => inRange_c _ _ _ _) rfl) ?_ | refine hq_g _ _ rfl rfl (by decide) (q_call (fun w hm => inRange_c _ _ _ _) rfl) ?_
      repeat' (first | refine hl_a ?_ | refine hq_a ?_ | refine hl_nil ?_ | refine hq_nil ?_ | refine hq_ga ?_ | refine hq_sk ?_ | refine hq_su ?_ | refine hq_gT ?_ | refine hq_gF ?_ | refine hq_gd (fun h => ?_) (fun h => ?_) | refine hl_ga ?_ | refine hl_sk ?_ | refine hl_su ?_ | refine hl_gT ?_ | refine hl_gF ?_ | refine hl_gd (fun h => ?_) (fun h => ?_) | refine hx_next ?_ | refine hw_seq ?_ | refine hw_region ?_ | refine hw_dr ?_ | refine hw_block ?_ | refine hx_block ?_ | refine hw_tt ?_ | refine hw_ff ?_ | refine hw_iT ?_ | refine hw_iF ?_ | refine hw_skip ?_ | refine hw_ret ?_ | refine hw_exit ?_ | refine hx_then_ret ?_ | refine hx_block_ret ?_ | refine hx_then_exit ?_ | refine hx_block_here ?_ | refine hx_far ?_ | refine hx_any ?_ | (apply ha_end; decide +kernel))
      first | refine hl_q (by decide) (q_call (fun w hm => inRange_c _ _ _ _) rfl) ?_ | refine hq_q (by decide) (q_call (fun w hm => inRange_c _ _ _ _) rfl) ?_ | refine hl_g _ _ rfl rfl (by decide) (q_call (fun w hm => inRange_c _ _ _ _) rfl) ?_ | refine hq_g _ _ rfl rfl (by decide) (q_call (fun w hm => inRange_c _ _ _ _) rfl) ?_
      repeat' (first | refine hl_a ?_ | refine hq_a ?_ | refine hl_nil ?_ | refine hq_nil ?_ | refine hq_ga ?_ | refine hq_sk ?_ | refine hq_su ?_ | refine hq_gT ?_ | refine hq_gF ?_ | refine hq_gd (fun h => ?_) (fun h => ?_) | refine hl_ga ?_ | refine hl_sk ?_ | refine hl_su ?_ | refine hl_gT ?_ | refine hl_gF ?_ | refine hl_gd (fun h => ?_) (fun h => ?_) | refine hx_next ?_ | refine hw_seq ?_ | refine hw_region ?_ | refine hw_dr ?_ | refine hw_block ?_ | refine hx_block ?_ | refine hw_tt ?_ | refine hw_ff ?_ | refine hw_iT ?_ | refine hw_iF ?_ | refine hw_skip ?_ | refine hw_ret ?_ | refine hw_exit ?_ | refine hx_then_ret ?_ | refine hx_block_ret ?_ | refine hx_then_exit ?_ | refine hx_block_here ?_ | refine hx_far ?_ | refine hx_any ?_ | (apply ha_end; decide +kernel))
      exact hx_ret2 rfl rfl rfl (fun w hm => ⟨_, _, rfl, rows_nil 82 2 (Value.int .i64) hm.none, _, [], by rw [hC], by rw [hX]; rfl, by rw [hX]; rfl, by rw [hX]; exact nil_ok⟩)
    have hb' : ¬ ¬ (0 ≤ b ∧ b ≤ (s : Int) - 1) := fun e => e hb
    rcases Classical.em (a = b) with hab | hab
    · obtain ⟨hC, hX⟩ := hno (fun e => e.ne hab)
      repeat' (first | refine hl_a ?_ | refine hq_a ?_ | refine hl_nil ?_ | refine hq_nil ?_ | refine hq_ga ?_ | refine hq_sk ?_ | refine hq_su ?_ | refine hq_gT ?_ | refine hq_gF ?_ | refine hq_gd (fun h => ?_) (fun h => ?_) | refine hl_ga ?_ | refine hl_sk ?_ | refine hl_su ?_ | refine hl_gT ?_ | refine hl_gF ?_ | refine hl_gd (fun h => ?_) (fun h => ?_) | refine hx_next ?_ | refine hw_seq ?_ | refine hw_region ?_ | refine hw_dr ?_ | refine hw_block ?_ | refine hx_block ?_ | refine hw_tt ?_ | refine hw_ff ?_ | refine hw_iT ?_ | refine hw_iF ?_ | refine hw_skip ?_ | refine hw_ret ?_ | refine hw_exit ?_ | refine hx_then_ret ?_ | refine hx_block_ret ?_ | refine hx_then_exit ?_ | refine hx_block_here ?_ | refine hx_far ?_ | refine hx_any ?_ | (apply ha_end; decide +kernel))
      first | refine hl_q (by decide) (q_call (fun w hm => inRange_c _ _ _ _) rfl) ?_ | refine hq_q (by decide) (q_call (fun w hm => inRange_c _ _ _ _) rfl) ?_ | refine hl_g _ _ rfl rfl (by decide) (q_call (fun w hm => inRange_c _ _ _ _) rfl) ?_ | refine hq_g _ _ rfl rfl (by decide) (q_call (fun w hm => inRange_c _ _ _ _) rfl) ?_
      repeat' (first | refine hl_a ?_ | refine hq_a ?_ | refine hl_nil ?_ | refine hq_nil ?_ | refine hq_ga ?_ | refine hq_sk ?_ | refine hq_su ?_ | refine hq_gT ?_ | refine hq_gF ?_ | refine hq_gd (fun h => ?_) (fun h => ?_) | refine hl_ga ?_ | refine hl_sk ?_ | refine hl_su ?_ | refine hl_gT ?_ | refine hl_gF ?_ | refine hl_gd (fun h => ?_) (fun h => ?_) | refine hx_next ?_ | refine hw_seq ?_ | refine hw_region ?_ | refine hw_dr ?_ | refine hw_block ?_ | refine hx_block ?_ | refine hw_tt ?_ | refine hw_ff ?_ | refine hw_iT ?_ | refine hw_iF ?_ | refine hw_skip ?_ | refine hw_ret ?_ | refine hw_exit ?_ | refine hx_then_ret ?_ | refine hx_block_ret ?_ | refine hx_then_exit ?_ | refine hx_block_here ?_ | refine hx_far ?_ | refine hx_any ?_ | (apply ha_end; decide +kernel))
      first | refine hl_q (by decide) (q_call (fun w hm => inRange_c _ _ _ _) rfl) ?_ | refine hq_q (by decide) (q_call (fun w hm => inRange_c _ _ _ _) rfl) ?_ | refine hl_g _ _ rfl rfl (by decide) (q_call (fun w hm => inRange_c _ _ _ _) rfl) ?_ | refine hq_g _ _ rfl rfl (by decide) (q_call (fun w hm => inRange_c _ _ _ _) rfl) ?_
      repeat' (first | refine hl_a ?_ | refine hq_a ?_ | refine hl_nil ?_ | refine hq_nil ?_ | refine hq_ga ?_ | refine hq_sk ?_ | refine hq_su ?_ | refine hq_gT ?_ | refine hq_gF ?_ | refine hq_gd (fun h => ?_) (fun h => ?_) | refine hl_ga ?_ | refine hl_sk ?_ | refine hl_su ?_ | refine hl_gT ?_ | refine hl_gF ?_ | refine hl_gd (fun h => ?_) (fun h => ?_) | refine hx_next ?_ | refine hw_seq ?_ | refine hw_region ?_ | refine hw_dr ?_ | refine hw_block ?_ | refine hx_block ?_ | refine hw_tt ?_ | refine hw_ff ?_ | refine hw_iT ?_ | refine hw_iF ?_ | refine hw_skip ?_ | refine hw_ret ?_ | refine hw_exit ?_ | refine hx_then_ret ?_ | refine hx_block_ret ?_ | refine hx_then_exit ?_ | refine hx_block_here ?_ | refine hx_far ?_ | refine hx_any ?_ | (apply ha_end; decide +kernel))
      exact hx_ret2 rfl rfl rfl (fun w hm => ⟨_, _, rfl, rows_nil 82 2 (Value.int .i64) hm.none, _, [], by rw [hC], by rw [hX]; rfl, by rw [hX]; rfl, by rw [hX]; exact nil_ok⟩)
    rcases Classical.em (1 ≤ len ∧ len ≤ 100) with hln | hln
    case inr =>
      obtain ⟨hC, hX⟩ := hno (fun e => hln e.l)
      repeat' (first | refine hl_a ?_ | refine hq_a ?_ | refine hl_nil ?_ | refine hq_nil ?_ | refine hq_ga ?_ | refine hq_sk ?_ | refine hq_su ?_ | refine hq_gT ?_ | refine hq_gF ?_ | refine hq_gd (fun h => ?_) (fun h => ?_) | refine hl_ga ?_ | refine hl_sk ?_ | refine hl_su ?_ | refine hl_gT ?_ | refine hl_gF ?_ | refine hl_gd (fun h => ?_) (fun h => ?_) | refine hx_next ?_ | refine hw_seq ?_ | refine hw_region ?_ | refine hw_dr ?_ | refine hw_block ?_ | refine hx_block ?_ | refine hw_tt ?_ | refine hw_ff ?_ | refine hw_iT ?_ | refine hw_iF ?_ | refine hw_skip ?_ | refine hw_ret ?_ | refine hw_exit ?_ | refine hx_then_ret ?_ | refine hx_block_ret ?_ | refine hx_then_exit ?_ | refine hx_block_here ?_ | refine hx_far ?_ | refine hx_any ?_ | (apply ha_end; decide +kernel))
      first | refine hl_q (by decide) (q_call (fun w hm => inRange_c _ _ _ _) rfl) ?_ | refine hq_q (by decide) (q_call (fun w hm => inRange_c _ _ _ _) rfl) ?_ | refine hl_g _ _ rfl rfl (by decide) (q_call (fun w hm => inRange_c _ _ _ _) rfl) ?_ | refine hq_g _ _ rfl rfl (by decide) (q_call (fun w hm => inRange_c _ _ _ _) rfl) ?_
      repeat' (first | refine hl_a ?_ | refine hq_a ?_ | refine hl_nil ?_ | refine hq_nil ?_ | refine hq_ga ?_ | refine hq_sk ?_ | refine hq_su ?_ | refine hq_gT ?_ | refine hq_gF ?_ | refine hq_gd (fun h => ?_) (fun h => ?_) | refine hl_ga ?_ | refine hl_sk ?_ | refine hl_su ?_ | refine hl_gT ?_ | refine hl_gF ?_ | refine hl_gd (fun h => ?_) (fun h => ?_) | refine hx_next ?_ | refine hw_seq ?_ | refine hw_region ?_ | refine hw_dr ?_ | refine hw_block ?_ | refine hx_block ?_ | refine hw_tt ?_ | refine hw_ff ?_ | refine hw_iT ?_ | refine hw_iF ?_ | refine hw_skip ?_ | refine hw_ret ?_ | refine hw_exit ?_ | refine hx_then_ret ?_ | refine hx_block_ret ?_ | refine hx_then_exit ?_ | refine hx_block_here ?_ | refine hx_far ?_ | refine hx_any ?_ | (apply ha_end; decide +kernel))
      first | refine hl_q (by decide) (q_call (fun w hm => inRange_c _ _ _ _) rfl) ?_ | refine hq_q (by decide) (q_call (fun w hm => inRange_c _ _ _ _) rfl) ?_ | refine hl_g _ _ rfl rfl (by decide) (q_call (fun w hm => inRange_c _ _ _ _) rfl) ?_ | refine hq_g _ _ rfl rfl (by decide) (q_call (fun w hm => inRange_c _ _ _ _) rfl) ?_
      repeat' (first | refine hl_a ?_ | refine hq_a ?_ | refine hl_nil ?_ | refine hq_nil ?_ | refine hq_ga ?_ | refine hq_sk ?_ | refine hq_su ?_ | refine hq_gT ?_ | refine hq_gF ?_ | refine hq_gd (fun h => ?_) (fun h => ?_) | refine hl_ga ?_ | refine hl_sk ?_ | refine hl_su ?_ | refine hl_gT ?_ | refine hl_gF ?_ | refine hl_gd (fun h => ?_) (fun h => ?_) | refine hx_next ?_ | refine hw_seq ?_ | refine hw_region ?_ | refine hw_dr ?_ | refine hw_block ?_ | refine hx_block ?_ | refine hw_tt ?_ | refine hw_ff ?_ | refine hw_iT ?_ | refine hw_iF ?_ | refine hw_skip ?_ | refine hw_ret ?_ | refine hw_exit ?_ | refine hx_then_ret ?_ | refine hx_block_ret ?_ | refine hx_then_exit ?_ | refine hx_block_here ?_ | refine hx_far ?_ | refine hx_any ?_ | (apply ha_end; decide +kernel))
      first | refine hl_q (by decide) (q_call (fun w hm => inRange_c _ _ _ _) rfl) ?_ | refine hq_q (by decide) (q_call (fun w hm => inRange_c _ _ _ _) rfl) ?_ | refine hl_g _ _ rfl rfl (by decide) (q_call (fun w hm => inRange_c _ _ _ _) rfl) ?_ | refine hq_g _ _ rfl rfl (by decide) (q_call (fun w hm => inRange_c _ _ _ _) rfl) ?_
      repeat' (first | refine hl_a ?_ | refine hq_a ?_ | refine hl_nil ?_ | refine hq_nil ?_ | refine hq_ga ?_ | refine hq_sk ?_ | refine hq_su ?_ | refine hq_gT ?_ | refine hq_gF ?_ | refine hq_gd (fun h => ?_) (fun h => ?_) | refine hl_ga ?_ | refine hl_sk ?_ | refine hl_su ?_ | refine hl_gT ?_ | refine hl_gF ?_ | refine hl_gd (fun h => ?_) (fun h => ?_) | refine hx_next ?_ | refine hw_seq ?_ | refine hw_region ?_ | refine hw_dr ?_ | refine hw_block ?_ | refine hx_block ?_ | refine hw_tt ?_ | refine hw_ff ?_ | refine hw_iT ?_ | refine hw_iF ?_ | refine hw_skip ?_ | refine hw_ret ?_ | refine hw_exit ?_ | refine hx_then_ret ?_ | refine hx_block_ret ?_ | refine hx_then_exit ?_ | refine hx_block_here ?_ | refine hx_far ?_ | refine hx_any ?_ | (apply ha_end; decide +kernel))
      exact hx_ret2 rfl rfl rfl (fun w hm => ⟨_, _, rfl, rows_nil 82 2 (Value.int .i64) hm.none, _, [], by rw [hC], by rw [hX]; rfl, by rw [hX]; rfl, by rw [hX]; exact nil_ok⟩)
    have hln' : ¬ ¬ (1 ≤ len ∧ len ≤ 100) := fun e => e hln
    have hok : RoadOk s ⟨a, b, len⟩ := ⟨ha, hb, hab, hln⟩
    obtain ⟨A, rfl⟩ : ∃ A : Nat, a = (A : Int) := ⟨a.toNat, by omega⟩
    obtain ⟨B, rfl⟩ : ∃ B : Nat, b = (B : Int) := ⟨b.toNat, by omega⟩
    have hA : A < s := by omega
    have hB : B < s := by omega
    have hrA := hrow A hA
    have hrB := hrow B hB
    have hadd : addR f ⟨(A : Int), (B : Int), len⟩ = upd (upd f A B (min (f A B) len)) B A (min (f A B) len) := by unfold addR; rw [Int.toNat_natCast, Int.toNat_natCast]
    repeat' (first | refine hl_a ?_ | refine hq_a ?_ | refine hl_nil ?_ | refine hq_nil ?_ | refine hq_ga ?_ | refine hq_sk ?_ | refine hq_su ?_ | refine hq_gT ?_ | refine hq_gF ?_ | refine hq_gd (fun h => ?_) (fun h => ?_) | refine hl_ga ?_ | refine hl_sk ?_ | refine hl_su ?_ | refine hl_gT ?_ | refine hl_gF ?_ | refine hl_gd (fun h => ?_) (fun h => ?_) | refine hx_next ?_ | refine hw_seq ?_ | refine hw_region ?_ | refine hw_dr ?_ | refine hw_block ?_ | refine hx_block ?_ | refine hw_tt ?_ | refine hw_ff ?_ | refine hw_iT ?_ | refine hw_iF ?_ | refine hw_skip ?_ | refine hw_ret ?_ | refine hw_exit ?_ | refine hx_then_ret ?_ | refine hx_block_ret ?_ | refine hx_then_exit ?_ | refine hx_block_here ?_ | refine hx_far ?_ | refine hx_any ?_ | (apply ha_end; decide +kernel))
    first | refine hl_q (by decide) (q_call (fun w hm => inRange_c _ _ _ _) rfl) ?_ | refine hq_q (by decide) (q_call (fun w hm => inRange_c _ _ _ _) rfl) ?_ | refine hl_g _ _ rfl rfl (by decide) (q_call (fun w hm => inRange_c _ _ _ _) rfl) ?_ | refine hq_g _ _ rfl rfl (by decide) (q_call (fun w hm => inRange_c _ _ _ _) rfl) ?_
    repeat' (first | refine hl_a ?_ | refine hq_a ?_ | refine hl_nil ?_ | refine hq_nil ?_ | refine hq_ga ?_ | refine hq_sk ?_ | refine hq_su ?_ | refine hq_gT ?_ | refine hq_gF ?_ | refine hq_gd (fun h => ?_) (fun h => ?_) | refine hl_ga ?_ | refine hl_sk ?_ | refine hl_su ?_ | refine hl_gT ?_ | refine hl_gF ?_ | refine hl_gd (fun h => ?_) (fun h => ?_) | refine hx_next ?_ | refine hw_seq ?_ | refine hw_region ?_ | refine hw_dr ?_ | refine hw_block ?_ | refine hx_block ?_ | refine hw_tt ?_ | refine hw_ff ?_ | refine hw_iT ?_ | refine hw_iF ?_ | refine hw_skip ?_ | refine hw_ret ?_ | refine hw_exit ?_ | refine hx_then_ret ?_ | refine hx_block_ret ?_ | refine hx_then_exit ?_ | refine hx_block_here ?_ | refine hx_far ?_ | refine hx_any ?_ | (apply ha_end; decide +kernel))
    first | refine hl_q (by decide) (q_call (fun w hm => inRange_c _ _ _ _) rfl) ?_ | refine hq_q (by decide) (q_call (fun w hm => inRange_c _ _ _ _) rfl) ?_ | refine hl_g _ _ rfl rfl (by decide) (q_call (fun w hm => inRange_c _ _ _ _) rfl) ?_ | refine hq_g _ _ rfl rfl (by decide) (q_call (fun w hm => inRange_c _ _ _ _) rfl) ?_
    repeat' (first | refine hl_a ?_ | refine hq_a ?_ | refine hl_nil ?_ | refine hq_nil ?_ | refine hq_ga ?_ | refine hq_sk ?_ | refine hq_su ?_ | refine hq_gT ?_ | refine hq_gF ?_ | refine hq_gd (fun h => ?_) (fun h => ?_) | refine hl_ga ?_ | refine hl_sk ?_ | refine hl_su ?_ | refine hl_gT ?_ | refine hl_gF ?_ | refine hl_gd (fun h => ?_) (fun h => ?_) | refine hx_next ?_ | refine hw_seq ?_ | refine hw_region ?_ | refine hw_dr ?_ | refine hw_block ?_ | refine hx_block ?_ | refine hw_tt ?_ | refine hw_ff ?_ | refine hw_iT ?_ | refine hw_iF ?_ | refine hw_skip ?_ | refine hw_ret ?_ | refine hw_exit ?_ | refine hx_then_ret ?_ | refine hx_block_ret ?_ | refine hx_then_exit ?_ | refine hx_block_here ?_ | refine hx_far ?_ | refine hx_any ?_ | (apply ha_end; decide +kernel))
    first | refine hl_q (by decide) (q_call (fun w hm => inRange_c _ _ _ _) rfl) ?_ | refine hq_q (by decide) (q_call (fun w hm => inRange_c _ _ _ _) rfl) ?_ | refine hl_g _ _ rfl rfl (by decide) (q_call (fun w hm => inRange_c _ _ _ _) rfl) ?_ | refine hq_g _ _ rfl rfl (by decide) (q_call (fun w hm => inRange_c _ _ _ _) rfl) ?_
    repeat' (first | refine hl_a ?_ | refine hq_a ?_ | refine hl_nil ?_ | refine hq_nil ?_ | refine hq_ga ?_ | refine hq_sk ?_ | refine hq_su ?_ | refine hq_gT ?_ | refine hq_gF ?_ | refine hq_gd (fun h => ?_) (fun h => ?_) | refine hl_ga ?_ | refine hl_sk ?_ | refine hl_su ?_ | refine hl_gT ?_ | refine hl_gF ?_ | refine hl_gd (fun h => ?_) (fun h => ?_) | refine hx_next ?_ | refine hw_seq ?_ | refine hw_region ?_ | refine hw_block ?_ | refine hx_block ?_ | refine hw_tt ?_ | refine hw_ff ?_ | refine hw_iT ?_ | refine hw_iF ?_ | refine hw_skip ?_ | refine hw_ret ?_ | refine hw_exit ?_ | refine hx_then_ret ?_ | refine hx_block_ret ?_ | refine hx_then_exit ?_ | refine hx_block_here ?_ | refine hx_far ?_ | refine hx_any ?_ | (apply ha_end; decide +kernel))
    have hq1 := hlr f [rBlk bx #[.int .i64 (A : Int), .int .i64 (B : Int), .int .i64 len] 94] A hA
    have hq2 : Ld w [rRows 82 2 (Value.int .i64) u vs (mat s f), rBlk bx #[.int .i64 (A : Int), .int .i64 (B : Int), .int .i64 len] 94] (vAt (vs.getD A undef) B) (.int .i64 (f A B)) := ld_mat 0 rfl hvs hA hB rfl
    refine hw_g [rRows 82 2 (Value.int .i64) u vs (mat s f), rBlk bx #[.int .i64 (A : Int), .int .i64 (B : Int), .int .i64 len] 94] 20 (by kernel_rfl) ?_
    first | refine hg_t 0 ?_ | refine hg_tn 0 ?_
    first | refine hg_t 1 ?_ | refine hg_tn 1 ?_
    first | refine hg_t 2 ?_ | refine hg_tn 2 ?_
    first | refine hg_t 3 ?_ | refine hg_tn 3 ?_
    first | refine hg_t 4 ?_ | refine hg_tn 4 ?_
    first | refine hg_t 5 ?_ | refine hg_tn 5 ?_
    first | refine hg_t 6 ?_ | refine hg_tn 6 ?_
    first | refine hg_t 7 ?_ | refine hg_tn 7 ?_
    first | refine hg_t 8 ?_ | refine hg_tn 8 ?_
    first | refine hg_t 9 ?_ | refine hg_tn 9 ?_
    first | refine hg_t 10 ?_ | refine hg_tn 10 ?_
    first | refine hg_t 11 ?_ | refine hg_tn 11 ?_
    first | refine hg_t 12 ?_ | refine hg_tn 12 ?_
    first | refine hg_t 13 ?_ | refine hg_tn 13 ?_
    first | refine hg_t 14 ?_ | refine hg_tn 14 ?_
    first | refine hg_t 15 ?_ | refine hg_tn 15 ?_
    first | refine hg_t 16 ?_ | refine hg_tn 16 ?_
    first | refine hg_t 17 ?_ | refine hg_tn 17 ?_
    refine hg_1 18 (by decide +kernel) rfl ?_
    first | refine hl_q (by decide) (q_min (min (f A B) len) rfl rfl (by split <;> omega)) ?_ | refine hq_q (by decide) (q_min (min (f A B) len) rfl rfl (by split <;> omega)) ?_ | refine hl_g _ _ rfl rfl (by decide) (q_min (min (f A B) len) rfl rfl (by split <;> omega)) ?_ | refine hq_g _ _ rfl rfl (by decide) (q_min (min (f A B) len) rfl rfl (by split <;> omega)) ?_
    refine hl_nil ?_
    refine hx_hg (by first | exact fun w hm => hm.none | exact fun w hm => Mem.keep _ hm) ?_
    refine hg_1 19 (by decide +kernel) rfl ?_
    refine hl_a ?_
    refine hl_nil ?_
    refine hx_hg (by first | exact fun w hm => hm.none | exact fun w hm => Mem.keep _ hm) ?_
    refine hg_1 20 (by decide +kernel) rfl ?_
    refine hl_storeMat 0 A B (min (f A B) len) rfl hvs hA hB rfl rfl ?_
    refine hl_nil ?_
    refine hx_hgT rfl ?_
    refine hg_end (by decide +kernel) ?_
    repeat' (first | refine hl_a ?_ | refine hq_a ?_ | refine hl_nil ?_ | refine hq_nil ?_ | refine hq_ga ?_ | refine hq_sk ?_ | refine hq_su ?_ | refine hq_gT ?_ | refine hq_gF ?_ | refine hq_gd (fun h => ?_) (fun h => ?_) | refine hl_ga ?_ | refine hl_sk ?_ | refine hl_su ?_ | refine hl_gT ?_ | refine hl_gF ?_ | refine hl_gd (fun h => ?_) (fun h => ?_) | refine hx_next ?_ | refine hw_seq ?_ | refine hw_region ?_ | refine hw_block ?_ | refine hx_block ?_ | refine hw_tt ?_ | refine hw_ff ?_ | refine hw_iT ?_ | refine hw_iF ?_ | refine hw_skip ?_ | refine hw_ret ?_ | refine hw_exit ?_ | refine hx_then_ret ?_ | refine hx_block_ret ?_ | refine hx_then_exit ?_ | refine hx_block_here ?_ | refine hx_far ?_ | refine hx_any ?_ | (apply ha_end; decide +kernel))
    have hq3 := hlr (upd f A B (min (f A B) len)) [rBlk bx #[.int .i64 (A : Int), .int .i64 (B : Int), .int .i64 len] 94] A hA
    have hq4 := hlr (upd f A B (min (f A B) len)) [rBlk bx #[.int .i64 (A : Int), .int .i64 (B : Int), .int .i64 len] 94] B hB
    have hq5 : Ld w [rRows 82 2 (Value.int .i64) u vs (mat s (upd f A B (min (f A B) len))), rBlk bx #[.int .i64 (A : Int), .int .i64 (B : Int), .int .i64 len] 94] (vAt (vs.getD A undef) B) (.int .i64 (min (f A B) len)) := ld_mat 0 rfl hvs hA hB (by unfold upd; rw [if_pos ⟨rfl, rfl⟩])
    refine hw_g [rRows 82 2 (Value.int .i64) u vs (mat s (upd f A B (min (f A B) len))), rBlk bx #[.int .i64 (A : Int), .int .i64 (B : Int), .int .i64 len] 94] 17 (by kernel_rfl) ?_
    first | refine hg_t 0 ?_ | refine hg_tn 0 ?_
    first | refine hg_t 1 ?_ | refine hg_tn 1 ?_
    first | refine hg_t 2 ?_ | refine hg_tn 2 ?_
    first | refine hg_t 3 ?_ | refine hg_tn 3 ?_
    first | refine hg_t 4 ?_ | refine hg_tn 4 ?_
    first | refine hg_t 5 ?_ | refine hg_tn 5 ?_
    first | refine hg_t 6 ?_ | refine hg_tn 6 ?_
    first | refine hg_t 7 ?_ | refine hg_tn 7 ?_
    first | refine hg_t 8 ?_ | refine hg_tn 8 ?_
    first | refine hg_t 9 ?_ | refine hg_tn 9 ?_
    first | refine hg_t 10 ?_ | refine hg_tn 10 ?_
    first | refine hg_t 11 ?_ | refine hg_tn 11 ?_
    first | refine hg_t 12 ?_ | refine hg_tn 12 ?_
    first | refine hg_t 13 ?_ | refine hg_tn 13 ?_
    first | refine hg_t 14 ?_ | refine hg_tn 14 ?_
    first | refine hg_t 15 ?_ | refine hg_tn 15 ?_
    refine hg_1 16 (by decide +kernel) rfl ?_
    refine hl_a ?_
    refine hl_nil ?_
    refine hx_hg (by first | exact fun w hm => hm.none | exact fun w hm => Mem.keep _ hm) ?_
    refine hg_1 17 (by decide +kernel) rfl ?_
    refine hl_storeMat 0 B A (min (f A B) len) rfl hvs hB hA rfl rfl ?_
    refine hl_nil ?_
    refine hx_hgT rfl ?_
    refine hg_end (by decide +kernel) ?_
    repeat' (first | refine hl_a ?_ | refine hq_a ?_ | refine hl_nil ?_ | refine hq_nil ?_ | refine hq_ga ?_ | refine hq_sk ?_ | refine hq_su ?_ | refine hq_gT ?_ | refine hq_gF ?_ | refine hq_gd (fun h => ?_) (fun h => ?_) | refine hl_ga ?_ | refine hl_sk ?_ | refine hl_su ?_ | refine hl_gT ?_ | refine hl_gF ?_ | refine hl_gd (fun h => ?_) (fun h => ?_) | refine hx_next ?_ | refine hw_seq ?_ | refine hw_region ?_ | refine hw_block ?_ | refine hx_block ?_ | refine hw_tt ?_ | refine hw_ff ?_ | refine hw_iT ?_ | refine hw_iF ?_ | refine hw_skip ?_ | refine hw_ret ?_ | refine hw_exit ?_ | refine hx_then_ret ?_ | refine hx_block_ret ?_ | refine hx_then_exit ?_ | refine hx_block_here ?_ | refine hx_far ?_ | refine hx_any ?_ | (apply ha_end; decide +kernel))
    refine hx_mem (rs' := [rRows 82 2 (Value.int .i64) u vs (mat s (wf 600 rds (i + 1)))]) (fun w hm => by rw [hwf, hadd]; exact hm.pick [0] (by decide) rfl) ?_
    refine hx_round ⟨i + 1, rfl, hi2, fun j hj => ?_, rfl, rfl⟩ (by omega) ⟨rfl, rfl, rfl, rfl, rfl, trivial⟩
    by_cases e : j = i
    · rw [e, hr9]; exact hok
    · exact hall j (by omega)
  have e : i = rds.length := by omega
  subst e
  have hRl : RlOk (s : Int) rds := ⟨h1, h2, fun i hi => by rw [Int.toNat_natCast]; exact hall i hi⟩
  have htb : Tbl s 600 (wf 600 rds rds.length) := wf_tbl (by decide) hall _ (Nat.le_refl _)
  have hnn := htb.nonneg (by decide)
  have hdg := htb.diag
  have hbd := htb.bd (by decide)
  have hfarb : (600 : Int) ≤ 1073741824 := by decide
  have hnear : RlCon (s : Int) rds → ∀ {p q : Nat}, p < s → q < s → fw (wf 600 rds rds.length) s p q = rlF (s : Int) rds p q ∧ rlF (s : Int) rds p q ≤ 500 := fun hc p q hp hq => by
    have := hRl.near hc (s := p) (t := q) (by rw [Int.toNat_natCast]; exact hp) (by rw [Int.toNat_natCast]; exact hq)
    rwa [Int.toNat_natCast] at this
  have hfar : ¬ RlCon (s : Int) rds → ∃ t, t < s ∧ 600 ≤ fw (wf 600 rds rds.length) s 0 t := fun hc => by
    have := hRl.far hc
    rwa [Int.toNat_natCast] at this
  generalize hW : wf 600 rds rds.length = W at *
  repeat' (first | refine hl_a ?_ | refine hq_a ?_ | refine hl_nil ?_ | refine hq_nil ?_ | refine hq_ga ?_ | refine hq_sk ?_ | refine hq_su ?_ | refine hq_gT ?_ | refine hq_gF ?_ | refine hq_gd (fun h => ?_) (fun h => ?_) | refine hl_ga ?_ | refine hl_sk ?_ | refine hl_su ?_ | refine hl_gT ?_ | refine hl_gF ?_ | refine hl_gd (fun h => ?_) (fun h => ?_) | refine hx_next ?_ | refine hw_seq ?_ | refine hw_region ?_ | refine hw_dr ?_ | refine hw_block ?_ | refine hx_block ?_ | refine hw_tt ?_ | refine hw_ff ?_ | refine hw_iT ?_ | refine hw_iF ?_ | refine hw_skip ?_ | refine hw_ret ?_ | refine hw_exit ?_ | refine hx_then_ret ?_ | refine hx_block_ret ?_ | refine hx_then_exit ?_ | refine hx_block_here ?_ | refine hx_far ?_ | refine hx_any ?_ | (apply ha_end; decide +kernel))
  refine hw_loop (fun e r m => ∃ k : Nat, r = [rRows 82 2 (Value.int .i64) u vs (mat s (fw W k))] ∧ k ≤ s ∧ m = s - k ∧ e = [(0, .int .i64 (s : Int)), (6, u), (121, .int .i64 (s : Int)), (122, .int .i64 (k : Int))])
    ⟨0, rfl, Nat.zero_le _, rfl, rfl⟩ ⟨rfl, rfl, rfl, rfl, trivial⟩ ?_
  rintro _ _ _ ⟨k, rfl, hk, rfl, rfl⟩
  repeat' (first | refine hl_a ?_ | refine hq_a ?_ | refine hl_nil ?_ | refine hq_nil ?_ | refine hq_ga ?_ | refine hq_sk ?_ | refine hq_su ?_ | refine hq_gT ?_ | refine hq_gF ?_ | refine hq_gd (fun h => ?_) (fun h => ?_) | refine hl_ga ?_ | refine hl_sk ?_ | refine hl_su ?_ | refine hl_gT ?_ | refine hl_gF ?_ | refine hl_gd (fun h => ?_) (fun h => ?_) | refine hx_next ?_ | refine hw_seq ?_ | refine hw_region ?_ | refine hw_dr ?_ | refine hw_block ?_ | refine hx_block ?_ | refine hw_tt ?_ | refine hw_ff ?_ | refine hw_iT ?_ | refine hw_iF ?_ | refine hw_skip ?_ | refine hw_ret ?_ | refine hw_exit ?_ | refine hx_then_ret ?_ | refine hx_block_ret ?_ | refine hx_then_exit ?_ | refine hx_block_here ?_ | refine hx_far ?_ | refine hx_any ?_ | (apply ha_end; decide +kernel))
  refine hw_if rfl (fun hltk => ?_) (fun hgek => ?_)
  · have hk2 : k < s := by omega
    repeat' (first | refine hl_a ?_ | refine hq_a ?_ | refine hl_nil ?_ | refine hq_nil ?_ | refine hq_ga ?_ | refine hq_sk ?_ | refine hq_su ?_ | refine hq_gT ?_ | refine hq_gF ?_ | refine hq_gd (fun h => ?_) (fun h => ?_) | refine hl_ga ?_ | refine hl_sk ?_ | refine hl_su ?_ | refine hl_gT ?_ | refine hl_gF ?_ | refine hl_gd (fun h => ?_) (fun h => ?_) | refine hx_next ?_ | refine hw_seq ?_ | refine hw_region ?_ | refine hw_dr ?_ | refine hw_block ?_ | refine hx_block ?_ | refine hw_tt ?_ | refine hw_ff ?_ | refine hw_iT ?_ | refine hw_iF ?_ | refine hw_skip ?_ | refine hw_ret ?_ | refine hw_exit ?_ | refine hx_then_ret ?_ | refine hx_block_ret ?_ | refine hx_then_exit ?_ | refine hx_block_here ?_ | refine hx_far ?_ | refine hx_any ?_ | (apply ha_end; decide +kernel))
    rw [← mix_0 W k]
    refine hw_loop (fun e r m => ∃ p : Nat, r = [rRows 82 2 (Value.int .i64) u vs (mat s (mix W k p 0))] ∧ p ≤ s ∧ m = s - p ∧ e = [(0, .int .i64 (s : Int)), (6, u), (12, .int .i64 (k : Int)), (121, .int .i64 (s : Int)), (122, .int .i64 (k : Int)), (125, .int .i64 (s : Int)), (126, .int .i64 (p : Int))])
      ⟨0, rfl, Nat.zero_le _, rfl, rfl⟩ ⟨rfl, rfl, rfl, rfl, rfl, rfl, rfl, trivial⟩ ?_
    rintro _ _ _ ⟨p, rfl, hp, rfl, rfl⟩
    repeat' (first | refine hl_a ?_ | refine hq_a ?_ | refine hl_nil ?_ | refine hq_nil ?_ | refine hq_ga ?_ | refine hq_sk ?_ | refine hq_su ?_ | refine hq_gT ?_ | refine hq_gF ?_ | refine hq_gd (fun h => ?_) (fun h => ?_) | refine hl_ga ?_ | refine hl_sk ?_ | refine hl_su ?_ | refine hl_gT ?_ | refine hl_gF ?_ | refine hl_gd (fun h => ?_) (fun h => ?_) | refine hx_next ?_ | refine hw_seq ?_ | refine hw_region ?_ | refine hw_dr ?_ | refine hw_block ?_ | refine hx_block ?_ | refine hw_tt ?_ | refine hw_ff ?_ | refine hw_iT ?_ | refine hw_iF ?_ | refine hw_skip ?_ | refine hw_ret ?_ | refine hw_exit ?_ | refine hx_then_ret ?_ | refine hx_block_ret ?_ | refine hx_then_exit ?_ | refine hx_block_here ?_ | refine hx_far ?_ | refine hx_any ?_ | (apply ha_end; decide +kernel))
    refine hw_if rfl (fun hltp => ?_) (fun hgep => ?_)
    · have hp2 : p < s := by omega
      repeat' (first | refine hl_a ?_ | refine hq_a ?_ | refine hl_nil ?_ | refine hq_nil ?_ | refine hq_ga ?_ | refine hq_sk ?_ | refine hq_su ?_ | refine hq_gT ?_ | refine hq_gF ?_ | refine hq_gd (fun h => ?_) (fun h => ?_) | refine hl_ga ?_ | refine hl_sk ?_ | refine hl_su ?_ | refine hl_gT ?_ | refine hl_gF ?_ | refine hl_gd (fun h => ?_) (fun h => ?_) | refine hx_next ?_ | refine hw_seq ?_ | refine hw_region ?_ | refine hw_dr ?_ | refine hw_block ?_ | refine hx_block ?_ | refine hw_tt ?_ | refine hw_ff ?_ | refine hw_iT ?_ | refine hw_iF ?_ | refine hw_skip ?_ | refine hw_ret ?_ | refine hw_exit ?_ | refine hx_then_ret ?_ | refine hx_block_ret ?_ | refine hx_then_exit ?_ | refine hx_block_here ?_ | refine hx_far ?_ | refine hx_any ?_ | (apply ha_end; decide +kernel))
      refine hw_loop (fun e r m => ∃ t : Nat, r = [rRows 82 2 (Value.int .i64) u vs (mat s (mix W k p t))] ∧ t ≤ s ∧ m = s - t ∧ e = [(0, .int .i64 (s : Int)), (6, u), (12, .int .i64 (k : Int)), (13, .int .i64 (p : Int)), (121, .int .i64 (s : Int)), (122, .int .i64 (k : Int)), (125, .int .i64 (s : Int)), (126, .int .i64 (p : Int)), (129, .int .i64 (s : Int)), (130, .int .i64 (t : Int))])
        ⟨0, rfl, Nat.zero_le _, rfl, rfl⟩ ⟨rfl, rfl, rfl, rfl, rfl, rfl, rfl, rfl, rfl, rfl, trivial⟩ ?_
      rintro _ _ _ ⟨t, rfl, ht, rfl, rfl⟩
      repeat' (first | refine hl_a ?_ | refine hq_a ?_ | refine hl_nil ?_ | refine hq_nil ?_ | refine hq_ga ?_ | refine hq_sk ?_ | refine hq_su ?_ | refine hq_gT ?_ | refine hq_gF ?_ | refine hq_gd (fun h => ?_) (fun h => ?_) | refine hl_ga ?_ | refine hl_sk ?_ | refine hl_su ?_ | refine hl_gT ?_ | refine hl_gF ?_ | refine hl_gd (fun h => ?_) (fun h => ?_) | refine hx_next ?_ | refine hw_seq ?_ | refine hw_region ?_ | refine hw_block ?_ | refine hx_block ?_ | refine hw_tt ?_ | refine hw_ff ?_ | refine hw_iT ?_ | refine hw_iF ?_ | refine hw_skip ?_ | refine hw_ret ?_ | refine hw_exit ?_ | refine hx_then_ret ?_ | refine hx_block_ret ?_ | refine hx_then_exit ?_ | refine hx_block_here ?_ | refine hx_far ?_ | refine hx_any ?_ | (apply ha_end; decide +kernel))
      refine hw_if rfl (fun hltt => ?_) (fun hget => ?_)
      · have ht2 : t < s := by omega
        have hrp := hrow p hp2
        have hrk := hrow k hk2
        have b1 := hbd k p k
        have b2 := hbd k k t
        have q1 := hlr (mix W k p t) [] p hp2
        have q2 := hlr (mix W k p t) [] k hk2
        have q3 : Ld w [rRows 82 2 (Value.int .i64) u vs (mat s (mix W k p t))] (vAt (vs.getD p undef) t) (.int .i64 (fw W k p t)) := ld_mat 0 rfl hvs hp2 ht2 (mix_st W k p t)
        have q4 : Ld w [rRows 82 2 (Value.int .i64) u vs (mat s (mix W k p t))] (vAt (vs.getD p undef) k) (.int .i64 (fw W k p k)) := ld_mat 0 rfl hvs hp2 hk2 (mix_sk hnn hdg k p t)
        have q5 : Ld w [rRows 82 2 (Value.int .i64) u vs (mat s (mix W k p t))] (vAt (vs.getD k undef) t) (.int .i64 (fw W k k t)) := ld_mat 0 rfl hvs hk2 ht2 (mix_kt hnn hdg k p t)
        have hfw : min (fw W k p t) (fw W k p k + fw W k k t) = fw W (k + 1) p t := rfl
        repeat' (first | refine hl_a ?_ | refine hq_a ?_ | refine hl_nil ?_ | refine hq_nil ?_ | refine hq_ga ?_ | refine hq_sk ?_ | refine hq_su ?_ | refine hq_gT ?_ | refine hq_gF ?_ | refine hq_gd (fun h => ?_) (fun h => ?_) | refine hl_ga ?_ | refine hl_sk ?_ | refine hl_su ?_ | refine hl_gT ?_ | refine hl_gF ?_ | refine hl_gd (fun h => ?_) (fun h => ?_) | refine hx_next ?_ | refine hw_seq ?_ | refine hw_region ?_ | refine hw_block ?_ | refine hx_block ?_ | refine hw_tt ?_ | refine hw_ff ?_ | refine hw_iT ?_ | refine hw_iF ?_ | refine hw_skip ?_ | refine hw_ret ?_ | refine hw_exit ?_ | refine hx_then_ret ?_ | refine hx_block_ret ?_ | refine hx_then_exit ?_ | refine hx_block_here ?_ | refine hx_far ?_ | refine hx_any ?_ | (apply ha_end; decide +kernel))
        refine hw_g [rRows 82 2 (Value.int .i64) u vs (mat s (mix W k p t))] 29 (by kernel_rfl) ?_
        first | refine hg_t 0 ?_ | refine hg_tn 0 ?_
        first | refine hg_t 1 ?_ | refine hg_tn 1 ?_
        first | refine hg_t 2 ?_ | refine hg_tn 2 ?_
        first | refine hg_t 3 ?_ | refine hg_tn 3 ?_
        first | refine hg_t 4 ?_ | refine hg_tn 4 ?_
        first | refine hg_t 5 ?_ | refine hg_tn 5 ?_
        first | refine hg_t 6 ?_ | refine hg_tn 6 ?_
        first | refine hg_t 7 ?_ | refine hg_tn 7 ?_
        first | refine hg_t 8 ?_ | refine hg_tn 8 ?_
        first | refine hg_t 9 ?_ | refine hg_tn 9 ?_
        first | refine hg_t 10 ?_ | refine hg_tn 10 ?_
        first | refine hg_t 11 ?_ | refine hg_tn 11 ?_
        first | refine hg_t 12 ?_ | refine hg_tn 12 ?_
        first | refine hg_t 13 ?_ | refine hg_tn 13 ?_
        first | refine hg_t 14 ?_ | refine hg_tn 14 ?_
        first | refine hg_t 15 ?_ | refine hg_tn 15 ?_
        first | refine hg_t 16 ?_ | refine hg_tn 16 ?_
        first | refine hg_t 17 ?_ | refine hg_tn 17 ?_
        first | refine hg_t 18 ?_ | refine hg_tn 18 ?_
        first | refine hg_t 19 ?_ | refine hg_tn 19 ?_
        first | refine hg_t 20 ?_ | refine hg_tn 20 ?_
        first | refine hg_t 21 ?_ | refine hg_tn 21 ?_
        first | refine hg_t 22 ?_ | refine hg_tn 22 ?_
        first | refine hg_t 23 ?_ | refine hg_tn 23 ?_
        first | refine hg_t 24 ?_ | refine hg_tn 24 ?_
        first | refine hg_t 25 ?_ | refine hg_tn 25 ?_
        first | refine hg_t 26 ?_ | refine hg_tn 26 ?_
        refine hg_1 27 (by decide +kernel) rfl ?_
        first | refine hl_q (by decide) (q_min (fw W (k + 1) p t) rfl rfl (by rw [← hfw]; split <;> omega)) ?_ | refine hq_q (by decide) (q_min (fw W (k + 1) p t) rfl rfl (by rw [← hfw]; split <;> omega)) ?_ | refine hl_g _ _ rfl rfl (by decide) (q_min (fw W (k + 1) p t) rfl rfl (by rw [← hfw]; split <;> omega)) ?_ | refine hq_g _ _ rfl rfl (by decide) (q_min (fw W (k + 1) p t) rfl rfl (by rw [← hfw]; split <;> omega)) ?_
        refine hl_nil ?_
        refine hx_hg (by first | exact fun w hm => hm.none | exact fun w hm => Mem.keep _ hm) ?_
        refine hg_1 28 (by decide +kernel) rfl ?_
        refine hl_a ?_
        refine hl_nil ?_
        refine hx_hg (by first | exact fun w hm => hm.none | exact fun w hm => Mem.keep _ hm) ?_
        refine hg_1 29 (by decide +kernel) rfl ?_
        refine hl_storeMat 0 p t (fw W (k + 1) p t) rfl hvs hp2 ht2 rfl rfl ?_
        refine hl_nil ?_
        refine hx_hgT rfl ?_
        refine hg_end (by decide +kernel) ?_
        rw [mix_upd]
        repeat' (first | refine hl_a ?_ | refine hq_a ?_ | refine hl_nil ?_ | refine hq_nil ?_ | refine hq_ga ?_ | refine hq_sk ?_ | refine hq_su ?_ | refine hq_gT ?_ | refine hq_gF ?_ | refine hq_gd (fun h => ?_) (fun h => ?_) | refine hl_ga ?_ | refine hl_sk ?_ | refine hl_su ?_ | refine hl_gT ?_ | refine hl_gF ?_ | refine hl_gd (fun h => ?_) (fun h => ?_) | refine hx_next ?_ | refine hw_seq ?_ | refine hw_region ?_ | refine hw_dr ?_ | refine hw_block ?_ | refine hx_block ?_ | refine hw_tt ?_ | refine hw_ff ?_ | refine hw_iT ?_ | refine hw_iF ?_ | refine hw_skip ?_ | refine hw_ret ?_ | refine hw_exit ?_ | refine hx_then_ret ?_ | refine hx_block_ret ?_ | refine hx_then_exit ?_ | refine hx_block_here ?_ | refine hx_far ?_ | refine hx_any ?_ | (apply ha_end; decide +kernel))
        refine hx_round ⟨t + 1, rfl, ht2, rfl, rfl⟩ (by omega) ⟨rfl, rfl, rfl, rfl, rfl, rfl, rfl, rfl, rfl, rfl, trivial⟩
      · have e : t = s := by omega
        subst e
        rw [mix_row]
        repeat' (first | refine hl_a ?_ | refine hq_a ?_ | refine hl_nil ?_ | refine hq_nil ?_ | refine hq_ga ?_ | refine hq_sk ?_ | refine hq_su ?_ | refine hq_gT ?_ | refine hq_gF ?_ | refine hq_gd (fun h => ?_) (fun h => ?_) | refine hl_ga ?_ | refine hl_sk ?_ | refine hl_su ?_ | refine hl_gT ?_ | refine hl_gF ?_ | refine hl_gd (fun h => ?_) (fun h => ?_) | refine hx_next ?_ | refine hw_seq ?_ | refine hw_region ?_ | refine hw_dr ?_ | refine hw_block ?_ | refine hx_block ?_ | refine hw_tt ?_ | refine hw_ff ?_ | refine hw_iT ?_ | refine hw_iF ?_ | refine hw_skip ?_ | refine hw_ret ?_ | refine hw_exit ?_ | refine hx_then_ret ?_ | refine hx_block_ret ?_ | refine hx_then_exit ?_ | refine hx_block_here ?_ | refine hx_far ?_ | refine hx_any ?_ | (apply ha_end; decide +kernel))
        refine hx_round ⟨p + 1, rfl, hp2, rfl, rfl⟩ (by omega) ⟨rfl, rfl, rfl, rfl, rfl, rfl, rfl, trivial⟩
    · have e : p = s := by omega
      subst e
      rw [mix_n]
      repeat' (first | refine hl_a ?_ | refine hq_a ?_ | refine hl_nil ?_ | refine hq_nil ?_ | refine hq_ga ?_ | refine hq_sk ?_ | refine hq_su ?_ | refine hq_gT ?_ | refine hq_gF ?_ | refine hq_gd (fun h => ?_) (fun h => ?_) | refine hl_ga ?_ | refine hl_sk ?_ | refine hl_su ?_ | refine hl_gT ?_ | refine hl_gF ?_ | refine hl_gd (fun h => ?_) (fun h => ?_) | refine hx_next ?_ | refine hw_seq ?_ | refine hw_region ?_ | refine hw_dr ?_ | refine hw_block ?_ | refine hx_block ?_ | refine hw_tt ?_ | refine hw_ff ?_ | refine hw_iT ?_ | refine hw_iF ?_ | refine hw_skip ?_ | refine hw_ret ?_ | refine hw_exit ?_ | refine hx_then_ret ?_ | refine hx_block_ret ?_ | refine hx_then_exit ?_ | refine hx_block_here ?_ | refine hx_far ?_ | refine hx_any ?_ | (apply ha_end; decide +kernel))
      refine hx_round ⟨k + 1, rfl, hk2, rfl, rfl⟩ (by omega) ⟨rfl, rfl, rfl, rfl, trivial⟩
  have e : k = s := by omega
  subst e
  repeat' (first | refine hl_a ?_ | refine hq_a ?_ | refine hl_nil ?_ | refine hq_nil ?_ | refine hq_ga ?_ | refine hq_sk ?_ | refine hq_su ?_ | refine hq_gT ?_ | refine hq_gF ?_ | refine hq_gd (fun h => ?_) (fun h => ?_) | refine hl_ga ?_ | refine hl_sk ?_ | refine hl_su ?_ | refine hl_gT ?_ | refine hl_gF ?_ | refine hl_gd (fun h => ?_) (fun h => ?_) | refine hx_next ?_ | refine hw_seq ?_ | refine hw_region ?_ | refine hw_dr ?_ | refine hw_block ?_ | refine hx_block ?_ | refine hw_tt ?_ | refine hw_ff ?_ | refine hw_iT ?_ | refine hw_iF ?_ | refine hw_skip ?_ | refine hw_ret ?_ | refine hw_exit ?_ | refine hx_then_ret ?_ | refine hx_block_ret ?_ | refine hx_then_exit ?_ | refine hx_block_here ?_ | refine hx_far ?_ | refine hx_any ?_ | (apply ha_end; decide +kernel))
  refine hw_loop (fun e r m => r = [rRows 82 2 (Value.int .i64) u vs (mat k (fw W k))] ∧ ∃ t : Nat, t ≤ k ∧ (∀ j, j < t → ∀ q, q < k → fw W k j q < 600) ∧ m = k - t ∧ e = [(6, u), (165, u), (166, .int .i64 (k : Int)), (167, .int .i64 (t : Int))])
    ⟨rfl, 0, Nat.zero_le _, by omega, rfl, rfl⟩ ⟨rfl, rfl, rfl, rfl, trivial⟩ ?_
  rintro _ _ _ ⟨rfl, t, ht, hall2, rfl, rfl⟩
  repeat' (first | refine hl_a ?_ | refine hq_a ?_ | refine hl_nil ?_ | refine hq_nil ?_ | refine hq_ga ?_ | refine hq_sk ?_ | refine hq_su ?_ | refine hq_gT ?_ | refine hq_gF ?_ | refine hq_gd (fun h => ?_) (fun h => ?_) | refine hl_ga ?_ | refine hl_sk ?_ | refine hl_su ?_ | refine hl_gT ?_ | refine hl_gF ?_ | refine hl_gd (fun h => ?_) (fun h => ?_) | refine hx_next ?_ | refine hw_seq ?_ | refine hw_region ?_ | refine hw_dr ?_ | refine hw_block ?_ | refine hx_block ?_ | refine hw_tt ?_ | refine hw_ff ?_ | refine hw_iT ?_ | refine hw_iF ?_ | refine hw_skip ?_ | refine hw_ret ?_ | refine hw_exit ?_ | refine hx_then_ret ?_ | refine hx_block_ret ?_ | refine hx_then_exit ?_ | refine hx_block_here ?_ | refine hx_far ?_ | refine hx_any ?_ | (apply ha_end; decide +kernel))
  refine hw_if rfl (fun hltt => ?_) (fun hget => ?_)
  · have ht2 : t < k := by omega
    have q1 := hlr (fw W k) [] t ht2
    have hml : ((mat k (fw W k)).getD t []).length = k := by rw [mat_row _ _ _ ht2, tab_length]
    have hge2 : ∀ q, q < k → fw W k t q ≤ maxI ((mat k (fw W k)).getD t []) ((mat k (fw W k)).getD t []).length := fun q hq => by
      have := maxI_ge ((mat k (fw W k)).getD t []) ((mat k (fw W k)).getD t []).length q (by omega)
      rwa [mat_at _ _ ht2 hq] at this
    have hat : ∃ q, q < k ∧ maxI ((mat k (fw W k)).getD t []) ((mat k (fw W k)).getD t []).length = fw W k t q := by
      obtain ⟨q, hq, he⟩ := maxI_at ((mat k (fw W k)).getD t []) (by omega) ((mat k (fw W k)).getD t []).length (Nat.le_refl _)
      exact ⟨q, by omega, by rw [he, mat_at _ _ ht2 (by omega)]⟩
    repeat' (first | refine hl_a ?_ | refine hq_a ?_ | refine hl_nil ?_ | refine hq_nil ?_ | refine hq_ga ?_ | refine hq_sk ?_ | refine hq_su ?_ | refine hq_gT ?_ | refine hq_gF ?_ | refine hq_gd (fun h => ?_) (fun h => ?_) | refine hl_ga ?_ | refine hl_sk ?_ | refine hl_su ?_ | refine hl_gT ?_ | refine hl_gF ?_ | refine hl_gd (fun h => ?_) (fun h => ?_) | refine hx_next ?_ | refine hw_seq ?_ | refine hw_region ?_ | refine hw_dr ?_ | refine hw_block ?_ | refine hx_block ?_ | refine hw_tt ?_ | refine hw_ff ?_ | refine hw_iT ?_ | refine hw_iF ?_ | refine hw_skip ?_ | refine hw_ret ?_ | refine hw_exit ?_ | refine hx_then_ret ?_ | refine hx_block_ret ?_ | refine hx_then_exit ?_ | refine hx_block_here ?_ | refine hx_far ?_ | refine hx_any ?_ | (apply ha_end; decide +kernel))
    first | refine hl_q (by decide) (q_call (fun w hm => slicesMax_c (vs.getD t undef) ((mat k (fw W k)).getD t []) (by omega) w ((hm.rdS 0 rfl (by rw [mat_length]; exact hvs) 0).row t (by rw [mat_length]; exact ht2))) rfl) ?_ | refine hq_q (by decide) (q_call (fun w hm => slicesMax_c (vs.getD t undef) ((mat k (fw W k)).getD t []) (by omega) w ((hm.rdS 0 rfl (by rw [mat_length]; exact hvs) 0).row t (by rw [mat_length]; exact ht2))) rfl) ?_ | refine hl_g _ _ rfl rfl (by decide) (q_call (fun w hm => slicesMax_c (vs.getD t undef) ((mat k (fw W k)).getD t []) (by omega) w ((hm.rdS 0 rfl (by rw [mat_length]; exact hvs) 0).row t (by rw [mat_length]; exact ht2))) rfl) ?_ | refine hq_g _ _ rfl rfl (by decide) (q_call (fun w hm => slicesMax_c (vs.getD t undef) ((mat k (fw W k)).getD t []) (by omega) w ((hm.rdS 0 rfl (by rw [mat_length]; exact hvs) 0).row t (by rw [mat_length]; exact ht2))) rfl) ?_
    generalize maxI ((mat k (fw W k)).getD t []) ((mat k (fw W k)).getD t []).length = M at hge2 hat
    rcases Int.lt_or_le M 600 with hb | hb
    · have hb' : ¬ (600 ≤ M) := by omega
      repeat' (first | refine hl_a ?_ | refine hq_a ?_ | refine hl_nil ?_ | refine hq_nil ?_ | refine hq_ga ?_ | refine hq_sk ?_ | refine hq_su ?_ | refine hq_gT ?_ | refine hq_gF ?_ | refine hq_gd (fun h => ?_) (fun h => ?_) | refine hl_ga ?_ | refine hl_sk ?_ | refine hl_su ?_ | refine hl_gT ?_ | refine hl_gF ?_ | refine hl_gd (fun h => ?_) (fun h => ?_) | refine hx_next ?_ | refine hw_seq ?_ | refine hw_region ?_ | refine hw_dr ?_ | refine hw_block ?_ | refine hx_block ?_ | refine hw_tt ?_ | refine hw_ff ?_ | refine hw_iT ?_ | refine hw_iF ?_ | refine hw_skip ?_ | refine hw_ret ?_ | refine hw_exit ?_ | refine hx_then_ret ?_ | refine hx_block_ret ?_ | refine hx_then_exit ?_ | refine hx_block_here ?_ | refine hx_far ?_ | refine hx_any ?_ | (apply ha_end; decide +kernel))
      refine hx_round ⟨rfl, t + 1, ht2, fun j hj q hq => ?_, rfl, rfl⟩ (by omega) ⟨rfl, rfl, rfl, rfl, trivial⟩
      by_cases e : j = t
      · rw [e]; have := hge2 q hq; omega
      · exact hall2 j (by omega) q hq
    · obtain ⟨q, hq, he⟩ := hat
      have hnc : ¬ RlCon (k : Int) rds := fun e => by have := hnear e ht2 hq; omega
      have hC : rlC (k : Int) rds = 4 := by rw [rlC, if_pos hRl, if_neg hnc]
      have hX : rlX (k : Int) rds = [] := by rw [rlX, if_pos hRl, if_neg hnc]
      repeat' (first | refine hl_a ?_ | refine hq_a ?_ | refine hl_nil ?_ | refine hq_nil ?_ | refine hq_ga ?_ | refine hq_sk ?_ | refine hq_su ?_ | refine hq_gT ?_ | refine hq_gF ?_ | refine hq_gd (fun h => ?_) (fun h => ?_) | refine hl_ga ?_ | refine hl_sk ?_ | refine hl_su ?_ | refine hl_gT ?_ | refine hl_gF ?_ | refine hl_gd (fun h => ?_) (fun h => ?_) | refine hx_next ?_ | refine hw_seq ?_ | refine hw_region ?_ | refine hw_dr ?_ | refine hw_block ?_ | refine hx_block ?_ | refine hw_tt ?_ | refine hw_ff ?_ | refine hw_iT ?_ | refine hw_iF ?_ | refine hw_skip ?_ | refine hw_ret ?_ | refine hw_exit ?_ | refine hx_then_ret ?_ | refine hx_block_ret ?_ | refine hx_then_exit ?_ | refine hx_block_here ?_ | refine hx_far ?_ | refine hx_any ?_ | (apply ha_end; decide +kernel))
      exact hx_ret2 rfl rfl rfl (fun w hm => ⟨_, _, rfl, rows_nil 82 2 (Value.int .i64) hm.none, _, [], by rw [hC], by rw [hX]; rfl, by rw [hX]; rfl, by rw [hX]; exact nil_ok⟩)
  · have hc : RlCon (k : Int) rds := Classical.byContradiction fun hnc => by
      obtain ⟨q, hq, hb⟩ := hfar hnc
      have := hall2 0 (by omega) q hq
      omega
    have hC : rlC (k : Int) rds = 0 := by rw [rlC, if_pos hRl, if_pos hc]
    have hX : rlX (k : Int) rds = mat k (fw W k) := by
      rw [rlX, if_pos hRl, if_pos hc, Int.toNat_natCast]
      exact mat_congr k (rlF (k : Int) rds) (fw W k) (fun p q hp hq => (hnear hc hp hq).1.symm)
    repeat' (first | refine hl_a ?_ | refine hq_a ?_ | refine hl_nil ?_ | refine hq_nil ?_ | refine hq_ga ?_ | refine hq_sk ?_ | refine hq_su ?_ | refine hq_gT ?_ | refine hq_gF ?_ | refine hq_gd (fun h => ?_) (fun h => ?_) | refine hl_ga ?_ | refine hl_sk ?_ | refine hl_su ?_ | refine hl_gT ?_ | refine hl_gF ?_ | refine hl_gd (fun h => ?_) (fun h => ?_) | refine hx_next ?_ | refine hw_seq ?_ | refine hw_region ?_ | refine hw_dr ?_ | refine hw_block ?_ | refine hx_block ?_ | refine hw_tt ?_ | refine hw_ff ?_ | refine hw_iT ?_ | refine hw_iF ?_ | refine hw_skip ?_ | refine hw_ret ?_ | refine hw_exit ?_ | refine hx_then_ret ?_ | refine hx_block_ret ?_ | refine hx_then_exit ?_ | refine hx_block_here ?_ | refine hx_far ?_ | refine hx_any ?_ | (apply ha_end; decide +kernel))
    exact hx_ret2 rfl rfl rfl (fun w hm => ⟨_, _, rfl, hm, u, vs, by rw [hC], by rw [hX], by rw [hX, mat_length]; exact hvs, by rw [hX, mat_length]; exact hu⟩)
theorem implRoadLengths_c (st : Int) (v : Value) (rds : List RoadR) (w : World) (hst : I64 st) (hr : RdR w v rds) : Gives Try.prog 25 [.int .i64 st, v] w (L2Out 82 2 (rlX st rds) (rlC st rds)) := by
  refine calls_hw Try.func25 Try.ntmps25 rfl rfl ?_
  repeat' (first | refine hl_a ?_ | refine hq_a ?_ | refine hl_nil ?_ | refine hq_nil ?_ | refine hq_ga ?_ | refine hq_sk ?_ | refine hq_su ?_ | refine hq_gT ?_ | refine hq_gF ?_ | refine hq_gd (fun h => ?_) (fun h => ?_) | refine hl_ga ?_ | refine hl_sk ?_ | refine hl_su ?_ | refine hl_gT ?_ | refine hl_gF ?_ | refine hl_gd (fun h => ?_) (fun h => ?_) | refine hx_next ?_ | refine hw_seq ?_ | refine hw_region ?_ | refine hw_dr ?_ | refine hw_block ?_ | refine hx_block ?_ | refine hw_tt ?_ | refine hw_ff ?_ | refine hw_iT ?_ | refine hw_iF ?_ | refine hw_skip ?_ | refine hw_ret ?_ | refine hw_exit ?_ | refine hx_then_ret ?_ | refine hx_block_ret ?_ | refine hx_then_exit ?_ | refine hx_block_here ?_ | refine hx_far ?_ | refine hx_any ?_ | (apply ha_end; decide +kernel))
  refine hl_call (by decide) (fun w hm => roadLengths_c st v rds w hst (hr.up hm.below)) rfl ?_
  rintro _ _ ⟨u, vs, rfl, rfl, hl, hu⟩
  repeat' (first | refine hl_a ?_ | refine hq_a ?_ | refine hl_nil ?_ | refine hq_nil ?_ | refine hq_ga ?_ | refine hq_sk ?_ | refine hq_su ?_ | refine hq_gT ?_ | refine hq_gF ?_ | refine hq_gd (fun h => ?_) (fun h => ?_) | refine hl_ga ?_ | refine hl_sk ?_ | refine hl_su ?_ | refine hl_gT ?_ | refine hl_gF ?_ | refine hl_gd (fun h => ?_) (fun h => ?_) | refine hx_next ?_ | refine hw_seq ?_ | refine hw_region ?_ | refine hw_dr ?_ | refine hw_block ?_ | refine hx_block ?_ | refine hw_tt ?_ | refine hw_ff ?_ | refine hw_iT ?_ | refine hw_iF ?_ | refine hw_skip ?_ | refine hw_ret ?_ | refine hw_exit ?_ | refine hx_then_ret ?_ | refine hx_block_ret ?_ | refine hx_then_exit ?_ | refine hx_block_here ?_ | refine hx_far ?_ | refine hx_any ?_ | (apply ha_end; decide +kernel))
  exact hx_ret2 rfl rfl rfl (fun w hm => ⟨_, _, rfl, hm, u, vs, rfl, rfl, hl, hu⟩)
end Go.Proofs.Ytgeidbjcphjbiaa
