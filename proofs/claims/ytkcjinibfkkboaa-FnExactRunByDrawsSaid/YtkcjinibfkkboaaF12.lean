/- Contracts: mixtures and products of chains: the reference's functions. -/
import Derived.Test.YtkcjinibfkkboaaF11
import Derived.Test.YtkcjinibfkkboaaLibG
namespace Go.Proofs.Ytkcjinibfkkboaa
open Go.Eng Go.RowKit
set_option linter.unusedVariables false

/-- A chain that a function of the reference has made. -/
def ChNew (e1 e2 : TypeId) (st tot : Int) (xss : List (List Int)) (v : Value) (rs : List Res) : Prop :=
  ∃ (u : Value) (vs : List Value), v = chV st tot u ∧ rs = [rRows e1 e2 (Value.int .i64) u vs xss] ∧ vs.length = xss.length ∧ SlOk u xss.length

theorem l01Made_ok (st tot : Int) (v : Value) (xss : List (List Int)) (row : Nat → Value) (w : World) (hr : RdS (Value.int .i64) 0 w v xss row) (hv : Valid st tot xss) :
    Ret Try.prog 66 [chV st tot v] w (.tuple #[chV st tot v, .int .i64 0]) := by
  refine calls_hw Try.func66 Try.ntmps66 rfl rfl ?_
  have hsl := hr.sl
  repeat' (first | refine hl_a ?_ | refine hq_a ?_ | refine hl_nil ?_ | refine hq_nil ?_ | refine hq_ga ?_ | refine hq_sk ?_ | refine hq_su ?_ | refine hq_gT ?_ | refine hq_gF ?_ | refine hq_gd (fun h => ?_) (fun h => ?_) | refine hl_ga ?_ | refine hl_sk ?_ | refine hl_su ?_ | refine hl_gT ?_ | refine hl_gF ?_ | refine hl_gd (fun h => ?_) (fun h => ?_) | refine hx_next ?_ | refine hw_seq ?_ | refine hw_region ?_ | refine hw_dr ?_ | refine hw_block ?_ | refine hx_block ?_ | refine hw_tt ?_ | refine hw_ff ?_ | refine hw_iT ?_ | refine hw_iF ?_ | refine hw_skip ?_ | refine hw_ret ?_ | refine hw_exit ?_ | refine hx_then_ret ?_ | refine hx_block_ret ?_ | refine hx_then_exit ?_ | refine hx_block_here ?_ | refine hx_far ?_ | refine hx_any ?_ | (apply ha_end; decide +kernel))
  refine hl_box (by decide) rfl (fun b => ?_)
  refine hl_alloc (by decide) (fun b0 => ?_)
  repeat' (first | refine hl_a ?_ | refine hq_a ?_ | refine hl_nil ?_ | refine hq_nil ?_ | refine hq_ga ?_ | refine hq_sk ?_ | refine hq_su ?_ | refine hq_gT ?_ | refine hq_gF ?_ | refine hq_gd (fun h => ?_) (fun h => ?_) | refine hl_ga ?_ | refine hl_sk ?_ | refine hl_su ?_ | refine hl_gT ?_ | refine hl_gF ?_ | refine hl_gd (fun h => ?_) (fun h => ?_) | refine hx_next ?_ | refine hw_seq ?_ | refine hw_region ?_ | refine hw_dr ?_ | refine hw_block ?_ | refine hx_block ?_ | refine hw_tt ?_ | refine hw_ff ?_ | refine hw_iT ?_ | refine hw_iF ?_ | refine hw_skip ?_ | refine hw_ret ?_ | refine hw_exit ?_ | refine hx_then_ret ?_ | refine hx_block_ret ?_ | refine hx_then_exit ?_ | refine hx_block_here ?_ | refine hx_far ?_ | refine hx_any ?_ | (apply ha_end; decide +kernel))
  first | refine hl_q (by decide) (q_call (fun w hm => (ptC_blk 0 rfl hm (hr.up hm.below)).ok) rfl) ?_ | refine hq_q (by decide) (q_call (fun w hm => (ptC_blk 0 rfl hm (hr.up hm.below)).ok) rfl) ?_ | refine hl_g _ _ rfl rfl (by decide) (q_call (fun w hm => (ptC_blk 0 rfl hm (hr.up hm.below)).ok) rfl) ?_ | refine hq_g _ _ rfl rfl (by decide) (q_call (fun w hm => (ptC_blk 0 rfl hm (hr.up hm.below)).ok) rfl) ?_
  repeat' (first | refine hl_a ?_ | refine hq_a ?_ | refine hl_nil ?_ | refine hq_nil ?_ | refine hq_ga ?_ | refine hq_sk ?_ | refine hq_su ?_ | refine hq_gT ?_ | refine hq_gF ?_ | refine hq_gd (fun h => ?_) (fun h => ?_) | refine hl_ga ?_ | refine hl_sk ?_ | refine hl_su ?_ | refine hl_gT ?_ | refine hl_gF ?_ | refine hl_gd (fun h => ?_) (fun h => ?_) | refine hx_next ?_ | refine hw_seq ?_ | refine hw_region ?_ | refine hw_dr ?_ | refine hw_block ?_ | refine hx_block ?_ | refine hw_tt ?_ | refine hw_ff ?_ | refine hw_iT ?_ | refine hw_iF ?_ | refine hw_skip ?_ | refine hw_ret ?_ | refine hw_exit ?_ | refine hx_then_ret ?_ | refine hx_block_ret ?_ | refine hx_then_exit ?_ | refine hx_block_here ?_ | refine hx_far ?_ | refine hx_any ?_ | (apply ha_end; decide +kernel))
  refine hw_if rfl (fun h => absurd hv h) (fun h => ?_)
  repeat' (first | refine hl_a ?_ | refine hq_a ?_ | refine hl_nil ?_ | refine hq_nil ?_ | refine hq_ga ?_ | refine hq_sk ?_ | refine hq_su ?_ | refine hq_gT ?_ | refine hq_gF ?_ | refine hq_gd (fun h => ?_) (fun h => ?_) | refine hl_ga ?_ | refine hl_sk ?_ | refine hl_su ?_ | refine hl_gT ?_ | refine hl_gF ?_ | refine hl_gd (fun h => ?_) (fun h => ?_) | refine hx_next ?_ | refine hw_seq ?_ | refine hw_region ?_ | refine hw_dr ?_ | refine hw_block ?_ | refine hx_block ?_ | refine hw_tt ?_ | refine hw_ff ?_ | refine hw_iT ?_ | refine hw_iF ?_ | refine hw_skip ?_ | refine hw_ret ?_ | refine hw_exit ?_ | refine hx_then_ret ?_ | refine hx_block_ret ?_ | refine hx_then_exit ?_ | refine hx_block_here ?_ | refine hx_far ?_ | refine hx_any ?_ | (apply ha_end; decide +kernel))
  refine hl_storeA 1 rfl rfl rfl rfl rfl (chV_one hsl) ?_
  repeat' (first | refine hl_a ?_ | refine hq_a ?_ | refine hl_nil ?_ | refine hq_nil ?_ | refine hq_ga ?_ | refine hq_sk ?_ | refine hq_su ?_ | refine hq_gT ?_ | refine hq_gF ?_ | refine hq_gd (fun h => ?_) (fun h => ?_) | refine hl_ga ?_ | refine hl_sk ?_ | refine hl_su ?_ | refine hl_gT ?_ | refine hl_gF ?_ | refine hl_gd (fun h => ?_) (fun h => ?_) | refine hx_next ?_ | refine hw_seq ?_ | refine hw_region ?_ | refine hw_dr ?_ | refine hw_block ?_ | refine hx_block ?_ | refine hw_tt ?_ | refine hw_ff ?_ | refine hw_iT ?_ | refine hw_iF ?_ | refine hw_skip ?_ | refine hw_ret ?_ | refine hw_exit ?_ | refine hx_then_ret ?_ | refine hx_block_ret ?_ | refine hx_then_exit ?_ | refine hx_block_here ?_ | refine hx_far ?_ | refine hx_any ?_ | (apply ha_end; decide +kernel))
  exact hx_retBt 1 rfl rfl rfl rfl rfl (fun w hm => ⟨rfl, hm.none⟩)
theorem l01Made_err (st tot : Int) (v : Value) (xss : List (List Int)) (row : Nat → Value) (w : World) (hr : RdS (Value.int .i64) 0 w v xss row) (hv : ¬ Valid st tot xss) :
    Ret Try.prog 66 [chV st tot v] w (.tuple #[.agg #[.int .i64 0, .int .i64 0, .slice none 0 0], .int .i64 3]) := by
  refine calls_hw Try.func66 Try.ntmps66 rfl rfl ?_
  have hsl := hr.sl
  repeat' (first | refine hl_a ?_ | refine hq_a ?_ | refine hl_nil ?_ | refine hq_nil ?_ | refine hq_ga ?_ | refine hq_sk ?_ | refine hq_su ?_ | refine hq_gT ?_ | refine hq_gF ?_ | refine hq_gd (fun h => ?_) (fun h => ?_) | refine hl_ga ?_ | refine hl_sk ?_ | refine hl_su ?_ | refine hl_gT ?_ | refine hl_gF ?_ | refine hl_gd (fun h => ?_) (fun h => ?_) | refine hx_next ?_ | refine hw_seq ?_ | refine hw_region ?_ | refine hw_dr ?_ | refine hw_block ?_ | refine hx_block ?_ | refine hw_tt ?_ | refine hw_ff ?_ | refine hw_iT ?_ | refine hw_iF ?_ | refine hw_skip ?_ | refine hw_ret ?_ | refine hw_exit ?_ | refine hx_then_ret ?_ | refine hx_block_ret ?_ | refine hx_then_exit ?_ | refine hx_block_here ?_ | refine hx_far ?_ | refine hx_any ?_ | (apply ha_end; decide +kernel))
  refine hl_box (by decide) rfl (fun b => ?_)
  refine hl_alloc (by decide) (fun b0 => ?_)
  repeat' (first | refine hl_a ?_ | refine hq_a ?_ | refine hl_nil ?_ | refine hq_nil ?_ | refine hq_ga ?_ | refine hq_sk ?_ | refine hq_su ?_ | refine hq_gT ?_ | refine hq_gF ?_ | refine hq_gd (fun h => ?_) (fun h => ?_) | refine hl_ga ?_ | refine hl_sk ?_ | refine hl_su ?_ | refine hl_gT ?_ | refine hl_gF ?_ | refine hl_gd (fun h => ?_) (fun h => ?_) | refine hx_next ?_ | refine hw_seq ?_ | refine hw_region ?_ | refine hw_dr ?_ | refine hw_block ?_ | refine hx_block ?_ | refine hw_tt ?_ | refine hw_ff ?_ | refine hw_iT ?_ | refine hw_iF ?_ | refine hw_skip ?_ | refine hw_ret ?_ | refine hw_exit ?_ | refine hx_then_ret ?_ | refine hx_block_ret ?_ | refine hx_then_exit ?_ | refine hx_block_here ?_ | refine hx_far ?_ | refine hx_any ?_ | (apply ha_end; decide +kernel))
  first | refine hl_q (by decide) (q_call (fun w hm => (ptC_blk 0 rfl hm (hr.up hm.below)).ok) rfl) ?_ | refine hq_q (by decide) (q_call (fun w hm => (ptC_blk 0 rfl hm (hr.up hm.below)).ok) rfl) ?_ | refine hl_g _ _ rfl rfl (by decide) (q_call (fun w hm => (ptC_blk 0 rfl hm (hr.up hm.below)).ok) rfl) ?_ | refine hq_g _ _ rfl rfl (by decide) (q_call (fun w hm => (ptC_blk 0 rfl hm (hr.up hm.below)).ok) rfl) ?_
  repeat' (first | refine hl_a ?_ | refine hq_a ?_ | refine hl_nil ?_ | refine hq_nil ?_ | refine hq_ga ?_ | refine hq_sk ?_ | refine hq_su ?_ | refine hq_gT ?_ | refine hq_gF ?_ | refine hq_gd (fun h => ?_) (fun h => ?_) | refine hl_ga ?_ | refine hl_sk ?_ | refine hl_su ?_ | refine hl_gT ?_ | refine hl_gF ?_ | refine hl_gd (fun h => ?_) (fun h => ?_) | refine hx_next ?_ | refine hw_seq ?_ | refine hw_region ?_ | refine hw_dr ?_ | refine hw_block ?_ | refine hx_block ?_ | refine hw_tt ?_ | refine hw_ff ?_ | refine hw_iT ?_ | refine hw_iF ?_ | refine hw_skip ?_ | refine hw_ret ?_ | refine hw_exit ?_ | refine hx_then_ret ?_ | refine hx_block_ret ?_ | refine hx_then_exit ?_ | refine hx_block_here ?_ | refine hx_far ?_ | refine hx_any ?_ | (apply ha_end; decide +kernel) | (apply hl_q; decide; (first | exact q_bld [] #[.int .i64 0, .int .i64 0, .slice none 0 0] rfl (by kernel_rfl))) | (apply hq_q; decide; (first | exact q_bld [] #[.int .i64 0, .int .i64 0, .slice none 0 0] rfl (by kernel_rfl))) | (apply hq_g; rfl; rfl; decide; (first | exact q_bld [] #[.int .i64 0, .int .i64 0, .slice none 0 0] rfl (by kernel_rfl))) | (apply hl_g; rfl; rfl; decide; (first | exact q_bld [] #[.int .i64 0, .int .i64 0, .slice none 0 0] rfl (by kernel_rfl))))
  refine hl_storeA 1 rfl rfl rfl rfl rfl (chV_one nil_ok) ?_
  repeat' (first | refine hl_a ?_ | refine hq_a ?_ | refine hl_nil ?_ | refine hq_nil ?_ | refine hq_ga ?_ | refine hq_sk ?_ | refine hq_su ?_ | refine hq_gT ?_ | refine hq_gF ?_ | refine hq_gd (fun h => ?_) (fun h => ?_) | refine hl_ga ?_ | refine hl_sk ?_ | refine hl_su ?_ | refine hl_gT ?_ | refine hl_gF ?_ | refine hl_gd (fun h => ?_) (fun h => ?_) | refine hx_next ?_ | refine hw_seq ?_ | refine hw_region ?_ | refine hw_dr ?_ | refine hw_block ?_ | refine hx_block ?_ | refine hw_tt ?_ | refine hw_ff ?_ | refine hw_iT ?_ | refine hw_iF ?_ | refine hw_skip ?_ | refine hw_ret ?_ | refine hw_exit ?_ | refine hx_then_ret ?_ | refine hx_block_ret ?_ | refine hx_then_exit ?_ | refine hx_block_here ?_ | refine hx_far ?_ | refine hx_any ?_ | (apply ha_end; decide +kernel))
  exact hx_retBt 1 rfl rfl rfl rfl rfl (fun w hm => ⟨rfl, hm.none⟩)
theorem stay_set (n s : Nat) (c : Int) (hs : s < n) : (List.replicate n (Value.int .i64 0)).set s (.int .i64 c) = (tab n (stayF c s)).map (Value.int .i64) := by
  apply List.ext_getElem (by simp [tab_length])
  intro i h1 h2
  have hi : i < n := by simpa using h1
  have hg : (tab n (stayF c s))[i]'(by rw [tab_length]; exact hi) = stayF c s i := by
    have := tab_getD n (stayF c s) i 0 hi
    rwa [getD_lt _ _ _ (by rw [tab_length]; exact hi)] at this
  rw [List.getElem_set, List.getElem_map, hg]
  unfold stayF
  split <;> simp
theorem l01Stay_c (n : Nat) (tot : Int) (hn : n ≤ 1000) (w : World) : Gives Try.prog 65 [.int .i64 (n : Int), .int .i64 tot] w (ChNew 34 2 n tot (mat n (stayF tot))) := by
  refine calls_hw Try.func65 Try.ntmps65 rfl rfl ?_
  repeat' (first | refine hl_a ?_ | refine hq_a ?_ | refine hl_nil ?_ | refine hq_nil ?_ | refine hq_ga ?_ | refine hq_sk ?_ | refine hq_su ?_ | refine hq_gT ?_ | refine hq_gF ?_ | refine hq_gd (fun h => ?_) (fun h => ?_) | refine hl_ga ?_ | refine hl_sk ?_ | refine hl_su ?_ | refine hl_gT ?_ | refine hl_gF ?_ | refine hl_gd (fun h => ?_) (fun h => ?_) | refine hx_next ?_ | refine hw_seq ?_ | refine hw_region ?_ | refine hw_dr ?_ | refine hw_block ?_ | refine hx_block ?_ | refine hw_tt ?_ | refine hw_ff ?_ | refine hw_iT ?_ | refine hw_iF ?_ | refine hw_skip ?_ | refine hw_ret ?_ | refine hw_exit ?_ | refine hx_then_ret ?_ | refine hx_block_ret ?_ | refine hx_then_exit ?_ | refine hx_block_here ?_ | refine hx_far ?_ | refine hx_any ?_ | (apply ha_end; decide +kernel))
  refine hl_alloc (by decide) (fun b0 => ?_)
  repeat' (first | refine hl_a ?_ | refine hq_a ?_ | refine hl_nil ?_ | refine hq_nil ?_ | refine hq_ga ?_ | refine hq_sk ?_ | refine hq_su ?_ | refine hq_gT ?_ | refine hq_gF ?_ | refine hq_gd (fun h => ?_) (fun h => ?_) | refine hl_ga ?_ | refine hl_sk ?_ | refine hl_su ?_ | refine hl_gT ?_ | refine hl_gF ?_ | refine hl_gd (fun h => ?_) (fun h => ?_) | refine hx_next ?_ | refine hw_seq ?_ | refine hw_region ?_ | refine hw_dr ?_ | refine hw_block ?_ | refine hx_block ?_ | refine hw_tt ?_ | refine hw_ff ?_ | refine hw_iT ?_ | refine hw_iF ?_ | refine hw_skip ?_ | refine hw_ret ?_ | refine hw_exit ?_ | refine hx_then_ret ?_ | refine hx_block_ret ?_ | refine hx_then_exit ?_ | refine hx_block_here ?_ | refine hx_far ?_ | refine hx_any ?_ | (apply ha_end; decide +kernel))
  first | refine hl_q (by decide) (q_bld [(0, .int .i64 n), (1, .int .i64 tot)] #[.int .i64 n, .int .i64 tot, .slice none 0 0] rfl (by kernel_rfl)) ?_ | refine hq_q (by decide) (q_bld [(0, .int .i64 n), (1, .int .i64 tot)] #[.int .i64 n, .int .i64 tot, .slice none 0 0] rfl (by kernel_rfl)) ?_ | refine hl_g _ _ rfl rfl (by decide) (q_bld [(0, .int .i64 n), (1, .int .i64 tot)] #[.int .i64 n, .int .i64 tot, .slice none 0 0] rfl (by kernel_rfl)) ?_ | refine hq_g _ _ rfl rfl (by decide) (q_bld [(0, .int .i64 n), (1, .int .i64 tot)] #[.int .i64 n, .int .i64 tot, .slice none 0 0] rfl (by kernel_rfl)) ?_
  refine hl_alloc (by decide) (fun b1 => ?_)
  refine hl_storeA 1 rfl rfl rfl rfl rfl (chV_one nil_ok) ?_
  repeat' (first | refine hl_a ?_ | refine hq_a ?_ | refine hl_nil ?_ | refine hq_nil ?_ | refine hq_ga ?_ | refine hq_sk ?_ | refine hq_su ?_ | refine hq_gT ?_ | refine hq_gF ?_ | refine hq_gd (fun h => ?_) (fun h => ?_) | refine hl_ga ?_ | refine hl_sk ?_ | refine hl_su ?_ | refine hl_gT ?_ | refine hl_gF ?_ | refine hl_gd (fun h => ?_) (fun h => ?_) | refine hx_next ?_ | refine hw_seq ?_ | refine hw_region ?_ | refine hw_dr ?_ | refine hw_block ?_ | refine hx_block ?_ | refine hw_tt ?_ | refine hw_ff ?_ | refine hw_iT ?_ | refine hw_iF ?_ | refine hw_skip ?_ | refine hw_ret ?_ | refine hw_exit ?_ | refine hx_then_ret ?_ | refine hx_block_ret ?_ | refine hx_then_exit ?_ | refine hx_block_here ?_ | refine hx_far ?_ | refine hx_any ?_ | (apply ha_end; decide +kernel))
  refine hw_mem (fun w hm => (hm.nilOwn 34 1).empty) ?_
  refine hw_loop (fun e r m => ∃ (k : Nat) (u : Value) (vs : List Value), r = [rBlk b0 #[.int .i64 0, .int .i64 0, .slice none 0 0] 28, rBlk b1 #[.int .i64 n, .int .i64 tot, u] 28, rOwn 34 1 u k vs, rStar (rRow 2 (Value.int .i64) vs (tab k fun s => tab n (stayF tot s)))] ∧ vs.length = k ∧ k ≤ n ∧ m = n - k ∧ e = [(0, .int .i64 (n : Int)), (1, .int .i64 tot), (4, .pointer (some ⟨b0, 0, none⟩)), (5, .pointer (some ⟨b1, 0, none⟩)), (6, .int .i64 k)])
    ⟨0, _, [], rfl, rfl, Nat.zero_le _, rfl, rfl⟩ ⟨rfl, rfl, rfl, rfl, rfl, trivial⟩ ?_
  rintro _ _ _ ⟨k, u, vs, rfl, hvs, hk, rfl, rfl⟩
  repeat' (first | refine hl_a ?_ | refine hq_a ?_ | refine hl_nil ?_ | refine hq_nil ?_ | refine hq_ga ?_ | refine hq_sk ?_ | refine hq_su ?_ | refine hq_gT ?_ | refine hq_gF ?_ | refine hq_gd (fun h => ?_) (fun h => ?_) | refine hl_ga ?_ | refine hl_sk ?_ | refine hl_su ?_ | refine hl_gT ?_ | refine hl_gF ?_ | refine hl_gd (fun h => ?_) (fun h => ?_) | refine hx_next ?_ | refine hw_seq ?_ | refine hw_region ?_ | refine hw_dr ?_ | refine hw_block ?_ | refine hx_block ?_ | refine hw_tt ?_ | refine hw_ff ?_ | refine hw_iT ?_ | refine hw_iF ?_ | refine hw_skip ?_ | refine hw_ret ?_ | refine hw_exit ?_ | refine hx_then_ret ?_ | refine hx_block_ret ?_ | refine hx_then_exit ?_ | refine hx_block_here ?_ | refine hx_far ?_ | refine hx_any ?_ | (apply ha_end; decide +kernel))
  refine hw_if rfl (fun hlt => ?_) (fun hge => ?_)
  · have hk2 : k < n := by omega
    repeat' (first | refine hl_a ?_ | refine hq_a ?_ | refine hl_nil ?_ | refine hq_nil ?_ | refine hq_ga ?_ | refine hq_sk ?_ | refine hq_su ?_ | refine hq_gT ?_ | refine hq_gF ?_ | refine hq_gd (fun h => ?_) (fun h => ?_) | refine hl_ga ?_ | refine hl_sk ?_ | refine hl_su ?_ | refine hl_gT ?_ | refine hl_gF ?_ | refine hl_gd (fun h => ?_) (fun h => ?_) | refine hx_next ?_ | refine hw_seq ?_ | refine hw_region ?_ | refine hw_dr ?_ | refine hw_block ?_ | refine hx_block ?_ | refine hw_tt ?_ | refine hw_ff ?_ | refine hw_iT ?_ | refine hw_iF ?_ | refine hw_skip ?_ | refine hw_ret ?_ | refine hw_exit ?_ | refine hx_then_ret ?_ | refine hx_block_ret ?_ | refine hx_then_exit ?_ | refine hx_block_here ?_ | refine hx_far ?_ | refine hx_any ?_ | (apply ha_end; decide +kernel))
    refine hl_make (by decide) rfl rfl (by omega) (by unfold maxLen; omega) (fun x hx => ?_)
    rw [toList_madeCells1 _ rfl]
    repeat' (first | refine hl_a ?_ | refine hq_a ?_ | refine hl_nil ?_ | refine hq_nil ?_ | refine hq_ga ?_ | refine hq_sk ?_ | refine hq_su ?_ | refine hq_gT ?_ | refine hq_gF ?_ | refine hq_gd (fun h => ?_) (fun h => ?_) | refine hl_ga ?_ | refine hl_sk ?_ | refine hl_su ?_ | refine hl_gT ?_ | refine hl_gF ?_ | refine hl_gd (fun h => ?_) (fun h => ?_) | refine hx_next ?_ | refine hw_seq ?_ | refine hw_region ?_ | refine hw_dr ?_ | refine hw_block ?_ | refine hx_block ?_ | refine hw_tt ?_ | refine hw_ff ?_ | refine hw_iT ?_ | refine hw_iF ?_ | refine hw_skip ?_ | refine hw_ret ?_ | refine hw_exit ?_ | refine hx_then_ret ?_ | refine hx_block_ret ?_ | refine hx_then_exit ?_ | refine hx_block_here ?_ | refine hx_far ?_ | refine hx_any ?_ | (apply ha_end; decide +kernel))
    refine hl_storeO 4 rfl rfl hk2 rfl rfl ?_
    repeat' (first | refine hl_a ?_ | refine hq_a ?_ | refine hl_nil ?_ | refine hq_nil ?_ | refine hq_ga ?_ | refine hq_sk ?_ | refine hq_su ?_ | refine hq_gT ?_ | refine hq_gF ?_ | refine hq_gd (fun h => ?_) (fun h => ?_) | refine hl_ga ?_ | refine hl_sk ?_ | refine hl_su ?_ | refine hl_gT ?_ | refine hl_gF ?_ | refine hl_gd (fun h => ?_) (fun h => ?_) | refine hx_next ?_ | refine hw_seq ?_ | refine hw_region ?_ | refine hw_dr ?_ | refine hw_block ?_ | refine hx_block ?_ | refine hw_tt ?_ | refine hw_ff ?_ | refine hw_iT ?_ | refine hw_iF ?_ | refine hw_skip ?_ | refine hw_ret ?_ | refine hw_exit ?_ | refine hx_then_ret ?_ | refine hx_block_ret ?_ | refine hx_then_exit ?_ | refine hx_block_here ?_ | refine hx_far ?_ | refine hx_any ?_ | (apply ha_end; decide +kernel))
    refine hl_push 2 rfl (by decide) (by decide) rfl hx.one rfl (fun b => rfl) (by omega) (by decide) (fun u' b hu' => ?_)
    repeat' (first | refine hl_a ?_ | refine hq_a ?_ | refine hl_nil ?_ | refine hq_nil ?_ | refine hq_ga ?_ | refine hq_sk ?_ | refine hq_su ?_ | refine hq_gT ?_ | refine hq_gF ?_ | refine hq_gd (fun h => ?_) (fun h => ?_) | refine hl_ga ?_ | refine hl_sk ?_ | refine hl_su ?_ | refine hl_gT ?_ | refine hl_gF ?_ | refine hl_gd (fun h => ?_) (fun h => ?_) | refine hx_next ?_ | refine hw_seq ?_ | refine hw_region ?_ | refine hw_dr ?_ | refine hw_block ?_ | refine hx_block ?_ | refine hw_tt ?_ | refine hw_ff ?_ | refine hw_iT ?_ | refine hw_iF ?_ | refine hw_skip ?_ | refine hw_ret ?_ | refine hw_exit ?_ | refine hx_then_ret ?_ | refine hx_block_ret ?_ | refine hx_then_exit ?_ | refine hx_block_here ?_ | refine hx_far ?_ | refine hx_any ?_ | (apply ha_end; decide +kernel))
    refine hl_storeB 1 rfl rfl rfl rfl rfl hu'.one ?_
    repeat' (first | refine hl_a ?_ | refine hq_a ?_ | refine hl_nil ?_ | refine hq_nil ?_ | refine hq_ga ?_ | refine hq_sk ?_ | refine hq_su ?_ | refine hq_gT ?_ | refine hq_gF ?_ | refine hq_gd (fun h => ?_) (fun h => ?_) | refine hl_ga ?_ | refine hl_sk ?_ | refine hl_su ?_ | refine hl_gT ?_ | refine hl_gF ?_ | refine hl_gd (fun h => ?_) (fun h => ?_) | refine hx_next ?_ | refine hw_seq ?_ | refine hw_region ?_ | refine hw_dr ?_ | refine hw_block ?_ | refine hx_block ?_ | refine hw_tt ?_ | refine hw_ff ?_ | refine hw_iT ?_ | refine hw_iF ?_ | refine hw_skip ?_ | refine hw_ret ?_ | refine hw_exit ?_ | refine hx_then_ret ?_ | refine hx_block_ret ?_ | refine hx_then_exit ?_ | refine hx_block_here ?_ | refine hx_far ?_ | refine hx_any ?_ | (apply ha_end; decide +kernel))
    refine hx_mem (rs' := [rBlk b0 #[.int .i64 0, .int .i64 0, .slice none 0 0] 28, rBlk b1 #[.int .i64 n, .int .i64 tot, u'] 28, rOwn 34 1 u' (k + 1) (vs ++ [x]), rStar (rRow 2 (Value.int .i64) (vs ++ [x]) (tab (k + 1) fun s => tab n (stayF tot s)))]) (fun w hm => ?_) ?_
    · rw [tab_succ]
      show Mem _ [_, _, _, rStar (rRow _ _ (vs ++ [x]) (_ ++ [_]))] w
      rw [rRow_snoc _ _ _ _ (by rw [tab_length]; exact hvs)]
      refine Mem.pack [_, _, _] ?_
      unfold rE
      rw [← stay_set n k tot hk2, tab_length]
      exact hm
    · exact hx_round ⟨k + 1, u', vs ++ [x], rfl, by simp [hvs], hk2, rfl, rfl⟩ (by omega) ⟨rfl, rfl, rfl, rfl, rfl, trivial⟩
  · have e : k = n := by omega
    subst e
    refine hw_own 2 rfl (fun hu => ?_)
    repeat' (first | refine hl_a ?_ | refine hq_a ?_ | refine hl_nil ?_ | refine hq_nil ?_ | refine hq_ga ?_ | refine hq_sk ?_ | refine hq_su ?_ | refine hq_gT ?_ | refine hq_gF ?_ | refine hq_gd (fun h => ?_) (fun h => ?_) | refine hl_ga ?_ | refine hl_sk ?_ | refine hl_su ?_ | refine hl_gT ?_ | refine hl_gF ?_ | refine hl_gd (fun h => ?_) (fun h => ?_) | refine hx_next ?_ | refine hw_seq ?_ | refine hw_region ?_ | refine hw_dr ?_ | refine hw_block ?_ | refine hx_block ?_ | refine hw_tt ?_ | refine hw_ff ?_ | refine hw_iT ?_ | refine hw_iF ?_ | refine hw_skip ?_ | refine hw_ret ?_ | refine hw_exit ?_ | refine hx_then_ret ?_ | refine hx_block_ret ?_ | refine hx_then_exit ?_ | refine hx_block_here ?_ | refine hx_far ?_ | refine hx_any ?_ | (apply ha_end; decide +kernel))
    refine hl_storeA 0 rfl rfl rfl rfl rfl (chV_one hu) ?_
    repeat' (first | refine hl_a ?_ | refine hq_a ?_ | refine hl_nil ?_ | refine hq_nil ?_ | refine hq_ga ?_ | refine hq_sk ?_ | refine hq_su ?_ | refine hq_gT ?_ | refine hq_gF ?_ | refine hq_gd (fun h => ?_) (fun h => ?_) | refine hl_ga ?_ | refine hl_sk ?_ | refine hl_su ?_ | refine hl_gT ?_ | refine hl_gF ?_ | refine hl_gd (fun h => ?_) (fun h => ?_) | refine hx_next ?_ | refine hw_seq ?_ | refine hw_region ?_ | refine hw_dr ?_ | refine hw_block ?_ | refine hx_block ?_ | refine hw_tt ?_ | refine hw_ff ?_ | refine hw_iT ?_ | refine hw_iF ?_ | refine hw_skip ?_ | refine hw_ret ?_ | refine hw_exit ?_ | refine hx_then_ret ?_ | refine hx_block_ret ?_ | refine hx_then_exit ?_ | refine hx_block_here ?_ | refine hx_far ?_ | refine hx_any ?_ | (apply ha_end; decide +kernel))
    exact hx_retB 0 rfl rfl rfl rfl (fun w hm => ⟨_, _, rfl, hm.rows 2 3 hvs.symm (by decide) rfl rfl, u, vs, rfl, rfl, by simp [mat_length, hvs], by simpa [mat_length] using hu⟩)
set_option maxHeartbeats 1000000 in
theorem l01Mixed_c (p : Addr) (st tot : Int) (v : Value) (xss : List (List Int)) (row : Nat → Value) (p' : Addr) (st' tot' : Int) (v' : Value) (yss : List (List Int)) (row' : Nat → Value) (w : World) (hp : PtC w p st tot v xss row) (hp' : PtC w p' st' tot' v' yss row')
    (hv : Valid st tot xss) (hv' : Valid st' tot' yss) (hl : yss.length = xss.length) :
    Gives Try.prog 67 [.pointer (some p), .pointer (some p')] w (ChNew 34 2 st (2 * tot * tot') (mat xss.length (mixF xss yss tot tot'))) := by
  refine calls_hw Try.func67 Try.ntmps67 rfl rfl ?_
  obtain ⟨h0, h1, h2, hr⟩ := hp
  obtain ⟨h0', h1', h2', hr'⟩ := hp'
  obtain ⟨rfl, hn1, hn2⟩ := hv.nat
  have ht1 := hv.t1
  have ht2 := hv'.t1
  have m1 := mul_bd (A := 120) (B := 60) (a := 2 * tot) (b := tot') (by omega) (by omega)
  have hsl := hr.sl
  have hsl2 := hr'.sl
  repeat' (first | refine hl_a ?_ | refine hq_a ?_ | refine hl_nil ?_ | refine hq_nil ?_ | refine hq_ga ?_ | refine hq_sk ?_ | refine hq_su ?_ | refine hq_gT ?_ | refine hq_gF ?_ | refine hq_gd (fun h => ?_) (fun h => ?_) | refine hl_ga ?_ | refine hl_sk ?_ | refine hl_su ?_ | refine hl_gT ?_ | refine hl_gF ?_ | refine hl_gd (fun h => ?_) (fun h => ?_) | refine hx_next ?_ | refine hw_seq ?_ | refine hw_region ?_ | refine hw_block ?_ | refine hx_block ?_ | refine hw_tt ?_ | refine hw_ff ?_ | refine hw_iT ?_ | refine hw_iF ?_ | refine hw_skip ?_ | refine hw_ret ?_ | refine hw_exit ?_ | refine hx_then_ret ?_ | refine hx_block_ret ?_ | refine hx_then_exit ?_ | refine hx_block_here ?_ | refine hx_far ?_ | refine hx_any ?_ | (apply ha_end; decide +kernel))
  refine hl_alloc (by decide) (fun b0 => ?_)
  repeat' (first | refine hl_a ?_ | refine hq_a ?_ | refine hl_nil ?_ | refine hq_nil ?_ | refine hq_ga ?_ | refine hq_sk ?_ | refine hq_su ?_ | refine hq_gT ?_ | refine hq_gF ?_ | refine hq_gd (fun h => ?_) (fun h => ?_) | refine hl_ga ?_ | refine hl_sk ?_ | refine hl_su ?_ | refine hl_gT ?_ | refine hl_gF ?_ | refine hl_gd (fun h => ?_) (fun h => ?_) | refine hx_next ?_ | refine hw_seq ?_ | refine hw_region ?_ | refine hw_block ?_ | refine hx_block ?_ | refine hw_tt ?_ | refine hw_ff ?_ | refine hw_iT ?_ | refine hw_iF ?_ | refine hw_skip ?_ | refine hw_ret ?_ | refine hw_exit ?_ | refine hx_then_ret ?_ | refine hx_block_ret ?_ | refine hx_then_exit ?_ | refine hx_block_here ?_ | refine hx_far ?_ | refine hx_any ?_ | (apply ha_end; decide +kernel))
  refine hw_g [] 17 (by kernel_rfl) ?_
  first | refine hg_t 0 ?_ | refine hg_tn 0 ?_
  first | refine hg_t 1 ?_ | refine hg_tn 1 ?_
  first | refine hg_t 2 ?_ | refine hg_tn 2 ?_
  first | refine hg_t 3 ?_ | refine hg_tn 3 ?_
  first | refine hg_t 4 ?_ | refine hg_tn 4 ?_
  first | refine hg_t 5 ?_ | refine hg_tn 5 ?_
  first | refine hg_t 6 ?_ | refine hg_tn 6 ?_
  first | refine hg_t 7 ?_ | refine hg_tn 7 ?_
  first | refine hg_t 8 ?_ | refine hg_tn 8 ?_
  first | refine hg_t 9 ?_ | refine hg_tn 9 ?_
  first | refine hg_t 10 ?_ | refine hg_tn 10 ?_
  first | refine hg_t 11 ?_ | refine hg_tn 11 ?_
  first | refine hg_t 12 ?_ | refine hg_tn 12 ?_
  first | refine hg_t 13 ?_ | refine hg_tn 13 ?_
  refine hg_t 14 ?_ (hq := by exact q_bld [(0, .int .i64 (xss.length : Int)), (1, .int .i64 (2 * tot * tot'))] #[.int .i64 (xss.length : Int), .int .i64 (2 * tot * tot'), .slice none 0 0] rfl (by kernel_rfl))
  refine hg_1 15 (by decide +kernel) rfl ?_
  refine hl_alloc (by decide) (fun b1 => ?_)
  refine hl_nil ?_
  refine hx_hg (by first | exact fun w hm => hm.none | exact fun w hm => Mem.keep _ hm) ?_
  refine hg_1 16 (by decide +kernel) rfl ?_
  refine hl_storeA 1 rfl rfl rfl rfl rfl (chV_one nil_ok) ?_
  refine hl_nil ?_
  refine hx_hg (by first | exact fun w hm => hm.none | exact fun w hm => Mem.keep _ hm) ?_
  refine hg_end (by decide +kernel) ?_
  repeat' (first | refine hl_a ?_ | refine hq_a ?_ | refine hl_nil ?_ | refine hq_nil ?_ | refine hq_ga ?_ | refine hq_sk ?_ | refine hq_su ?_ | refine hq_gT ?_ | refine hq_gF ?_ | refine hq_gd (fun h => ?_) (fun h => ?_) | refine hl_ga ?_ | refine hl_sk ?_ | refine hl_su ?_ | refine hl_gT ?_ | refine hl_gF ?_ | refine hl_gd (fun h => ?_) (fun h => ?_) | refine hx_next ?_ | refine hw_seq ?_ | refine hw_region ?_ | refine hw_block ?_ | refine hx_block ?_ | refine hw_tt ?_ | refine hw_ff ?_ | refine hw_iT ?_ | refine hw_iF ?_ | refine hw_skip ?_ | refine hw_ret ?_ | refine hw_exit ?_ | refine hx_then_ret ?_ | refine hx_block_ret ?_ | refine hx_then_exit ?_ | refine hx_block_here ?_ | refine hx_far ?_ | refine hx_any ?_ | (apply ha_end; decide +kernel))
  refine hw_mem (fun w hm => (hm.nilOwn 34 1).empty) ?_
  refine hw_loop (fun e r m => ∃ (k : Nat) (u : Value) (vs : List Value), r = [rBlk b0 #[.int .i64 0, .int .i64 0, .slice none 0 0] 28, rBlk b1 #[.int .i64 (xss.length : Int), .int .i64 (2 * tot * tot'), u] 28, rOwn 34 1 u k vs, rStar (rRow 2 (Value.int .i64) vs (tab k fun s => tab xss.length (mixF xss yss tot tot' s)))] ∧ vs.length = k ∧ k ≤ xss.length ∧ m = xss.length - k ∧ e = [(0, .pointer (some p)), (1, .pointer (some p')), (4, .pointer (some ⟨b0, 0, none⟩)), (5, .pointer (some ⟨b1, 0, none⟩)), (6, .int .i64 k)])
    ⟨0, _, [], rfl, rfl, Nat.zero_le _, rfl, rfl⟩ ⟨rfl, rfl, rfl, rfl, rfl, trivial⟩ ?_
  rintro _ _ _ ⟨k, u, vs, rfl, hvs, hk, rfl, rfl⟩
  repeat' (first | refine hl_a ?_ | refine hq_a ?_ | refine hl_nil ?_ | refine hq_nil ?_ | refine hq_ga ?_ | refine hq_sk ?_ | refine hq_su ?_ | refine hq_gT ?_ | refine hq_gF ?_ | refine hq_gd (fun h => ?_) (fun h => ?_) | refine hl_ga ?_ | refine hl_sk ?_ | refine hl_su ?_ | refine hl_gT ?_ | refine hl_gF ?_ | refine hl_gd (fun h => ?_) (fun h => ?_) | refine hx_next ?_ | refine hw_seq ?_ | refine hw_region ?_ | refine hw_dr ?_ | refine hw_block ?_ | refine hx_block ?_ | refine hw_tt ?_ | refine hw_ff ?_ | refine hw_iT ?_ | refine hw_iF ?_ | refine hw_skip ?_ | refine hw_ret ?_ | refine hw_exit ?_ | refine hx_then_ret ?_ | refine hx_block_ret ?_ | refine hx_then_exit ?_ | refine hx_block_here ?_ | refine hx_far ?_ | refine hx_any ?_ | (apply ha_end; decide +kernel))
  refine hw_if rfl (fun hlt => ?_) (fun hge => ?_)
  · have hk2 : k < xss.length := by omega
    have hk3 : k < yss.length := by omega
    have cs := hr.get k hk2
    have ss := (hr.row k hk2).sl
    have cs2 := hr'.get k hk3
    have ss2 := (hr'.row k hk3).sl
    repeat' (first | refine hl_a ?_ | refine hq_a ?_ | refine hl_nil ?_ | refine hq_nil ?_ | refine hq_ga ?_ | refine hq_sk ?_ | refine hq_su ?_ | refine hq_gT ?_ | refine hq_gF ?_ | refine hq_gd (fun h => ?_) (fun h => ?_) | refine hl_ga ?_ | refine hl_sk ?_ | refine hl_su ?_ | refine hl_gT ?_ | refine hl_gF ?_ | refine hl_gd (fun h => ?_) (fun h => ?_) | refine hx_next ?_ | refine hw_seq ?_ | refine hw_region ?_ | refine hw_dr ?_ | refine hw_block ?_ | refine hx_block ?_ | refine hw_tt ?_ | refine hw_ff ?_ | refine hw_iT ?_ | refine hw_iF ?_ | refine hw_skip ?_ | refine hw_ret ?_ | refine hw_exit ?_ | refine hx_then_ret ?_ | refine hx_block_ret ?_ | refine hx_then_exit ?_ | refine hx_block_here ?_ | refine hx_far ?_ | refine hx_any ?_ | (apply ha_end; decide +kernel))
    refine hl_build0 (by decide) (fun b2 => ?_)
    repeat' (first | refine hl_a ?_ | refine hq_a ?_ | refine hl_nil ?_ | refine hq_nil ?_ | refine hq_ga ?_ | refine hq_sk ?_ | refine hq_su ?_ | refine hq_gT ?_ | refine hq_gF ?_ | refine hq_gd (fun h => ?_) (fun h => ?_) | refine hl_ga ?_ | refine hl_sk ?_ | refine hl_su ?_ | refine hl_gT ?_ | refine hl_gF ?_ | refine hl_gd (fun h => ?_) (fun h => ?_) | refine hx_next ?_ | refine hw_seq ?_ | refine hw_region ?_ | refine hw_dr ?_ | refine hw_block ?_ | refine hx_block ?_ | refine hw_tt ?_ | refine hw_ff ?_ | refine hw_iT ?_ | refine hw_iF ?_ | refine hw_skip ?_ | refine hw_ret ?_ | refine hw_exit ?_ | refine hx_then_ret ?_ | refine hx_block_ret ?_ | refine hx_then_exit ?_ | refine hx_block_here ?_ | refine hx_far ?_ | refine hx_any ?_ | (apply ha_end; decide +kernel))
    refine hw_loop (fun e r m => ∃ (j : Nat) (x : Value), r = [rBlk b0 #[.int .i64 0, .int .i64 0, .slice none 0 0] 28, rBlk b1 #[.int .i64 (xss.length : Int), .int .i64 (2 * tot * tot'), u] 28, rOwn 34 1 u k vs, rStar (rRow 2 (Value.int .i64) vs (tab k fun s => tab xss.length (mixF xss yss tot tot' s))), rE 2 (Value.int .i64) x (tab j (mixF xss yss tot tot' k))] ∧ SlOk x j ∧ j ≤ xss.length ∧ m = xss.length - j ∧ e = [(0, .pointer (some p)), (1, .pointer (some p')), (4, .pointer (some ⟨b0, 0, none⟩)), (5, .pointer (some ⟨b1, 0, none⟩)), (6, .int .i64 k), (7, x), (8, .int .i64 j)])
      ⟨0, _, rfl, lit_ok _ 0 (by decide), Nat.zero_le _, rfl, rfl⟩ ⟨rfl, rfl, rfl, rfl, rfl, rfl, rfl, trivial⟩ ?_
    rintro _ _ _ ⟨j, x, rfl, hx, hj, rfl, rfl⟩
    repeat' (first | refine hl_a ?_ | refine hq_a ?_ | refine hl_nil ?_ | refine hq_nil ?_ | refine hq_ga ?_ | refine hq_sk ?_ | refine hq_su ?_ | refine hq_gT ?_ | refine hq_gF ?_ | refine hq_gd (fun h => ?_) (fun h => ?_) | refine hl_ga ?_ | refine hl_sk ?_ | refine hl_su ?_ | refine hl_gT ?_ | refine hl_gF ?_ | refine hl_gd (fun h => ?_) (fun h => ?_) | refine hx_next ?_ | refine hw_seq ?_ | refine hw_region ?_ | refine hw_dr ?_ | refine hw_block ?_ | refine hx_block ?_ | refine hw_tt ?_ | refine hw_ff ?_ | refine hw_iT ?_ | refine hw_iF ?_ | refine hw_skip ?_ | refine hw_ret ?_ | refine hw_exit ?_ | refine hx_then_ret ?_ | refine hx_block_ret ?_ | refine hx_then_exit ?_ | refine hx_block_here ?_ | refine hx_far ?_ | refine hx_any ?_ | (apply ha_end; decide +kernel))
    refine hw_if rfl (fun hlt2 => ?_) (fun hge2 => ?_)
    · have hj2 : j < xss.length := by omega
      have hj' : j < (xss.getD k []).length := by rw [hv.rlen k hk2]; exact hj2
      have hj2' : j < (yss.getD k []).length := by rw [hv'.rlen k hk3]; omega
      have ct : w.cell? (vAt (row k) j) = some (.int .i64 (cAt xss k j)) := (hr.row k hk2).get j hj'
      have ct2 : w.cell? (vAt (row' k) j) = some (.int .i64 (cAt yss k j)) := (hr'.row k hk3).get j hj2'
      have hb := hv.at k j hk2 hj2
      have hb2 := hv'.at k j hk3 (by omega)
      have m1 := mul_bd (A := 60) (B := 60) (a := cAt xss k j) (b := tot') (by omega) (by omega)
      have m2 := mul_bd (A := 60) (B := 60) (a := cAt yss k j) (b := tot) (by omega) (by omega)
      repeat' (first | refine hl_a ?_ | refine hq_a ?_ | refine hl_nil ?_ | refine hq_nil ?_ | refine hq_ga ?_ | refine hq_sk ?_ | refine hq_su ?_ | refine hq_gT ?_ | refine hq_gF ?_ | refine hq_gd (fun h => ?_) (fun h => ?_) | refine hl_ga ?_ | refine hl_sk ?_ | refine hl_su ?_ | refine hl_gT ?_ | refine hl_gF ?_ | refine hl_gd (fun h => ?_) (fun h => ?_) | refine hx_next ?_ | refine hw_seq ?_ | refine hw_region ?_ | refine hw_block ?_ | refine hx_block ?_ | refine hw_tt ?_ | refine hw_ff ?_ | refine hw_iT ?_ | refine hw_iF ?_ | refine hw_skip ?_ | refine hw_ret ?_ | refine hw_exit ?_ | refine hx_then_ret ?_ | refine hx_block_ret ?_ | refine hx_then_exit ?_ | refine hx_block_here ?_ | refine hx_far ?_ | refine hx_any ?_ | (apply ha_end; decide +kernel))
      refine hw_g [] 35 (by kernel_rfl) ?_
      first | refine hg_t 0 ?_ | refine hg_tn 0 ?_
      first | refine hg_t 1 ?_ | refine hg_tn 1 ?_
      first | refine hg_t 2 ?_ | refine hg_tn 2 ?_
      first | refine hg_t 3 ?_ | refine hg_tn 3 ?_
      first | refine hg_t 4 ?_ | refine hg_tn 4 ?_
      first | refine hg_t 5 ?_ | refine hg_tn 5 ?_
      first | refine hg_t 6 ?_ | refine hg_tn 6 ?_
      first | refine hg_t 7 ?_ | refine hg_tn 7 ?_
      first | refine hg_t 8 ?_ | refine hg_tn 8 ?_
      first | refine hg_t 9 ?_ | refine hg_tn 9 ?_
      first | refine hg_t 10 ?_ | refine hg_tn 10 ?_
      first | refine hg_t 11 ?_ | refine hg_tn 11 ?_
      first | refine hg_t 12 ?_ | refine hg_tn 12 ?_
      first | refine hg_t 13 ?_ | refine hg_tn 13 ?_
      first | refine hg_t 14 ?_ | refine hg_tn 14 ?_
      first | refine hg_t 15 ?_ | refine hg_tn 15 ?_
      first | refine hg_t 16 ?_ | refine hg_tn 16 ?_
      first | refine hg_t 17 ?_ | refine hg_tn 17 ?_
      first | refine hg_t 18 ?_ | refine hg_tn 18 ?_
      first | refine hg_t 19 ?_ | refine hg_tn 19 ?_
      first | refine hg_t 20 ?_ | refine hg_tn 20 ?_
      first | refine hg_t 21 ?_ | refine hg_tn 21 ?_
      first | refine hg_t 22 ?_ | refine hg_tn 22 ?_
      first | refine hg_t 23 ?_ | refine hg_tn 23 ?_
      first | refine hg_t 24 ?_ | refine hg_tn 24 ?_
      first | refine hg_t 25 ?_ | refine hg_tn 25 ?_
      first | refine hg_t 26 ?_ | refine hg_tn 26 ?_
      first | refine hg_t 27 ?_ | refine hg_tn 27 ?_
      first | refine hg_t 28 ?_ | refine hg_tn 28 ?_
      first | refine hg_t 29 ?_ | refine hg_tn 29 ?_
      first | refine hg_t 30 ?_ | refine hg_tn 30 ?_
      first | refine hg_t 31 ?_ | refine hg_tn 31 ?_
      refine hg_1 32 (by decide +kernel) rfl ?_
      refine hl_build1 (u := .int .i64 (mixF xss yss tot tot' k j)) (by decide) rfl rfl rfl (fun b3 => ?_)
      refine hl_nil ?_
      refine hx_hg (by first | exact fun w hm => hm.none | exact fun w hm => Mem.keep _ hm) ?_
      refine hg_1 33 (by decide +kernel) rfl ?_
      refine hl_appE 4 5 (mixF xss yss tot tot' k j) rfl rfl (by decide) rfl rfl rfl (by rw [tab_length]; omega) (by decide) (fun x' hx' => ?_)
      refine hl_nil ?_
      refine hx_hg (by first | exact fun w hm => hm.none | exact fun w hm => Mem.keep _ hm) ?_
      refine hg_1 34 (by decide +kernel) rfl ?_
      refine hl_a ?_
      refine hl_nil ?_
      refine hx_hg (by first | exact fun w hm => hm.none | exact fun w hm => Mem.keep _ hm) ?_
      refine hg_end (by decide +kernel) ?_
      repeat' (first | refine hl_a ?_ | refine hq_a ?_ | refine hl_nil ?_ | refine hq_nil ?_ | refine hq_ga ?_ | refine hq_sk ?_ | refine hq_su ?_ | refine hq_gT ?_ | refine hq_gF ?_ | refine hq_gd (fun h => ?_) (fun h => ?_) | refine hl_ga ?_ | refine hl_sk ?_ | refine hl_su ?_ | refine hl_gT ?_ | refine hl_gF ?_ | refine hl_gd (fun h => ?_) (fun h => ?_) | refine hx_next ?_ | refine hw_seq ?_ | refine hw_region ?_ | refine hw_block ?_ | refine hx_block ?_ | refine hw_tt ?_ | refine hw_ff ?_ | refine hw_iT ?_ | refine hw_iF ?_ | refine hw_skip ?_ | refine hw_ret ?_ | refine hw_exit ?_ | refine hx_then_ret ?_ | refine hx_block_ret ?_ | refine hx_then_exit ?_ | refine hx_block_here ?_ | refine hx_far ?_ | refine hx_any ?_ | (apply ha_end; decide +kernel))
      refine hx_mem (fun w hm => Mem.keep [_, _, _, _, _] hm) ?_
      refine hx_round ⟨j + 1, x', ?_, ?_, hj2, rfl, rfl⟩ (by omega) ⟨rfl, rfl, rfl, rfl, rfl, rfl, rfl, trivial⟩
      · rw [tab_succ]; try rfl
      · simpa [tab_length] using hx'
    · have e : j = xss.length := by omega
      subst e
      repeat' (first | refine hl_a ?_ | refine hq_a ?_ | refine hl_nil ?_ | refine hq_nil ?_ | refine hq_ga ?_ | refine hq_sk ?_ | refine hq_su ?_ | refine hq_gT ?_ | refine hq_gF ?_ | refine hq_gd (fun h => ?_) (fun h => ?_) | refine hl_ga ?_ | refine hl_sk ?_ | refine hl_su ?_ | refine hl_gT ?_ | refine hl_gF ?_ | refine hl_gd (fun h => ?_) (fun h => ?_) | refine hx_next ?_ | refine hw_seq ?_ | refine hw_region ?_ | refine hw_dr ?_ | refine hw_block ?_ | refine hx_block ?_ | refine hw_tt ?_ | refine hw_ff ?_ | refine hw_iT ?_ | refine hw_iF ?_ | refine hw_skip ?_ | refine hw_ret ?_ | refine hw_exit ?_ | refine hx_then_ret ?_ | refine hx_block_ret ?_ | refine hx_then_exit ?_ | refine hx_block_here ?_ | refine hx_far ?_ | refine hx_any ?_ | (apply ha_end; decide +kernel))
      refine hl_push 2 rfl (by decide) (by decide) rfl hx.one rfl (fun b => rfl) (by omega) (by decide) (fun u' b hu' => ?_)
      repeat' (first | refine hl_a ?_ | refine hq_a ?_ | refine hl_nil ?_ | refine hq_nil ?_ | refine hq_ga ?_ | refine hq_sk ?_ | refine hq_su ?_ | refine hq_gT ?_ | refine hq_gF ?_ | refine hq_gd (fun h => ?_) (fun h => ?_) | refine hl_ga ?_ | refine hl_sk ?_ | refine hl_su ?_ | refine hl_gT ?_ | refine hl_gF ?_ | refine hl_gd (fun h => ?_) (fun h => ?_) | refine hx_next ?_ | refine hw_seq ?_ | refine hw_region ?_ | refine hw_dr ?_ | refine hw_block ?_ | refine hx_block ?_ | refine hw_tt ?_ | refine hw_ff ?_ | refine hw_iT ?_ | refine hw_iF ?_ | refine hw_skip ?_ | refine hw_ret ?_ | refine hw_exit ?_ | refine hx_then_ret ?_ | refine hx_block_ret ?_ | refine hx_then_exit ?_ | refine hx_block_here ?_ | refine hx_far ?_ | refine hx_any ?_ | (apply ha_end; decide +kernel))
      refine hl_storeB 1 rfl rfl rfl rfl rfl hu'.one ?_
      repeat' (first | refine hl_a ?_ | refine hq_a ?_ | refine hl_nil ?_ | refine hq_nil ?_ | refine hq_ga ?_ | refine hq_sk ?_ | refine hq_su ?_ | refine hq_gT ?_ | refine hq_gF ?_ | refine hq_gd (fun h => ?_) (fun h => ?_) | refine hl_ga ?_ | refine hl_sk ?_ | refine hl_su ?_ | refine hl_gT ?_ | refine hl_gF ?_ | refine hl_gd (fun h => ?_) (fun h => ?_) | refine hx_next ?_ | refine hw_seq ?_ | refine hw_region ?_ | refine hw_dr ?_ | refine hw_block ?_ | refine hx_block ?_ | refine hw_tt ?_ | refine hw_ff ?_ | refine hw_iT ?_ | refine hw_iF ?_ | refine hw_skip ?_ | refine hw_ret ?_ | refine hw_exit ?_ | refine hx_then_ret ?_ | refine hx_block_ret ?_ | refine hx_then_exit ?_ | refine hx_block_here ?_ | refine hx_far ?_ | refine hx_any ?_ | (apply ha_end; decide +kernel))
      refine hx_mem (rs' := [rBlk b0 #[.int .i64 0, .int .i64 0, .slice none 0 0] 28, rBlk b1 #[.int .i64 (xss.length : Int), .int .i64 (2 * tot * tot'), u'] 28, rOwn 34 1 u' (k + 1) (vs ++ [x]), rStar (rRow 2 (Value.int .i64) (vs ++ [x]) (tab (k + 1) fun s => tab xss.length (mixF xss yss tot tot' s)))]) (fun w hm => ?_) ?_
      · rw [tab_succ]
        show Mem _ [_, _, _, rStar (rRow _ _ (vs ++ [x]) (_ ++ [_]))] w
        rw [rRow_snoc _ _ _ _ (by rw [tab_length]; exact hvs)]
        exact Mem.pack [_, _, _] hm
      · exact hx_round ⟨k + 1, u', vs ++ [x], rfl, by simp [hvs], hk2, rfl, rfl⟩ (by omega) ⟨rfl, rfl, rfl, rfl, rfl, trivial⟩
  · have e : k = xss.length := by omega
    subst e
    refine hw_own 2 rfl (fun hu => ?_)
    repeat' (first | refine hl_a ?_ | refine hq_a ?_ | refine hl_nil ?_ | refine hq_nil ?_ | refine hq_ga ?_ | refine hq_sk ?_ | refine hq_su ?_ | refine hq_gT ?_ | refine hq_gF ?_ | refine hq_gd (fun h => ?_) (fun h => ?_) | refine hl_ga ?_ | refine hl_sk ?_ | refine hl_su ?_ | refine hl_gT ?_ | refine hl_gF ?_ | refine hl_gd (fun h => ?_) (fun h => ?_) | refine hx_next ?_ | refine hw_seq ?_ | refine hw_region ?_ | refine hw_dr ?_ | refine hw_block ?_ | refine hx_block ?_ | refine hw_tt ?_ | refine hw_ff ?_ | refine hw_iT ?_ | refine hw_iF ?_ | refine hw_skip ?_ | refine hw_ret ?_ | refine hw_exit ?_ | refine hx_then_ret ?_ | refine hx_block_ret ?_ | refine hx_then_exit ?_ | refine hx_block_here ?_ | refine hx_far ?_ | refine hx_any ?_ | (apply ha_end; decide +kernel))
    refine hl_storeA 0 rfl rfl rfl rfl rfl (chV_one hu) ?_
    repeat' (first | refine hl_a ?_ | refine hq_a ?_ | refine hl_nil ?_ | refine hq_nil ?_ | refine hq_ga ?_ | refine hq_sk ?_ | refine hq_su ?_ | refine hq_gT ?_ | refine hq_gF ?_ | refine hq_gd (fun h => ?_) (fun h => ?_) | refine hl_ga ?_ | refine hl_sk ?_ | refine hl_su ?_ | refine hl_gT ?_ | refine hl_gF ?_ | refine hl_gd (fun h => ?_) (fun h => ?_) | refine hx_next ?_ | refine hw_seq ?_ | refine hw_region ?_ | refine hw_dr ?_ | refine hw_block ?_ | refine hx_block ?_ | refine hw_tt ?_ | refine hw_ff ?_ | refine hw_iT ?_ | refine hw_iF ?_ | refine hw_skip ?_ | refine hw_ret ?_ | refine hw_exit ?_ | refine hx_then_ret ?_ | refine hx_block_ret ?_ | refine hx_then_exit ?_ | refine hx_block_here ?_ | refine hx_far ?_ | refine hx_any ?_ | (apply ha_end; decide +kernel))
    exact hx_retB 0 rfl rfl rfl rfl (fun w hm => ⟨_, _, rfl, hm.rows 2 3 hvs.symm (by decide) rfl rfl, u, vs, rfl, rfl, by simp [mat_length, hvs], by simpa [mat_length] using hu⟩)
end Go.Proofs.Ytkcjinibfkkboaa
