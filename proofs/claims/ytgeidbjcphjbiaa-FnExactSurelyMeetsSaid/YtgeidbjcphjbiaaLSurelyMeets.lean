/- FnExactSurelyMeets: the program's SurelyMeets answers as the reference's does, for all arguments; it leaves its arguments as they were. No condition. -/
import Derived.Test.YtgeidbjcphjbiaaF71
import Derived.Test.YtgeidbjcphjbiaaOpen
namespace Go.Proofs.Ytgeidbjcphjbiaa.surelyMeets
open Go.Eng Go.RowKit Go.ChangeShapes Go.WideShapes Go.ChangeAt
set_option linter.unusedVariables false

theorem own : ownKnob Try.prog.godebug = none := by kernel_rfl
theorem laid : laidOutB Try.prog = true := by kernel_rfl

set_option maxHeartbeats 4000000 in
theorem walk (st0 tot0 : Int) (v0 : Value) (xss0 : List (List Int)) (row0 : Nat → Value) (st1 tot1 : Int) (v1 : Value) (xss1 : List (List Int)) (row1 : Nat → Value) (a2 : Int) (a3 : Int) (w : World) (hr0 : RdS (Value.int .i64) 0 w v0 xss0 row0) (hr1 : RdS (Value.int .i64) 0 w v1 xss1 row1) (ha2 : I64 a2) (ha3 : I64 a3) :
    Ret Try.prog 10 [chV st0 tot0 v0, chV st1 tot1 v1, .int .i64 a2, .int .i64 a3] w (.bool true) := by
  refine calls_hw Try.func10 Try.ntmps10 rfl rfl ?_
  have ne1 : ¬ ((decide (smP st0 tot0 xss0 st1 tot1 xss1 a2 a3)) ≠ (decide (smP st0 tot0 xss0 st1 tot1 xss1 a2 a3))) := fun h => h rfl
  have ne2 : ¬ ((pcC st0 tot0 xss0 st1 tot1 xss1 a2 a3) ≠ (pcC st0 tot0 xss0 st1 tot1 xss1 a2 a3)) := fun h => h rfl
  repeat' (first | refine hl_a ?_ | refine hq_a ?_ | refine hl_nil ?_ | refine hq_nil ?_ | refine hq_ga ?_ | refine hq_sk ?_ | refine hq_su ?_ | refine hq_gT ?_ | refine hq_gF ?_ | refine hq_gd (fun h => ?_) (fun h => ?_) | refine hl_ga ?_ | refine hl_sk ?_ | refine hl_su ?_ | refine hl_gT ?_ | refine hl_gF ?_ | refine hl_gd (fun h => ?_) (fun h => ?_) | refine hx_next ?_ | refine hw_seq ?_ | refine hw_region ?_ | refine hw_dr ?_ | refine hw_block ?_ | refine hx_block ?_ | refine hw_tt ?_ | refine hw_ff ?_ | refine hw_iT ?_ | refine hw_iF ?_ | refine hw_skip ?_ | refine hw_ret ?_ | refine hw_exit ?_ | refine hx_then_ret ?_ | refine hx_block_ret ?_ | refine hx_then_exit ?_ | refine hx_block_here ?_ | refine hx_far ?_ | refine hx_any ?_ | (apply ha_end; decide +kernel))
  refine hl_box (by decide) rfl (fun b3 => ?_)
  repeat' (first | refine hl_a ?_ | refine hq_a ?_ | refine hl_nil ?_ | refine hq_nil ?_ | refine hq_ga ?_ | refine hq_sk ?_ | refine hq_su ?_ | refine hq_gT ?_ | refine hq_gF ?_ | refine hq_gd (fun h => ?_) (fun h => ?_) | refine hl_ga ?_ | refine hl_sk ?_ | refine hl_su ?_ | refine hl_gT ?_ | refine hl_gF ?_ | refine hl_gd (fun h => ?_) (fun h => ?_) | refine hx_next ?_ | refine hw_seq ?_ | refine hw_region ?_ | refine hw_dr ?_ | refine hw_block ?_ | refine hx_block ?_ | refine hw_tt ?_ | refine hw_ff ?_ | refine hw_iT ?_ | refine hw_iF ?_ | refine hw_skip ?_ | refine hw_ret ?_ | refine hw_exit ?_ | refine hx_then_ret ?_ | refine hx_block_ret ?_ | refine hx_then_exit ?_ | refine hx_block_here ?_ | refine hx_far ?_ | refine hx_any ?_ | (apply ha_end; decide +kernel))
  refine hl_box (by decide) rfl (fun b4 => ?_)
  repeat' (first | refine hl_a ?_ | refine hq_a ?_ | refine hl_nil ?_ | refine hq_nil ?_ | refine hq_ga ?_ | refine hq_sk ?_ | refine hq_su ?_ | refine hq_gT ?_ | refine hq_gF ?_ | refine hq_gd (fun h => ?_) (fun h => ?_) | refine hl_ga ?_ | refine hl_sk ?_ | refine hl_su ?_ | refine hl_gT ?_ | refine hl_gF ?_ | refine hl_gd (fun h => ?_) (fun h => ?_) | refine hx_next ?_ | refine hw_seq ?_ | refine hw_region ?_ | refine hw_dr ?_ | refine hw_block ?_ | refine hx_block ?_ | refine hw_tt ?_ | refine hw_ff ?_ | refine hw_iT ?_ | refine hw_iF ?_ | refine hw_skip ?_ | refine hw_ret ?_ | refine hw_exit ?_ | refine hx_then_ret ?_ | refine hx_block_ret ?_ | refine hx_then_exit ?_ | refine hx_block_here ?_ | refine hx_far ?_ | refine hx_any ?_ | (apply ha_end; decide +kernel))
  refine hl_call (by decide) (fun w hm => szChain_c st0 tot0 1048576 (by decide) (by decide) v0 xss0 _ w (hr0.up hm.below)) rfl ?_
  rintro _ _ ⟨rfl, r5, rfl, hszr5⟩
  repeat' (first | refine hl_a ?_ | refine hq_a ?_ | refine hl_nil ?_ | refine hq_nil ?_ | refine hq_ga ?_ | refine hq_sk ?_ | refine hq_su ?_ | refine hq_gT ?_ | refine hq_gF ?_ | refine hq_gd (fun h => ?_) (fun h => ?_) | refine hl_ga ?_ | refine hl_sk ?_ | refine hl_su ?_ | refine hl_gT ?_ | refine hl_gF ?_ | refine hl_gd (fun h => ?_) (fun h => ?_) | refine hx_next ?_ | refine hw_seq ?_ | refine hw_region ?_ | refine hw_dr ?_ | refine hw_block ?_ | refine hx_block ?_ | refine hw_tt ?_ | refine hw_ff ?_ | refine hw_iT ?_ | refine hw_iF ?_ | refine hw_skip ?_ | refine hw_ret ?_ | refine hw_exit ?_ | refine hx_then_ret ?_ | refine hx_block_ret ?_ | refine hx_then_exit ?_ | refine hx_block_here ?_ | refine hx_far ?_ | refine hx_any ?_ | (apply ha_end; decide +kernel))
  refine hw_if rfl (fun h => ?_) (fun h => ?_)
  · repeat' (first | refine hl_a ?_ | refine hq_a ?_ | refine hl_nil ?_ | refine hq_nil ?_ | refine hq_ga ?_ | refine hq_sk ?_ | refine hq_su ?_ | refine hq_gT ?_ | refine hq_gF ?_ | refine hq_gd (fun h => ?_) (fun h => ?_) | refine hl_ga ?_ | refine hl_sk ?_ | refine hl_su ?_ | refine hl_gT ?_ | refine hl_gF ?_ | refine hl_gd (fun h => ?_) (fun h => ?_) | refine hx_next ?_ | refine hw_seq ?_ | refine hw_region ?_ | refine hw_dr ?_ | refine hw_block ?_ | refine hx_block ?_ | refine hw_tt ?_ | refine hw_ff ?_ | refine hw_iT ?_ | refine hw_iF ?_ | refine hw_skip ?_ | refine hw_ret ?_ | refine hw_exit ?_ | refine hx_then_ret ?_ | refine hx_block_ret ?_ | refine hx_then_exit ?_ | refine hx_block_here ?_ | refine hx_far ?_ | refine hx_any ?_ | (apply ha_end; decide +kernel))
    exact hx_ret1 rfl rfl (fun w hm => ⟨rfl, hm.none⟩)
  obtain ⟨har5, hbr5, hsmr5⟩ := hszr5.resolve_left (by omega)
  have hlenr5 := lens_small hsmr5
  repeat' (first | refine hl_a ?_ | refine hq_a ?_ | refine hl_nil ?_ | refine hq_nil ?_ | refine hq_ga ?_ | refine hq_sk ?_ | refine hq_su ?_ | refine hq_gT ?_ | refine hq_gF ?_ | refine hq_gd (fun h => ?_) (fun h => ?_) | refine hl_ga ?_ | refine hl_sk ?_ | refine hl_su ?_ | refine hl_gT ?_ | refine hl_gF ?_ | refine hl_gd (fun h => ?_) (fun h => ?_) | refine hx_next ?_ | refine hw_seq ?_ | refine hw_region ?_ | refine hw_dr ?_ | refine hw_block ?_ | refine hx_block ?_ | refine hw_tt ?_ | refine hw_ff ?_ | refine hw_iT ?_ | refine hw_iF ?_ | refine hw_skip ?_ | refine hw_ret ?_ | refine hw_exit ?_ | refine hx_then_ret ?_ | refine hx_block_ret ?_ | refine hx_then_exit ?_ | refine hx_block_here ?_ | refine hx_far ?_ | refine hx_any ?_ | (apply ha_end; decide +kernel))
  refine hl_call (by decide) (fun w hm => szCoupled_c st1 tot1 r5 har5 hbr5 v1 xss1 _ w (hr1.up hm.below)) rfl ?_
  rintro _ _ ⟨rfl, r6, rfl, hszr6⟩
  repeat' (first | refine hl_a ?_ | refine hq_a ?_ | refine hl_nil ?_ | refine hq_nil ?_ | refine hq_ga ?_ | refine hq_sk ?_ | refine hq_su ?_ | refine hq_gT ?_ | refine hq_gF ?_ | refine hq_gd (fun h => ?_) (fun h => ?_) | refine hl_ga ?_ | refine hl_sk ?_ | refine hl_su ?_ | refine hl_gT ?_ | refine hl_gF ?_ | refine hl_gd (fun h => ?_) (fun h => ?_) | refine hx_next ?_ | refine hw_seq ?_ | refine hw_region ?_ | refine hw_dr ?_ | refine hw_block ?_ | refine hx_block ?_ | refine hw_tt ?_ | refine hw_ff ?_ | refine hw_iT ?_ | refine hw_iF ?_ | refine hw_skip ?_ | refine hw_ret ?_ | refine hw_exit ?_ | refine hx_then_ret ?_ | refine hx_block_ret ?_ | refine hx_then_exit ?_ | refine hx_block_here ?_ | refine hx_far ?_ | refine hx_any ?_ | (apply ha_end; decide +kernel))
  refine hw_if rfl (fun h => ?_) (fun h => ?_)
  · repeat' (first | refine hl_a ?_ | refine hq_a ?_ | refine hl_nil ?_ | refine hq_nil ?_ | refine hq_ga ?_ | refine hq_sk ?_ | refine hq_su ?_ | refine hq_gT ?_ | refine hq_gF ?_ | refine hq_gd (fun h => ?_) (fun h => ?_) | refine hl_ga ?_ | refine hl_sk ?_ | refine hl_su ?_ | refine hl_gT ?_ | refine hl_gF ?_ | refine hl_gd (fun h => ?_) (fun h => ?_) | refine hx_next ?_ | refine hw_seq ?_ | refine hw_region ?_ | refine hw_dr ?_ | refine hw_block ?_ | refine hx_block ?_ | refine hw_tt ?_ | refine hw_ff ?_ | refine hw_iT ?_ | refine hw_iF ?_ | refine hw_skip ?_ | refine hw_ret ?_ | refine hw_exit ?_ | refine hx_then_ret ?_ | refine hx_block_ret ?_ | refine hx_then_exit ?_ | refine hx_block_here ?_ | refine hx_far ?_ | refine hx_any ?_ | (apply ha_end; decide +kernel))
    exact hx_ret1 rfl rfl (fun w hm => ⟨rfl, hm.none⟩)
  obtain ⟨har6, hbr6, hsmr6⟩ := hszr6.resolve_left (by omega)
  have hlenr6 := lens_small hsmr6
  repeat' (first | refine hl_a ?_ | refine hq_a ?_ | refine hl_nil ?_ | refine hq_nil ?_ | refine hq_ga ?_ | refine hq_sk ?_ | refine hq_su ?_ | refine hq_gT ?_ | refine hq_gF ?_ | refine hq_gd (fun h => ?_) (fun h => ?_) | refine hl_ga ?_ | refine hl_sk ?_ | refine hl_su ?_ | refine hl_gT ?_ | refine hl_gF ?_ | refine hl_gd (fun h => ?_) (fun h => ?_) | refine hx_next ?_ | refine hw_seq ?_ | refine hw_region ?_ | refine hw_block ?_ | refine hx_block ?_ | refine hw_tt ?_ | refine hw_ff ?_ | refine hw_iT ?_ | refine hw_iF ?_ | refine hw_skip ?_ | refine hw_ret ?_ | refine hw_exit ?_ | refine hx_then_ret ?_ | refine hx_block_ret ?_ | refine hx_then_exit ?_ | refine hx_block_here ?_ | refine hx_far ?_ | refine hx_any ?_ | (apply ha_end; decide +kernel))
  refine hw_heldE (σ := Unit) [rBlk b3 (chV st0 tot0 v0).cells 26, rBlk b4 (chV st1 tot1 v1).cells 66] (fun _ => [(2, .int .i64 a2), (3, .int .i64 a3), (4, .pointer (some ⟨b3, 0, none⟩)), (5, .pointer (some ⟨b4, 0, none⟩)), (10, .bool (decide (smP st0 tot0 xss0 st1 tot1 xss1 a2 a3))), (11, .int .i64 (pcC st0 tot0 xss0 st1 tot1 xss1 a2 a3))]) (fun _ => [rBlk b3 (chV st0 tot0 v0).cells 26, rBlk b4 (chV st1 tot1 v1).cells 66]) (fun _ => True) (by kernel_rfl) ?_ ?_
  · skip
    refine hb_take 0 rfl (by decide) (by decide +kernel) (by decide +kernel) (by decide +kernel) (fun _ _ _ h => h) (fun w hm => Mem.keep _ hm) (qv_q rfl (q_loadB 0 rfl rfl rfl)) ?_
    refine hb_take 2 rfl (by decide) (by decide +kernel) (by decide +kernel) (by decide +kernel) (fun _ _ _ h => h) (fun w hm => Mem.keep _ hm) (qv_q rfl (q_loadB 1 rfl rfl rfl)) ?_
    refine hb_take 4 rfl (by decide) (by decide +kernel) (by decide +kernel) (by decide +kernel) (fun _ _ _ h => h) (fun w hm => Mem.keep _ hm) (qv_q rfl (q_move rfl)) ?_
    refine hb_take 5 rfl (by decide) (by decide +kernel) (by decide +kernel) (by decide +kernel) (fun _ _ _ h => h) (fun w hm => Mem.keep _ hm) (qv_q rfl (q_move rfl)) ?_
    refine hb_1 1 (by decide +kernel) rfl ?_
    refine hl_call (by decide) (fun w hm => toChain_c st0 tot0 v0 xss0 _ w (hr0.up hm.below) hsmr5) rfl ?_
    rintro _ _ ⟨u15, vs16, rfl, rfl, hl17, hu18⟩
    refine hl_nil ?_
    refine hx_hb (fun w hm => Mem.keep _ hm) ?_
    refine hb_1 3 (by decide +kernel) rfl ?_
    refine hl_call (by decide) (fun w hm => toCoupled_c st1 tot1 v1 xss1 _ w (hr1.up hm.below) hsmr6) rfl ?_
    rintro _ _ ⟨u19, vs20, rfl, rfl, hl21, hu22⟩
    refine hl_nil ?_
    refine hx_hb (fun w hm => Mem.keep _ hm) ?_
    refine hb_1 6 (by decide +kernel) rfl ?_
    refine hl_q (by decide) (q_call (fun w hm => specSurelyMeets_c st0 tot0 u15 xss0 _ st1 tot1 u19 xss1 _ a2 a3 w (hm.rdS 2 rfl hl17 _) (hm.rdS 3 rfl hl21 _) ha2 ha3) rfl) ?_
    refine hl_nil ?_
    refine hx_hb (fun w hm => Mem.keep _ hm) ?_
    refine hb_take 7 rfl (by decide) (by decide +kernel) (by decide +kernel) (by decide +kernel) (fun _ _ _ h => h) (fun w hm => Mem.keep _ hm) (qv_q rfl (q_move rfl)) ?_
    refine hb_take 8 rfl (by decide) (by decide +kernel) (by decide +kernel) (by decide +kernel) (fun _ _ _ h => h) (fun w hm => Mem.keep _ hm) (qv_q rfl (q_ext rfl rfl)) ?_
    refine hb_take 9 rfl (by decide) (by decide +kernel) (by decide +kernel) (by decide +kernel) (fun _ _ _ h => h) (fun w hm => Mem.keep _ hm) (qv_q rfl (q_ext rfl rfl)) ?_
    refine hb_take 10 rfl (by decide) (by decide +kernel) (by decide +kernel) (by decide +kernel) (fun _ _ _ h => h) (fun w hm => Mem.keep _ hm) (qv_q rfl (q_assign rfl)) ?_
    refine hb_take 11 rfl (by decide) (by decide +kernel) (by decide +kernel) (by decide +kernel) (fun _ _ _ h => h) (fun w hm => Mem.keep _ hm) (qv_q rfl (q_assign rfl)) ?_
    refine hb_end (by decide +kernel) ?_
    exact hx_joinE () trivial (by simp [Env.le, Env.at, envOf]) (fun w hm => Mem.keep _ hm)
  intro _ _
  repeat' (first | refine hl_a ?_ | refine hq_a ?_ | refine hl_nil ?_ | refine hq_nil ?_ | refine hq_ga ?_ | refine hq_sk ?_ | refine hq_su ?_ | refine hq_gT ?_ | refine hq_gF ?_ | refine hq_gd (fun h => ?_) (fun h => ?_) | refine hl_ga ?_ | refine hl_sk ?_ | refine hl_su ?_ | refine hl_gT ?_ | refine hl_gF ?_ | refine hl_gd (fun h => ?_) (fun h => ?_) | refine hx_next ?_ | refine hw_seq ?_ | refine hw_region ?_ | refine hw_dr ?_ | refine hw_block ?_ | refine hx_block ?_ | refine hw_tt ?_ | refine hw_ff ?_ | refine hw_iT ?_ | refine hw_iF ?_ | refine hw_skip ?_ | refine hw_ret ?_ | refine hw_exit ?_ | refine hx_then_ret ?_ | refine hx_block_ret ?_ | refine hx_then_exit ?_ | refine hx_block_here ?_ | refine hx_far ?_ | refine hx_any ?_ | (apply ha_end; decide +kernel))
  refine hl_call (by decide) (fun w hm => toChain_c st0 tot0 v0 xss0 _ w (hr0.up hm.below) hsmr5) rfl ?_
  rintro _ _ ⟨u23, vs24, rfl, rfl, hl25, hu26⟩
  repeat' (first | refine hl_a ?_ | refine hq_a ?_ | refine hl_nil ?_ | refine hq_nil ?_ | refine hq_ga ?_ | refine hq_sk ?_ | refine hq_su ?_ | refine hq_gT ?_ | refine hq_gF ?_ | refine hq_gd (fun h => ?_) (fun h => ?_) | refine hl_ga ?_ | refine hl_sk ?_ | refine hl_su ?_ | refine hl_gT ?_ | refine hl_gF ?_ | refine hl_gd (fun h => ?_) (fun h => ?_) | refine hx_next ?_ | refine hw_seq ?_ | refine hw_region ?_ | refine hw_dr ?_ | refine hw_block ?_ | refine hx_block ?_ | refine hw_tt ?_ | refine hw_ff ?_ | refine hw_iT ?_ | refine hw_iF ?_ | refine hw_skip ?_ | refine hw_ret ?_ | refine hw_exit ?_ | refine hx_then_ret ?_ | refine hx_block_ret ?_ | refine hx_then_exit ?_ | refine hx_block_here ?_ | refine hx_far ?_ | refine hx_any ?_ | (apply ha_end; decide +kernel))
  refine hl_alloc (by decide) (fun b27 => ?_)
  repeat' (first | refine hl_a ?_ | refine hq_a ?_ | refine hl_nil ?_ | refine hq_nil ?_ | refine hq_ga ?_ | refine hq_sk ?_ | refine hq_su ?_ | refine hq_gT ?_ | refine hq_gF ?_ | refine hq_gd (fun h => ?_) (fun h => ?_) | refine hl_ga ?_ | refine hl_sk ?_ | refine hl_su ?_ | refine hl_gT ?_ | refine hl_gF ?_ | refine hl_gd (fun h => ?_) (fun h => ?_) | refine hx_next ?_ | refine hw_seq ?_ | refine hw_region ?_ | refine hw_dr ?_ | refine hw_block ?_ | refine hx_block ?_ | refine hw_tt ?_ | refine hw_ff ?_ | refine hw_iT ?_ | refine hw_iF ?_ | refine hw_skip ?_ | refine hw_ret ?_ | refine hw_exit ?_ | refine hx_then_ret ?_ | refine hx_block_ret ?_ | refine hx_then_exit ?_ | refine hx_block_here ?_ | refine hx_far ?_ | refine hx_any ?_ | (apply ha_end; decide +kernel))
  refine hl_storeA 3 rfl rfl rfl rfl rfl (chV_one hu26) ?_
  repeat' (first | refine hl_a ?_ | refine hq_a ?_ | refine hl_nil ?_ | refine hq_nil ?_ | refine hq_ga ?_ | refine hq_sk ?_ | refine hq_su ?_ | refine hq_gT ?_ | refine hq_gF ?_ | refine hq_gd (fun h => ?_) (fun h => ?_) | refine hl_ga ?_ | refine hl_sk ?_ | refine hl_su ?_ | refine hl_gT ?_ | refine hl_gF ?_ | refine hl_gd (fun h => ?_) (fun h => ?_) | refine hx_next ?_ | refine hw_seq ?_ | refine hw_region ?_ | refine hw_dr ?_ | refine hw_block ?_ | refine hx_block ?_ | refine hw_tt ?_ | refine hw_ff ?_ | refine hw_iT ?_ | refine hw_iF ?_ | refine hw_skip ?_ | refine hw_ret ?_ | refine hw_exit ?_ | refine hx_then_ret ?_ | refine hx_block_ret ?_ | refine hx_then_exit ?_ | refine hx_block_here ?_ | refine hx_far ?_ | refine hx_any ?_ | (apply ha_end; decide +kernel))
  refine hl_call (by decide) (fun w hm => toCoupled_c st1 tot1 v1 xss1 _ w (hr1.up hm.below) hsmr6) rfl ?_
  rintro _ _ ⟨u28, vs29, rfl, rfl, hl30, hu31⟩
  repeat' (first | refine hl_a ?_ | refine hq_a ?_ | refine hl_nil ?_ | refine hq_nil ?_ | refine hq_ga ?_ | refine hq_sk ?_ | refine hq_su ?_ | refine hq_gT ?_ | refine hq_gF ?_ | refine hq_gd (fun h => ?_) (fun h => ?_) | refine hl_ga ?_ | refine hl_sk ?_ | refine hl_su ?_ | refine hl_gT ?_ | refine hl_gF ?_ | refine hl_gd (fun h => ?_) (fun h => ?_) | refine hx_next ?_ | refine hw_seq ?_ | refine hw_region ?_ | refine hw_dr ?_ | refine hw_block ?_ | refine hx_block ?_ | refine hw_tt ?_ | refine hw_ff ?_ | refine hw_iT ?_ | refine hw_iF ?_ | refine hw_skip ?_ | refine hw_ret ?_ | refine hw_exit ?_ | refine hx_then_ret ?_ | refine hx_block_ret ?_ | refine hx_then_exit ?_ | refine hx_block_here ?_ | refine hx_far ?_ | refine hx_any ?_ | (apply ha_end; decide +kernel) | (apply hl_q; decide; (first | exact q_loadB 4 rfl rfl rfl)) | (apply hq_q; decide; (first | exact q_loadB 4 rfl rfl rfl)) | (apply hq_g; rfl; rfl; decide; (first | exact q_loadB 4 rfl rfl rfl)) | (apply hl_g; rfl; rfl; decide; (first | exact q_loadB 4 rfl rfl rfl)))
  refine hl_alloc (by decide) (fun b32 => ?_)
  repeat' (first | refine hl_a ?_ | refine hq_a ?_ | refine hl_nil ?_ | refine hq_nil ?_ | refine hq_ga ?_ | refine hq_sk ?_ | refine hq_su ?_ | refine hq_gT ?_ | refine hq_gF ?_ | refine hq_gd (fun h => ?_) (fun h => ?_) | refine hl_ga ?_ | refine hl_sk ?_ | refine hl_su ?_ | refine hl_gT ?_ | refine hl_gF ?_ | refine hl_gd (fun h => ?_) (fun h => ?_) | refine hx_next ?_ | refine hw_seq ?_ | refine hw_region ?_ | refine hw_dr ?_ | refine hw_block ?_ | refine hx_block ?_ | refine hw_tt ?_ | refine hw_ff ?_ | refine hw_iT ?_ | refine hw_iF ?_ | refine hw_skip ?_ | refine hw_ret ?_ | refine hw_exit ?_ | refine hx_then_ret ?_ | refine hx_block_ret ?_ | refine hx_then_exit ?_ | refine hx_block_here ?_ | refine hx_far ?_ | refine hx_any ?_ | (apply ha_end; decide +kernel) | (apply hl_q; decide; (first | exact q_loadB 4 rfl rfl rfl | exact q_loadB 5 rfl rfl rfl)) | (apply hq_q; decide; (first | exact q_loadB 4 rfl rfl rfl | exact q_loadB 5 rfl rfl rfl)) | (apply hq_g; rfl; rfl; decide; (first | exact q_loadB 4 rfl rfl rfl | exact q_loadB 5 rfl rfl rfl)) | (apply hl_g; rfl; rfl; decide; (first | exact q_loadB 4 rfl rfl rfl | exact q_loadB 5 rfl rfl rfl)))
  refine hl_storeA 5 rfl rfl rfl rfl rfl (chV_one hu31) ?_
  repeat' (first | refine hl_a ?_ | refine hq_a ?_ | refine hl_nil ?_ | refine hq_nil ?_ | refine hq_ga ?_ | refine hq_sk ?_ | refine hq_su ?_ | refine hq_gT ?_ | refine hq_gF ?_ | refine hq_gd (fun h => ?_) (fun h => ?_) | refine hl_ga ?_ | refine hl_sk ?_ | refine hl_su ?_ | refine hl_gT ?_ | refine hl_gF ?_ | refine hl_gd (fun h => ?_) (fun h => ?_) | refine hx_next ?_ | refine hw_seq ?_ | refine hw_region ?_ | refine hw_block ?_ | refine hx_block ?_ | refine hw_tt ?_ | refine hw_ff ?_ | refine hw_iT ?_ | refine hw_iF ?_ | refine hw_skip ?_ | refine hw_ret ?_ | refine hw_exit ?_ | refine hx_then_ret ?_ | refine hx_block_ret ?_ | refine hx_then_exit ?_ | refine hx_block_here ?_ | refine hx_far ?_ | refine hx_any ?_ | (apply ha_end; decide +kernel) | (apply hl_q; decide; (first | exact q_loadB 4 rfl rfl rfl | exact q_loadB 5 rfl rfl rfl | exact q_call (fun w hm => implSurelyMeets_c st0 tot0 u23 xss0 _ st1 tot1 u28 xss1 _ a2 a3 w (hm.rdS 2 rfl hl25 _) (hm.rdS 4 rfl hl30 _) ha2 ha3) rfl)) | (apply hq_q; decide; (first | exact q_loadB 4 rfl rfl rfl | exact q_loadB 5 rfl rfl rfl | exact q_call (fun w hm => implSurelyMeets_c st0 tot0 u23 xss0 _ st1 tot1 u28 xss1 _ a2 a3 w (hm.rdS 2 rfl hl25 _) (hm.rdS 4 rfl hl30 _) ha2 ha3) rfl)) | (apply hq_g; rfl; rfl; decide; (first | exact q_loadB 4 rfl rfl rfl | exact q_loadB 5 rfl rfl rfl | exact q_call (fun w hm => implSurelyMeets_c st0 tot0 u23 xss0 _ st1 tot1 u28 xss1 _ a2 a3 w (hm.rdS 2 rfl hl25 _) (hm.rdS 4 rfl hl30 _) ha2 ha3) rfl)) | (apply hl_g; rfl; rfl; decide; (first | exact q_loadB 4 rfl rfl rfl | exact q_loadB 5 rfl rfl rfl | exact q_call (fun w hm => implSurelyMeets_c st0 tot0 u23 xss0 _ st1 tot1 u28 xss1 _ a2 a3 w (hm.rdS 2 rfl hl25 _) (hm.rdS 4 rfl hl30 _) ha2 ha3) rfl)))
  refine hw_heldE (σ := Unit) [rBlk b3 (chV st0 tot0 v0).cells 26, rBlk b4 (chV st1 tot1 v1).cells 66, rRows 82 2 (Value.int .i64) u23 vs24 xss0, rBlk b27 #[.int .i64 st0, .int .i64 tot0, u23] 31, rRows 82 2 (Value.int .i64) u28 vs29 xss1, rBlk b32 #[.int .i64 st1, .int .i64 tot1, u28] 69] (fun _ => [(5, .pointer (some ⟨b4, 0, none⟩)), (13, .pointer (some ⟨b32, 0, none⟩)), (60, .bool false)]) (fun _ => [rBlk b3 (chV st0 tot0 v0).cells 26, rBlk b4 (chV st1 tot1 v1).cells 66, rRows 82 2 (Value.int .i64) u23 vs24 xss0, rBlk b27 #[.int .i64 st0, .int .i64 tot0, u23] 31, rRows 82 2 (Value.int .i64) u28 vs29 xss1, rBlk b32 #[.int .i64 st1, .int .i64 tot1, u28] 69]) (fun _ => True) (by kernel_rfl) ?_ ?_
  · skip
    refine hb_take 0 rfl (by decide) (by decide +kernel) (by decide +kernel) (by decide +kernel) (fun _ _ _ h => h) (fun w hm => Mem.keep _ hm) (qv_q rfl (q_loadB 3 rfl rfl rfl)) ?_
    refine hb_take 1 rfl (by decide) (by decide +kernel) (by decide +kernel) (by decide +kernel) (fun _ _ _ h => h) (fun w hm => Mem.keep _ hm) (qv_q rfl (q_loadB 0 rfl rfl rfl)) ?_
    refine hb_1 2 (by decide +kernel) rfl ?_
    refine hl_call (by decide) (fun w hm => toChain_c st0 tot0 v0 xss0 _ w (hr0.up hm.below) hsmr5) rfl ?_
    rintro _ _ ⟨u37, vs38, rfl, rfl, hl39, hu40⟩
    refine hl_nil ?_
    refine hx_hb (fun w hm => Mem.keep _ hm) ?_
    refine hb_1 3 (by decide +kernel) rfl ?_
    refine hl_q (by decide) (q_call (fun w hm => (eqChain_c st0 tot0 st0 tot0 _ _ _ _ _ _ w (hm.rdS 2 rfl hl25 _) (hm.rdS 6 rfl hl39 _)).tt ⟨rfl, rfl, rfl⟩) rfl) ?_
    refine hl_nil ?_
    refine hx_hb (fun w hm => Mem.keep _ hm) ?_
    refine hb_take 4 rfl (by decide) (by decide +kernel) (by decide +kernel) (by decide +kernel) (fun _ _ _ h => h) (fun w hm => Mem.keep _ hm) (qv_q rfl (q_not rfl)) ?_
    refine hb_end (by decide +kernel) ?_
    exact hx_joinE () trivial (by simp [Env.le, Env.at, envOf]) (fun w hm => Mem.keep _ hm)
  intro _ _
  repeat' (first | refine hl_a ?_ | refine hq_a ?_ | refine hl_nil ?_ | refine hq_nil ?_ | refine hq_ga ?_ | refine hq_sk ?_ | refine hq_su ?_ | refine hq_gT ?_ | refine hq_gF ?_ | refine hq_gd (fun h => ?_) (fun h => ?_) | refine hl_ga ?_ | refine hl_sk ?_ | refine hl_su ?_ | refine hl_gT ?_ | refine hl_gF ?_ | refine hl_gd (fun h => ?_) (fun h => ?_) | refine hx_next ?_ | refine hw_seq ?_ | refine hw_region ?_ | refine hw_block ?_ | refine hx_block ?_ | refine hw_tt ?_ | refine hw_ff ?_ | refine hw_iT ?_ | refine hw_iF ?_ | refine hw_skip ?_ | refine hw_ret ?_ | refine hw_exit ?_ | refine hx_then_ret ?_ | refine hx_block_ret ?_ | refine hx_then_exit ?_ | refine hx_block_here ?_ | refine hx_far ?_ | refine hx_any ?_ | (apply ha_end; decide +kernel) | (apply hl_q; decide; (first | exact q_loadB 4 rfl rfl rfl | exact q_loadB 5 rfl rfl rfl)) | (apply hq_q; decide; (first | exact q_loadB 4 rfl rfl rfl | exact q_loadB 5 rfl rfl rfl)) | (apply hq_g; rfl; rfl; decide; (first | exact q_loadB 4 rfl rfl rfl | exact q_loadB 5 rfl rfl rfl)) | (apply hl_g; rfl; rfl; decide; (first | exact q_loadB 4 rfl rfl rfl | exact q_loadB 5 rfl rfl rfl)))
  refine hw_heldE (σ := Unit) [rBlk b3 (chV st0 tot0 v0).cells 26, rBlk b4 (chV st1 tot1 v1).cells 66, rRows 82 2 (Value.int .i64) u23 vs24 xss0, rBlk b27 #[.int .i64 st0, .int .i64 tot0, u23] 31, rRows 82 2 (Value.int .i64) u28 vs29 xss1, rBlk b32 #[.int .i64 st1, .int .i64 tot1, u28] 69] (fun _ => [(65, .bool false)]) (fun _ => [rBlk b3 (chV st0 tot0 v0).cells 26, rBlk b4 (chV st1 tot1 v1).cells 66, rRows 82 2 (Value.int .i64) u23 vs24 xss0, rBlk b27 #[.int .i64 st0, .int .i64 tot0, u23] 31, rRows 82 2 (Value.int .i64) u28 vs29 xss1, rBlk b32 #[.int .i64 st1, .int .i64 tot1, u28] 69]) (fun _ => True) (by kernel_rfl) ?_ ?_
  · skip
    refine hb_take 0 rfl (by decide) (by decide +kernel) (by decide +kernel) (by decide +kernel) (fun _ _ _ h => h) (fun w hm => Mem.keep _ hm) (qv_q rfl (q_loadB 5 rfl rfl rfl)) ?_
    refine hb_take 1 rfl (by decide) (by decide +kernel) (by decide +kernel) (by decide +kernel) (fun _ _ _ h => h) (fun w hm => Mem.keep _ hm) (qv_q rfl (q_loadB 1 rfl rfl rfl)) ?_
    refine hb_1 2 (by decide +kernel) rfl ?_
    refine hl_call (by decide) (fun w hm => toCoupled_c st1 tot1 v1 xss1 _ w (hr1.up hm.below) hsmr6) rfl ?_
    rintro _ _ ⟨u45, vs46, rfl, rfl, hl47, hu48⟩
    refine hl_nil ?_
    refine hx_hb (fun w hm => Mem.keep _ hm) ?_
    refine hb_1 3 (by decide +kernel) rfl ?_
    refine hl_q (by decide) (q_call (fun w hm => (eqCoupled_c st1 tot1 st1 tot1 _ _ _ _ _ _ w (hm.rdS 4 rfl hl30 _) (hm.rdS 6 rfl hl47 _)).tt ⟨rfl, rfl, rfl⟩) rfl) ?_
    refine hl_nil ?_
    refine hx_hb (fun w hm => Mem.keep _ hm) ?_
    refine hb_take 4 rfl (by decide) (by decide +kernel) (by decide +kernel) (by decide +kernel) (fun _ _ _ h => h) (fun w hm => Mem.keep _ hm) (qv_q rfl (q_not rfl)) ?_
    refine hb_end (by decide +kernel) ?_
    exact hx_joinE () trivial (by simp [Env.le, Env.at, envOf]) (fun w hm => Mem.keep _ hm)
  intro _ _
  repeat' (first | refine hl_a ?_ | refine hq_a ?_ | refine hl_nil ?_ | refine hq_nil ?_ | refine hq_ga ?_ | refine hq_sk ?_ | refine hq_su ?_ | refine hq_gT ?_ | refine hq_gF ?_ | refine hq_gd (fun h => ?_) (fun h => ?_) | refine hl_ga ?_ | refine hl_sk ?_ | refine hl_su ?_ | refine hl_gT ?_ | refine hl_gF ?_ | refine hl_gd (fun h => ?_) (fun h => ?_) | refine hx_next ?_ | refine hw_seq ?_ | refine hw_region ?_ | refine hw_dr ?_ | refine hw_block ?_ | refine hx_block ?_ | refine hw_tt ?_ | refine hw_ff ?_ | refine hw_iT ?_ | refine hw_iF ?_ | refine hw_skip ?_ | refine hw_ret ?_ | refine hw_exit ?_ | refine hx_then_ret ?_ | refine hx_block_ret ?_ | refine hx_then_exit ?_ | refine hx_block_here ?_ | refine hx_far ?_ | refine hx_any ?_ | (apply ha_end; decide +kernel) | (apply hl_q; decide; (first | exact q_loadB 4 rfl rfl rfl | exact q_loadB 5 rfl rfl rfl)) | (apply hq_q; decide; (first | exact q_loadB 4 rfl rfl rfl | exact q_loadB 5 rfl rfl rfl)) | (apply hq_g; rfl; rfl; decide; (first | exact q_loadB 4 rfl rfl rfl | exact q_loadB 5 rfl rfl rfl)) | (apply hl_g; rfl; rfl; decide; (first | exact q_loadB 4 rfl rfl rfl | exact q_loadB 5 rfl rfl rfl)))
  exact hx_ret1 rfl rfl (fun w hm => ⟨rfl, hm.none⟩)

set_option maxRecDepth 100000 in
theorem lifted (os : Os) (started : os.Started) (H : Type) (enc : TypeId × Value → H) : ReturnsInHanded {} Try.checked os 10 .any (Rows.fnExactSurelyMeetsSpec.pre6 enc Try.prog Try.f10 Rows.fnExactSurelyMeetsRow.domain false) (Rows.fnExactSurelyMeetsSpec.post enc Try.prog Try.f10 false true false false) := by
  refine returnsInHanded_of_change (C := Try.checked) own started (by kernel_rfl) Try.func10 (ChangeSpec.witness6 (enc := enc) (C := Try.checked) false ⟨#[], #[.agg #[.int .i64 0, .int .i64 0, .slice none 0 0], .agg #[.int .i64 0, .int .i64 0, .slice none 0 0], .int .i64 0, .int .i64 0], []⟩ 8 (by kernel_rfl) (by kernel_rfl) (by kernel_rfl) (by kernel_rfl)) ?_
  intro W base args ds gs before hval0 hW hcnd _
  have hval : ∀ (j : Nat) t v, Try.f10.params[j]? = some t → args[j]? = some v → Value.okWide Try.prog W .any base t v := hval0
  have hW' := hW
  obtain ⟨p, q, hA0, hV, rfl, hfz, hnd⟩ := hW
  have hA : DataW.TrodAll enc Try.prog W 0 (fun _ => true) true Try.f10.params.toList args.toList ds p := hA0
  rw [Try.params10] at hA hval
  obtain ⟨v0, vs0, d0, ds0, p0, q0, hargs, rfl, rfl, h0, r0⟩ := trodAll_cons hA
  obtain ⟨v1, vs1, d1, ds1, p1, q1, rfl, rfl, rfl, h1, r1⟩ := trodAll_cons r0
  obtain ⟨v2, vs2, d2, ds2, p2, q2, rfl, rfl, rfl, h2, r2⟩ := trodAll_cons r1
  obtain ⟨v3, vs3, d3, ds3, p3, q3, rfl, rfl, rfl, h3, r3⟩ := trodAll_cons r2
  obtain ⟨rfl, rfl, rfl⟩ := trodAll_nil r3
  obtain rfl : args = #[v0, v1, v2, v3] := by cases args; simp_all
  obtain ⟨st0, tot0, u0, xss0, row0, rfl, hst0, htot0, hr0, _⟩ := rd_chain Try.underlying26 (by kernel_rfl) (by kernel_rfl) Try.underlying2 Try.underlying2 Try.underlying24 (by kernel_rfl) Try.underlying82 (by kernel_rfl) Try.underlying2 (hval 0 26 v0 rfl rfl) h0
  obtain ⟨st1, tot1, u1, xss1, row1, rfl, hst1, htot1, hr1, _⟩ := rd_chain Try.underlying66 (by kernel_rfl) (by kernel_rfl) Try.underlying2 Try.underlying2 Try.underlying24 (by kernel_rfl) Try.underlying82 (by kernel_rfl) Try.underlying2 (hval 1 66 v1 rfl rfl) h1
  obtain ⟨a2, rfl, _, _, ha2⟩ := open_int Try.underlying2 (hval 2 2 v2 rfl rfl) h2
  have ha2 : I64 a2 := by simpa [I64, Lit.wf, IntKind.min, IntKind.max, IntKind.signed, IntKind.bits] using ha2
  obtain ⟨a3, rfl, _, _, ha3⟩ := open_int Try.underlying2 (hval 3 2 v3 rfl rfl) h3
  have ha3 : I64 a3 := by simpa [I64, Lit.wf, IntKind.min, IntKind.max, IntKind.signed, IntKind.bits] using ha3
  refine (walk st0 tot0 u0 xss0 row0 st1 tot1 u1 xss1 row1 a2 a3 W hr0 hr1 ha2 ha3).mono fun e W' ⟨he, hm⟩ => ⟨_, he, ?_⟩
  exact law_post laid (by rw [Try.params10]; intro t ht; simp at ht; rcases ht with rfl | rfl | rfl <;> exact ⟨by kernel_rfl, by decide +kernel⟩) hW' rfl rfl Try.underlying4 rfl hm.below

theorem over : Rows.fnExactSurelyMeetsRow.holds Try.pinned (OpenSpec.ofChange Rows.fnExactSurelyMeetsSpec) := OpenClaim.holds_of_wide 10 Try.f10 rfl rfl rfl rfl rfl rfl rfl ⟨rfl, rfl, rfl, rfl, rfl⟩ rfl rfl rfl rfl rfl (by kernel_rfl) Try.func10 (by kernel_rfl) (of_decide_eq_true (by kernel_rfl)) (by unfold Func.isWrapper; first | (rw [if_pos (by decide +kernel)]; kernel_rfl) | (rw [if_neg (by decide +kernel)]; exact ⟨rfl, rfl⟩)) (fun os started H enc _ => lifted os started H enc)

theorem proved : Rows.FnExactSurelyMeetsSaid := over
#print axioms proved
end Go.Proofs.Ytgeidbjcphjbiaa.surelyMeets
