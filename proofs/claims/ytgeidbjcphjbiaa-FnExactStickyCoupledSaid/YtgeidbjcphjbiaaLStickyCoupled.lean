/- FnExactStickyCoupled: the program's StickyCoupled answers as the reference's does, for all arguments; it leaves its arguments as they were; what it hands back lies in memory of its own. No condition. -/
import Derived.Test.YtgeidbjcphjbiaaF45
import Derived.Test.YtgeidbjcphjbiaaOpen
namespace Go.Proofs.Ytgeidbjcphjbiaa.stickyCoupled
open Go.Eng Go.RowKit Go.ChangeShapes Go.WideShapes Go.ChangeAt
set_option linter.unusedVariables false

theorem own : ownKnob Try.prog.godebug = none := by kernel_rfl
theorem laid : laidOutB Try.prog = true := by kernel_rfl

set_option maxHeartbeats 4000000 in
theorem walk (st0 tot0 : Int) (v0 : Value) (xss0 : List (List Int)) (row0 : Nat → Value) (st1 tot1 : Int) (v1 : Value) (xss1 : List (List Int)) (row1 : Nat → Value) (w : World) (hr0 : RdS (Value.int .i64) 0 w v0 xss0 row0) (hr1 : RdS (Value.int .i64) 0 w v1 xss1 row1) :
    Ret Try.prog 11 [chV st0 tot0 v0, chV st1 tot1 v1] w (.bool true) := by
  refine calls_hw Try.func11 Try.ntmps11 rfl rfl ?_
  have ne1 : ¬ ((stiM st0 tot0 xss0 st1 tot1 xss1).code ≠ (stiM st0 tot0 xss0 st1 tot1 xss1).code) := fun h => h rfl
  have hsmM : Small (stiM st0 tot0 xss0 st1 tot1 xss1).xss := stiM_small _ _ _ _ _ _
  have hlenM := lens_small hsmM
  repeat' (first | refine hl_a ?_ | refine hq_a ?_ | refine hl_nil ?_ | refine hq_nil ?_ | refine hq_ga ?_ | refine hq_sk ?_ | refine hq_su ?_ | refine hq_gT ?_ | refine hq_gF ?_ | refine hq_gd (fun h => ?_) (fun h => ?_) | refine hl_ga ?_ | refine hl_sk ?_ | refine hl_su ?_ | refine hl_gT ?_ | refine hl_gF ?_ | refine hl_gd (fun h => ?_) (fun h => ?_) | refine hx_next ?_ | refine hw_seq ?_ | refine hw_region ?_ | refine hw_dr ?_ | refine hw_block ?_ | refine hx_block ?_ | refine hw_tt ?_ | refine hw_ff ?_ | refine hw_iT ?_ | refine hw_iF ?_ | refine hw_skip ?_ | refine hw_ret ?_ | refine hw_exit ?_ | refine hx_then_ret ?_ | refine hx_block_ret ?_ | refine hx_then_exit ?_ | refine hx_block_here ?_ | refine hx_far ?_ | refine hx_any ?_ | (apply ha_end; decide +kernel))
  refine hl_box (by decide) rfl (fun b2 => ?_)
  repeat' (first | refine hl_a ?_ | refine hq_a ?_ | refine hl_nil ?_ | refine hq_nil ?_ | refine hq_ga ?_ | refine hq_sk ?_ | refine hq_su ?_ | refine hq_gT ?_ | refine hq_gF ?_ | refine hq_gd (fun h => ?_) (fun h => ?_) | refine hl_ga ?_ | refine hl_sk ?_ | refine hl_su ?_ | refine hl_gT ?_ | refine hl_gF ?_ | refine hl_gd (fun h => ?_) (fun h => ?_) | refine hx_next ?_ | refine hw_seq ?_ | refine hw_region ?_ | refine hw_dr ?_ | refine hw_block ?_ | refine hx_block ?_ | refine hw_tt ?_ | refine hw_ff ?_ | refine hw_iT ?_ | refine hw_iF ?_ | refine hw_skip ?_ | refine hw_ret ?_ | refine hw_exit ?_ | refine hx_then_ret ?_ | refine hx_block_ret ?_ | refine hx_then_exit ?_ | refine hx_block_here ?_ | refine hx_far ?_ | refine hx_any ?_ | (apply ha_end; decide +kernel))
  refine hl_box (by decide) rfl (fun b3 => ?_)
  repeat' (first | refine hl_a ?_ | refine hq_a ?_ | refine hl_nil ?_ | refine hq_nil ?_ | refine hq_ga ?_ | refine hq_sk ?_ | refine hq_su ?_ | refine hq_gT ?_ | refine hq_gF ?_ | refine hq_gd (fun h => ?_) (fun h => ?_) | refine hl_ga ?_ | refine hl_sk ?_ | refine hl_su ?_ | refine hl_gT ?_ | refine hl_gF ?_ | refine hl_gd (fun h => ?_) (fun h => ?_) | refine hx_next ?_ | refine hw_seq ?_ | refine hw_region ?_ | refine hw_dr ?_ | refine hw_block ?_ | refine hx_block ?_ | refine hw_tt ?_ | refine hw_ff ?_ | refine hw_iT ?_ | refine hw_iF ?_ | refine hw_skip ?_ | refine hw_ret ?_ | refine hw_exit ?_ | refine hx_then_ret ?_ | refine hx_block_ret ?_ | refine hx_then_exit ?_ | refine hx_block_here ?_ | refine hx_far ?_ | refine hx_any ?_ | (apply ha_end; decide +kernel))
  refine hl_call (by decide) (fun w hm => szChain_c st0 tot0 1048576 (by decide) (by decide) v0 xss0 _ w (hr0.up hm.below)) rfl ?_
  rintro _ _ ⟨rfl, r4, rfl, hszr4⟩
  repeat' (first | refine hl_a ?_ | refine hq_a ?_ | refine hl_nil ?_ | refine hq_nil ?_ | refine hq_ga ?_ | refine hq_sk ?_ | refine hq_su ?_ | refine hq_gT ?_ | refine hq_gF ?_ | refine hq_gd (fun h => ?_) (fun h => ?_) | refine hl_ga ?_ | refine hl_sk ?_ | refine hl_su ?_ | refine hl_gT ?_ | refine hl_gF ?_ | refine hl_gd (fun h => ?_) (fun h => ?_) | refine hx_next ?_ | refine hw_seq ?_ | refine hw_region ?_ | refine hw_dr ?_ | refine hw_block ?_ | refine hx_block ?_ | refine hw_tt ?_ | refine hw_ff ?_ | refine hw_iT ?_ | refine hw_iF ?_ | refine hw_skip ?_ | refine hw_ret ?_ | refine hw_exit ?_ | refine hx_then_ret ?_ | refine hx_block_ret ?_ | refine hx_then_exit ?_ | refine hx_block_here ?_ | refine hx_far ?_ | refine hx_any ?_ | (apply ha_end; decide +kernel))
  refine hw_if rfl (fun h => ?_) (fun h => ?_)
  · repeat' (first | refine hl_a ?_ | refine hq_a ?_ | refine hl_nil ?_ | refine hq_nil ?_ | refine hq_ga ?_ | refine hq_sk ?_ | refine hq_su ?_ | refine hq_gT ?_ | refine hq_gF ?_ | refine hq_gd (fun h => ?_) (fun h => ?_) | refine hl_ga ?_ | refine hl_sk ?_ | refine hl_su ?_ | refine hl_gT ?_ | refine hl_gF ?_ | refine hl_gd (fun h => ?_) (fun h => ?_) | refine hx_next ?_ | refine hw_seq ?_ | refine hw_region ?_ | refine hw_dr ?_ | refine hw_block ?_ | refine hx_block ?_ | refine hw_tt ?_ | refine hw_ff ?_ | refine hw_iT ?_ | refine hw_iF ?_ | refine hw_skip ?_ | refine hw_ret ?_ | refine hw_exit ?_ | refine hx_then_ret ?_ | refine hx_block_ret ?_ | refine hx_then_exit ?_ | refine hx_block_here ?_ | refine hx_far ?_ | refine hx_any ?_ | (apply ha_end; decide +kernel))
    exact hx_ret1 rfl rfl (fun w hm => ⟨rfl, hm.none⟩)
  obtain ⟨har4, hbr4, hsmr4⟩ := hszr4.resolve_left (by omega)
  have hlenr4 := lens_small hsmr4
  repeat' (first | refine hl_a ?_ | refine hq_a ?_ | refine hl_nil ?_ | refine hq_nil ?_ | refine hq_ga ?_ | refine hq_sk ?_ | refine hq_su ?_ | refine hq_gT ?_ | refine hq_gF ?_ | refine hq_gd (fun h => ?_) (fun h => ?_) | refine hl_ga ?_ | refine hl_sk ?_ | refine hl_su ?_ | refine hl_gT ?_ | refine hl_gF ?_ | refine hl_gd (fun h => ?_) (fun h => ?_) | refine hx_next ?_ | refine hw_seq ?_ | refine hw_region ?_ | refine hw_dr ?_ | refine hw_block ?_ | refine hx_block ?_ | refine hw_tt ?_ | refine hw_ff ?_ | refine hw_iT ?_ | refine hw_iF ?_ | refine hw_skip ?_ | refine hw_ret ?_ | refine hw_exit ?_ | refine hx_then_ret ?_ | refine hx_block_ret ?_ | refine hx_then_exit ?_ | refine hx_block_here ?_ | refine hx_far ?_ | refine hx_any ?_ | (apply ha_end; decide +kernel))
  refine hl_call (by decide) (fun w hm => szCoupled_c st1 tot1 r4 har4 hbr4 v1 xss1 _ w (hr1.up hm.below)) rfl ?_
  rintro _ _ ⟨rfl, r5, rfl, hszr5⟩
  repeat' (first | refine hl_a ?_ | refine hq_a ?_ | refine hl_nil ?_ | refine hq_nil ?_ | refine hq_ga ?_ | refine hq_sk ?_ | refine hq_su ?_ | refine hq_gT ?_ | refine hq_gF ?_ | refine hq_gd (fun h => ?_) (fun h => ?_) | refine hl_ga ?_ | refine hl_sk ?_ | refine hl_su ?_ | refine hl_gT ?_ | refine hl_gF ?_ | refine hl_gd (fun h => ?_) (fun h => ?_) | refine hx_next ?_ | refine hw_seq ?_ | refine hw_region ?_ | refine hw_dr ?_ | refine hw_block ?_ | refine hx_block ?_ | refine hw_tt ?_ | refine hw_ff ?_ | refine hw_iT ?_ | refine hw_iF ?_ | refine hw_skip ?_ | refine hw_ret ?_ | refine hw_exit ?_ | refine hx_then_ret ?_ | refine hx_block_ret ?_ | refine hx_then_exit ?_ | refine hx_block_here ?_ | refine hx_far ?_ | refine hx_any ?_ | (apply ha_end; decide +kernel))
  refine hw_if rfl (fun h => ?_) (fun h => ?_)
  · repeat' (first | refine hl_a ?_ | refine hq_a ?_ | refine hl_nil ?_ | refine hq_nil ?_ | refine hq_ga ?_ | refine hq_sk ?_ | refine hq_su ?_ | refine hq_gT ?_ | refine hq_gF ?_ | refine hq_gd (fun h => ?_) (fun h => ?_) | refine hl_ga ?_ | refine hl_sk ?_ | refine hl_su ?_ | refine hl_gT ?_ | refine hl_gF ?_ | refine hl_gd (fun h => ?_) (fun h => ?_) | refine hx_next ?_ | refine hw_seq ?_ | refine hw_region ?_ | refine hw_dr ?_ | refine hw_block ?_ | refine hx_block ?_ | refine hw_tt ?_ | refine hw_ff ?_ | refine hw_iT ?_ | refine hw_iF ?_ | refine hw_skip ?_ | refine hw_ret ?_ | refine hw_exit ?_ | refine hx_then_ret ?_ | refine hx_block_ret ?_ | refine hx_then_exit ?_ | refine hx_block_here ?_ | refine hx_far ?_ | refine hx_any ?_ | (apply ha_end; decide +kernel))
    exact hx_ret1 rfl rfl (fun w hm => ⟨rfl, hm.none⟩)
  obtain ⟨har5, hbr5, hsmr5⟩ := hszr5.resolve_left (by omega)
  have hlenr5 := lens_small hsmr5
  repeat' (first | refine hl_a ?_ | refine hq_a ?_ | refine hl_nil ?_ | refine hq_nil ?_ | refine hq_ga ?_ | refine hq_sk ?_ | refine hq_su ?_ | refine hq_gT ?_ | refine hq_gF ?_ | refine hq_gd (fun h => ?_) (fun h => ?_) | refine hl_ga ?_ | refine hl_sk ?_ | refine hl_su ?_ | refine hl_gT ?_ | refine hl_gF ?_ | refine hl_gd (fun h => ?_) (fun h => ?_) | refine hx_next ?_ | refine hw_seq ?_ | refine hw_region ?_ | refine hw_block ?_ | refine hx_block ?_ | refine hw_tt ?_ | refine hw_ff ?_ | refine hw_iT ?_ | refine hw_iF ?_ | refine hw_skip ?_ | refine hw_ret ?_ | refine hw_exit ?_ | refine hx_then_ret ?_ | refine hx_block_ret ?_ | refine hx_then_exit ?_ | refine hx_block_here ?_ | refine hx_far ?_ | refine hx_any ?_ | (apply ha_end; decide +kernel))
  refine hw_heldE (σ := Nat × Value × List Value) [rBlk b2 (chV st0 tot0 v0).cells 26, rBlk b3 (chV st1 tot1 v1).cells 66] (fun s => [(2, .pointer (some ⟨b2, 0, none⟩)), (3, .pointer (some ⟨b3, 0, none⟩)), (6, .pointer (some ⟨s.1, 0, none⟩)), (7, .int .i64 ((stiM st0 tot0 xss0 st1 tot1 xss1).code))]) (fun s => [rBlk b2 (chV st0 tot0 v0).cells 26, rBlk b3 (chV st1 tot1 v1).cells 66, rRows 82 2 (Value.int .i64) s.2.1 s.2.2 (stiM st0 tot0 xss0 st1 tot1 xss1).xss, rBlk s.1 #[.int .i64 (stiM st0 tot0 xss0 st1 tot1 xss1).st, .int .i64 (stiM st0 tot0 xss0 st1 tot1 xss1).tot, s.2.1] 69]) (fun s => s.2.2.length = (stiM st0 tot0 xss0 st1 tot1 xss1).xss.length ∧ SlOk s.2.1 (stiM st0 tot0 xss0 st1 tot1 xss1).xss.length) (by kernel_rfl) ?_ ?_
  · skip
    refine hb_take 0 rfl (by decide) (by decide +kernel) (by decide +kernel) (by decide +kernel) (fun _ _ _ h => h) (fun w hm => Mem.keep _ hm) (qv_q rfl (q_loadB 0 rfl rfl rfl)) ?_
    refine hb_take 2 rfl (by decide) (by decide +kernel) (by decide +kernel) (by decide +kernel) (fun _ _ _ h => h) (fun w hm => Mem.keep _ hm) (qv_q rfl (q_loadB 1 rfl rfl rfl)) ?_
    refine hb_2 1 8 (by decide +kernel) rfl rfl ?_ ?_
    · skip
      refine hl_call (by decide) (fun w hm => toChain_c st0 tot0 v0 xss0 _ w (hr0.up hm.below) hsmr4) rfl ?_
      rintro _ _ ⟨u24, vs25, rfl, rfl, hl26, hu27⟩
      refine hl_nil ?_
      refine hx_hb (fun w hm => Mem.keep _ hm) ?_
      refine hb_2 3 8 (by decide +kernel) rfl rfl ?_ ?_
      · skip
        refine hl_call (by decide) (fun w hm => toCoupled_c st1 tot1 v1 xss1 _ w (hr1.up hm.below) hsmr5) rfl ?_
        rintro _ _ ⟨u28, vs29, rfl, rfl, hl30, hu31⟩
        refine hl_nil ?_
        refine hx_hb (fun w hm => Mem.keep _ hm) ?_
        refine hb_2 4 8 (by decide +kernel) rfl rfl ?_ ?_
        · skip
          refine hl_call (by decide) (fun w hm => specStickyCoupled_c st0 tot0 u24 xss0 _ st1 tot1 u28 xss1 _ w (hm.rdS 2 rfl hl26 _) (hm.rdS 3 rfl hl30 _)) rfl ?_
          rintro _ _ ⟨u32, vs33, rfl, rfl, hl34, hu35⟩
          refine hl_nil ?_
          refine hx_hb (fun w hm => Mem.keep _ hm) ?_
          refine hb_take 5 rfl (by decide) (by decide +kernel) (by decide +kernel) (by decide +kernel) (fun _ _ _ h => h) (fun w hm => Mem.keep _ hm) (qv_q rfl (q_move rfl)) ?_
          refine hb_take 6 rfl (by decide) (by decide +kernel) (by decide +kernel) (by decide +kernel) (fun _ _ _ h => h) (fun w hm => Mem.keep _ hm) (qv_q rfl (q_ext rfl rfl)) ?_
          refine hb_take 7 rfl (by decide) (by decide +kernel) (by decide +kernel) (by decide +kernel) (fun _ _ _ h => h) (fun w hm => Mem.keep _ hm) (qv_q rfl (q_ext rfl rfl)) ?_
          refine hb_1 8 (by decide +kernel) rfl ?_
          refine hl_alloc (by decide) (fun b36 => ?_)
          refine hl_nil ?_
          refine hx_hb (fun w hm => Mem.keep _ hm) ?_
          refine hb_1 9 (by decide +kernel) rfl ?_
          refine hl_storeA 5 rfl rfl rfl rfl rfl (chV_one hu35) ?_
          refine hl_nil ?_
          refine hx_hb (fun w hm => Mem.keep _ hm) ?_
          refine hb_take 10 rfl (by decide) (by decide +kernel) (by decide +kernel) (by decide +kernel) (fun _ _ _ h => h) (fun w hm => Mem.keep _ hm) (qv_q rfl (q_assign rfl)) ?_
          refine hb_end (by decide +kernel) ?_
          exact hx_joinE (b36, u32, vs33) ⟨hl34, hu35⟩ (by simp [Env.le, Env.at, envOf]) (fun w hm => hm.pick [0, 1, 4, 5] (by decide) rfl)
        · skip
          refine hl_alloc (by decide) (fun b37 => ?_)
          refine hl_nil ?_
          refine hx_hb (fun w hm => Mem.keep _ hm) ?_
          refine hb_1 4 (by decide +kernel) rfl ?_
          refine hl_call (by decide) (fun w hm => specStickyCoupled_c st0 tot0 u24 xss0 _ st1 tot1 u28 xss1 _ w (hm.rdS 2 rfl hl26 _) (hm.rdS 3 rfl hl30 _)) rfl ?_
          rintro _ _ ⟨u38, vs39, rfl, rfl, hl40, hu41⟩
          refine hl_nil ?_
          refine hx_hb (fun w hm => Mem.keep _ hm) ?_
          refine hb_take 5 rfl (by decide) (by decide +kernel) (by decide +kernel) (by decide +kernel) (fun _ _ _ h => h) (fun w hm => Mem.keep _ hm) (qv_q rfl (q_move rfl)) ?_
          refine hb_take 6 rfl (by decide) (by decide +kernel) (by decide +kernel) (by decide +kernel) (fun _ _ _ h => h) (fun w hm => Mem.keep _ hm) (qv_q rfl (q_ext rfl rfl)) ?_
          refine hb_take 7 rfl (by decide) (by decide +kernel) (by decide +kernel) (by decide +kernel) (fun _ _ _ h => h) (fun w hm => Mem.keep _ hm) (qv_q rfl (q_ext rfl rfl)) ?_
          refine hb_1 9 (by decide +kernel) rfl ?_
          refine hl_storeA 4 rfl rfl rfl rfl rfl (chV_one hu41) ?_
          refine hl_nil ?_
          refine hx_hb (fun w hm => Mem.keep _ hm) ?_
          refine hb_take 10 rfl (by decide) (by decide +kernel) (by decide +kernel) (by decide +kernel) (fun _ _ _ h => h) (fun w hm => Mem.keep _ hm) (qv_q rfl (q_assign rfl)) ?_
          refine hb_end (by decide +kernel) ?_
          exact hx_joinE (b37, u38, vs39) ⟨hl40, hu41⟩ (by simp [Env.le, Env.at, envOf]) (fun w hm => hm.pick [0, 1, 5, 4] (by decide) rfl)
      · skip
        refine hl_alloc (by decide) (fun b42 => ?_)
        refine hl_nil ?_
        refine hx_hb (fun w hm => Mem.keep _ hm) ?_
        refine hb_1 3 (by decide +kernel) rfl ?_
        refine hl_call (by decide) (fun w hm => toCoupled_c st1 tot1 v1 xss1 _ w (hr1.up hm.below) hsmr5) rfl ?_
        rintro _ _ ⟨u43, vs44, rfl, rfl, hl45, hu46⟩
        refine hl_nil ?_
        refine hx_hb (fun w hm => Mem.keep _ hm) ?_
        refine hb_1 4 (by decide +kernel) rfl ?_
        refine hl_call (by decide) (fun w hm => specStickyCoupled_c st0 tot0 u24 xss0 _ st1 tot1 u43 xss1 _ w (hm.rdS 2 rfl hl26 _) (hm.rdS 4 rfl hl45 _)) rfl ?_
        rintro _ _ ⟨u47, vs48, rfl, rfl, hl49, hu50⟩
        refine hl_nil ?_
        refine hx_hb (fun w hm => Mem.keep _ hm) ?_
        refine hb_take 5 rfl (by decide) (by decide +kernel) (by decide +kernel) (by decide +kernel) (fun _ _ _ h => h) (fun w hm => Mem.keep _ hm) (qv_q rfl (q_move rfl)) ?_
        refine hb_take 6 rfl (by decide) (by decide +kernel) (by decide +kernel) (by decide +kernel) (fun _ _ _ h => h) (fun w hm => Mem.keep _ hm) (qv_q rfl (q_ext rfl rfl)) ?_
        refine hb_take 7 rfl (by decide) (by decide +kernel) (by decide +kernel) (by decide +kernel) (fun _ _ _ h => h) (fun w hm => Mem.keep _ hm) (qv_q rfl (q_ext rfl rfl)) ?_
        refine hb_1 9 (by decide +kernel) rfl ?_
        refine hl_storeA 3 rfl rfl rfl rfl rfl (chV_one hu50) ?_
        refine hl_nil ?_
        refine hx_hb (fun w hm => Mem.keep _ hm) ?_
        refine hb_take 10 rfl (by decide) (by decide +kernel) (by decide +kernel) (by decide +kernel) (fun _ _ _ h => h) (fun w hm => Mem.keep _ hm) (qv_q rfl (q_assign rfl)) ?_
        refine hb_end (by decide +kernel) ?_
        exact hx_joinE (b42, u47, vs48) ⟨hl49, hu50⟩ (by simp [Env.le, Env.at, envOf]) (fun w hm => hm.pick [0, 1, 5, 3] (by decide) rfl)
    · skip
      refine hl_alloc (by decide) (fun b51 => ?_)
      refine hl_nil ?_
      refine hx_hb (fun w hm => Mem.keep _ hm) ?_
      refine hb_1 1 (by decide +kernel) rfl ?_
      refine hl_call (by decide) (fun w hm => toChain_c st0 tot0 v0 xss0 _ w (hr0.up hm.below) hsmr4) rfl ?_
      rintro _ _ ⟨u52, vs53, rfl, rfl, hl54, hu55⟩
      refine hl_nil ?_
      refine hx_hb (fun w hm => Mem.keep _ hm) ?_
      refine hb_1 3 (by decide +kernel) rfl ?_
      refine hl_call (by decide) (fun w hm => toCoupled_c st1 tot1 v1 xss1 _ w (hr1.up hm.below) hsmr5) rfl ?_
      rintro _ _ ⟨u56, vs57, rfl, rfl, hl58, hu59⟩
      refine hl_nil ?_
      refine hx_hb (fun w hm => Mem.keep _ hm) ?_
      refine hb_1 4 (by decide +kernel) rfl ?_
      refine hl_call (by decide) (fun w hm => specStickyCoupled_c st0 tot0 u52 xss0 _ st1 tot1 u56 xss1 _ w (hm.rdS 3 rfl hl54 _) (hm.rdS 4 rfl hl58 _)) rfl ?_
      rintro _ _ ⟨u60, vs61, rfl, rfl, hl62, hu63⟩
      refine hl_nil ?_
      refine hx_hb (fun w hm => Mem.keep _ hm) ?_
      refine hb_take 5 rfl (by decide) (by decide +kernel) (by decide +kernel) (by decide +kernel) (fun _ _ _ h => h) (fun w hm => Mem.keep _ hm) (qv_q rfl (q_move rfl)) ?_
      refine hb_take 6 rfl (by decide) (by decide +kernel) (by decide +kernel) (by decide +kernel) (fun _ _ _ h => h) (fun w hm => Mem.keep _ hm) (qv_q rfl (q_ext rfl rfl)) ?_
      refine hb_take 7 rfl (by decide) (by decide +kernel) (by decide +kernel) (by decide +kernel) (fun _ _ _ h => h) (fun w hm => Mem.keep _ hm) (qv_q rfl (q_ext rfl rfl)) ?_
      refine hb_1 9 (by decide +kernel) rfl ?_
      refine hl_storeA 2 rfl rfl rfl rfl rfl (chV_one hu63) ?_
      refine hl_nil ?_
      refine hx_hb (fun w hm => Mem.keep _ hm) ?_
      refine hb_take 10 rfl (by decide) (by decide +kernel) (by decide +kernel) (by decide +kernel) (fun _ _ _ h => h) (fun w hm => Mem.keep _ hm) (qv_q rfl (q_assign rfl)) ?_
      refine hb_end (by decide +kernel) ?_
      exact hx_joinE (b51, u60, vs61) ⟨hl62, hu63⟩ (by simp [Env.le, Env.at, envOf]) (fun w hm => hm.pick [0, 1, 5, 2] (by decide) rfl)
  rintro ⟨b19, u20, vs21⟩ ⟨hl22, hu23⟩
  dsimp only at hl22 hu23 ⊢
  repeat' (first | refine hl_a ?_ | refine hq_a ?_ | refine hl_nil ?_ | refine hq_nil ?_ | refine hq_ga ?_ | refine hq_sk ?_ | refine hq_su ?_ | refine hq_gT ?_ | refine hq_gF ?_ | refine hq_gd (fun h => ?_) (fun h => ?_) | refine hl_ga ?_ | refine hl_sk ?_ | refine hl_su ?_ | refine hl_gT ?_ | refine hl_gF ?_ | refine hl_gd (fun h => ?_) (fun h => ?_) | refine hx_next ?_ | refine hw_seq ?_ | refine hw_region ?_ | refine hw_dr ?_ | refine hw_block ?_ | refine hx_block ?_ | refine hw_tt ?_ | refine hw_ff ?_ | refine hw_iT ?_ | refine hw_iF ?_ | refine hw_skip ?_ | refine hw_ret ?_ | refine hw_exit ?_ | refine hx_then_ret ?_ | refine hx_block_ret ?_ | refine hx_then_exit ?_ | refine hx_block_here ?_ | refine hx_far ?_ | refine hx_any ?_ | (apply ha_end; decide +kernel))
  refine hl_call (by decide) (fun w hm => toChain_c st0 tot0 v0 xss0 _ w (hr0.up hm.below) hsmr4) rfl ?_
  rintro _ _ ⟨u64, vs65, rfl, rfl, hl66, hu67⟩
  repeat' (first | refine hl_a ?_ | refine hq_a ?_ | refine hl_nil ?_ | refine hq_nil ?_ | refine hq_ga ?_ | refine hq_sk ?_ | refine hq_su ?_ | refine hq_gT ?_ | refine hq_gF ?_ | refine hq_gd (fun h => ?_) (fun h => ?_) | refine hl_ga ?_ | refine hl_sk ?_ | refine hl_su ?_ | refine hl_gT ?_ | refine hl_gF ?_ | refine hl_gd (fun h => ?_) (fun h => ?_) | refine hx_next ?_ | refine hw_seq ?_ | refine hw_region ?_ | refine hw_dr ?_ | refine hw_block ?_ | refine hx_block ?_ | refine hw_tt ?_ | refine hw_ff ?_ | refine hw_iT ?_ | refine hw_iF ?_ | refine hw_skip ?_ | refine hw_ret ?_ | refine hw_exit ?_ | refine hx_then_ret ?_ | refine hx_block_ret ?_ | refine hx_then_exit ?_ | refine hx_block_here ?_ | refine hx_far ?_ | refine hx_any ?_ | (apply ha_end; decide +kernel) | (apply hl_q; decide; (first | exact q_loadB 4 rfl rfl rfl)) | (apply hq_q; decide; (first | exact q_loadB 4 rfl rfl rfl)) | (apply hq_g; rfl; rfl; decide; (first | exact q_loadB 4 rfl rfl rfl)) | (apply hl_g; rfl; rfl; decide; (first | exact q_loadB 4 rfl rfl rfl)))
  refine hl_alloc (by decide) (fun b68 => ?_)
  repeat' (first | refine hl_a ?_ | refine hq_a ?_ | refine hl_nil ?_ | refine hq_nil ?_ | refine hq_ga ?_ | refine hq_sk ?_ | refine hq_su ?_ | refine hq_gT ?_ | refine hq_gF ?_ | refine hq_gd (fun h => ?_) (fun h => ?_) | refine hl_ga ?_ | refine hl_sk ?_ | refine hl_su ?_ | refine hl_gT ?_ | refine hl_gF ?_ | refine hl_gd (fun h => ?_) (fun h => ?_) | refine hx_next ?_ | refine hw_seq ?_ | refine hw_region ?_ | refine hw_dr ?_ | refine hw_block ?_ | refine hx_block ?_ | refine hw_tt ?_ | refine hw_ff ?_ | refine hw_iT ?_ | refine hw_iF ?_ | refine hw_skip ?_ | refine hw_ret ?_ | refine hw_exit ?_ | refine hx_then_ret ?_ | refine hx_block_ret ?_ | refine hx_then_exit ?_ | refine hx_block_here ?_ | refine hx_far ?_ | refine hx_any ?_ | (apply ha_end; decide +kernel) | (apply hl_q; decide; (first | exact q_loadB 4 rfl rfl rfl | exact q_loadB 5 rfl rfl rfl)) | (apply hq_q; decide; (first | exact q_loadB 4 rfl rfl rfl | exact q_loadB 5 rfl rfl rfl)) | (apply hq_g; rfl; rfl; decide; (first | exact q_loadB 4 rfl rfl rfl | exact q_loadB 5 rfl rfl rfl)) | (apply hl_g; rfl; rfl; decide; (first | exact q_loadB 4 rfl rfl rfl | exact q_loadB 5 rfl rfl rfl)))
  refine hl_storeA 5 rfl rfl rfl rfl rfl (chV_one hu67) ?_
  repeat' (first | refine hl_a ?_ | refine hq_a ?_ | refine hl_nil ?_ | refine hq_nil ?_ | refine hq_ga ?_ | refine hq_sk ?_ | refine hq_su ?_ | refine hq_gT ?_ | refine hq_gF ?_ | refine hq_gd (fun h => ?_) (fun h => ?_) | refine hl_ga ?_ | refine hl_sk ?_ | refine hl_su ?_ | refine hl_gT ?_ | refine hl_gF ?_ | refine hl_gd (fun h => ?_) (fun h => ?_) | refine hx_next ?_ | refine hw_seq ?_ | refine hw_region ?_ | refine hw_dr ?_ | refine hw_block ?_ | refine hx_block ?_ | refine hw_tt ?_ | refine hw_ff ?_ | refine hw_iT ?_ | refine hw_iF ?_ | refine hw_skip ?_ | refine hw_ret ?_ | refine hw_exit ?_ | refine hx_then_ret ?_ | refine hx_block_ret ?_ | refine hx_then_exit ?_ | refine hx_block_here ?_ | refine hx_far ?_ | refine hx_any ?_ | (apply ha_end; decide +kernel) | (apply hl_q; decide; (first | exact q_loadB 4 rfl rfl rfl | exact q_loadB 5 rfl rfl rfl)) | (apply hq_q; decide; (first | exact q_loadB 4 rfl rfl rfl | exact q_loadB 5 rfl rfl rfl)) | (apply hq_g; rfl; rfl; decide; (first | exact q_loadB 4 rfl rfl rfl | exact q_loadB 5 rfl rfl rfl)) | (apply hl_g; rfl; rfl; decide; (first | exact q_loadB 4 rfl rfl rfl | exact q_loadB 5 rfl rfl rfl)))
  refine hl_call (by decide) (fun w hm => toCoupled_c st1 tot1 v1 xss1 _ w (hr1.up hm.below) hsmr5) rfl ?_
  rintro _ _ ⟨u69, vs70, rfl, rfl, hl71, hu72⟩
  repeat' (first | refine hl_a ?_ | refine hq_a ?_ | refine hl_nil ?_ | refine hq_nil ?_ | refine hq_ga ?_ | refine hq_sk ?_ | refine hq_su ?_ | refine hq_gT ?_ | refine hq_gF ?_ | refine hq_gd (fun h => ?_) (fun h => ?_) | refine hl_ga ?_ | refine hl_sk ?_ | refine hl_su ?_ | refine hl_gT ?_ | refine hl_gF ?_ | refine hl_gd (fun h => ?_) (fun h => ?_) | refine hx_next ?_ | refine hw_seq ?_ | refine hw_region ?_ | refine hw_dr ?_ | refine hw_block ?_ | refine hx_block ?_ | refine hw_tt ?_ | refine hw_ff ?_ | refine hw_iT ?_ | refine hw_iF ?_ | refine hw_skip ?_ | refine hw_ret ?_ | refine hw_exit ?_ | refine hx_then_ret ?_ | refine hx_block_ret ?_ | refine hx_then_exit ?_ | refine hx_block_here ?_ | refine hx_far ?_ | refine hx_any ?_ | (apply ha_end; decide +kernel) | (apply hl_q; decide; (first | exact q_loadB 4 rfl rfl rfl | exact q_loadB 5 rfl rfl rfl | exact q_loadB 6 rfl rfl rfl)) | (apply hq_q; decide; (first | exact q_loadB 4 rfl rfl rfl | exact q_loadB 5 rfl rfl rfl | exact q_loadB 6 rfl rfl rfl)) | (apply hq_g; rfl; rfl; decide; (first | exact q_loadB 4 rfl rfl rfl | exact q_loadB 5 rfl rfl rfl | exact q_loadB 6 rfl rfl rfl)) | (apply hl_g; rfl; rfl; decide; (first | exact q_loadB 4 rfl rfl rfl | exact q_loadB 5 rfl rfl rfl | exact q_loadB 6 rfl rfl rfl)))
  refine hl_alloc (by decide) (fun b73 => ?_)
  repeat' (first | refine hl_a ?_ | refine hq_a ?_ | refine hl_nil ?_ | refine hq_nil ?_ | refine hq_ga ?_ | refine hq_sk ?_ | refine hq_su ?_ | refine hq_gT ?_ | refine hq_gF ?_ | refine hq_gd (fun h => ?_) (fun h => ?_) | refine hl_ga ?_ | refine hl_sk ?_ | refine hl_su ?_ | refine hl_gT ?_ | refine hl_gF ?_ | refine hl_gd (fun h => ?_) (fun h => ?_) | refine hx_next ?_ | refine hw_seq ?_ | refine hw_region ?_ | refine hw_dr ?_ | refine hw_block ?_ | refine hx_block ?_ | refine hw_tt ?_ | refine hw_ff ?_ | refine hw_iT ?_ | refine hw_iF ?_ | refine hw_skip ?_ | refine hw_ret ?_ | refine hw_exit ?_ | refine hx_then_ret ?_ | refine hx_block_ret ?_ | refine hx_then_exit ?_ | refine hx_block_here ?_ | refine hx_far ?_ | refine hx_any ?_ | (apply ha_end; decide +kernel) | (apply hl_q; decide; (first | exact q_loadB 4 rfl rfl rfl | exact q_loadB 5 rfl rfl rfl | exact q_loadB 6 rfl rfl rfl | exact q_loadB 7 rfl rfl rfl)) | (apply hq_q; decide; (first | exact q_loadB 4 rfl rfl rfl | exact q_loadB 5 rfl rfl rfl | exact q_loadB 6 rfl rfl rfl | exact q_loadB 7 rfl rfl rfl)) | (apply hq_g; rfl; rfl; decide; (first | exact q_loadB 4 rfl rfl rfl | exact q_loadB 5 rfl rfl rfl | exact q_loadB 6 rfl rfl rfl | exact q_loadB 7 rfl rfl rfl)) | (apply hl_g; rfl; rfl; decide; (first | exact q_loadB 4 rfl rfl rfl | exact q_loadB 5 rfl rfl rfl | exact q_loadB 6 rfl rfl rfl | exact q_loadB 7 rfl rfl rfl)))
  refine hl_storeA 7 rfl rfl rfl rfl rfl (chV_one hu72) ?_
  repeat' (first | refine hl_a ?_ | refine hq_a ?_ | refine hl_nil ?_ | refine hq_nil ?_ | refine hq_ga ?_ | refine hq_sk ?_ | refine hq_su ?_ | refine hq_gT ?_ | refine hq_gF ?_ | refine hq_gd (fun h => ?_) (fun h => ?_) | refine hl_ga ?_ | refine hl_sk ?_ | refine hl_su ?_ | refine hl_gT ?_ | refine hl_gF ?_ | refine hl_gd (fun h => ?_) (fun h => ?_) | refine hx_next ?_ | refine hw_seq ?_ | refine hw_region ?_ | refine hw_dr ?_ | refine hw_block ?_ | refine hx_block ?_ | refine hw_tt ?_ | refine hw_ff ?_ | refine hw_iT ?_ | refine hw_iF ?_ | refine hw_skip ?_ | refine hw_ret ?_ | refine hw_exit ?_ | refine hx_then_ret ?_ | refine hx_block_ret ?_ | refine hx_then_exit ?_ | refine hx_block_here ?_ | refine hx_far ?_ | refine hx_any ?_ | (apply ha_end; decide +kernel) | (apply hl_q; decide; (first | exact q_loadB 4 rfl rfl rfl | exact q_loadB 5 rfl rfl rfl | exact q_loadB 6 rfl rfl rfl | exact q_loadB 7 rfl rfl rfl)) | (apply hq_q; decide; (first | exact q_loadB 4 rfl rfl rfl | exact q_loadB 5 rfl rfl rfl | exact q_loadB 6 rfl rfl rfl | exact q_loadB 7 rfl rfl rfl)) | (apply hq_g; rfl; rfl; decide; (first | exact q_loadB 4 rfl rfl rfl | exact q_loadB 5 rfl rfl rfl | exact q_loadB 6 rfl rfl rfl | exact q_loadB 7 rfl rfl rfl)) | (apply hl_g; rfl; rfl; decide; (first | exact q_loadB 4 rfl rfl rfl | exact q_loadB 5 rfl rfl rfl | exact q_loadB 6 rfl rfl rfl | exact q_loadB 7 rfl rfl rfl)))
  refine hl_call (by decide) (fun w hm => implStickyCoupled_c st0 tot0 u64 xss0 _ st1 tot1 u69 xss1 _ w (hm.rdS 4 rfl hl66 _) (hm.rdS 6 rfl hl71 _)) rfl ?_
  rintro _ _ ⟨u74, vs75, rfl, rfl, hl76, hu77⟩
  repeat' (first | refine hl_a ?_ | refine hq_a ?_ | refine hl_nil ?_ | refine hq_nil ?_ | refine hq_ga ?_ | refine hq_sk ?_ | refine hq_su ?_ | refine hq_gT ?_ | refine hq_gF ?_ | refine hq_gd (fun h => ?_) (fun h => ?_) | refine hl_ga ?_ | refine hl_sk ?_ | refine hl_su ?_ | refine hl_gT ?_ | refine hl_gF ?_ | refine hl_gd (fun h => ?_) (fun h => ?_) | refine hx_next ?_ | refine hw_seq ?_ | refine hw_region ?_ | refine hw_dr ?_ | refine hw_block ?_ | refine hx_block ?_ | refine hw_tt ?_ | refine hw_ff ?_ | refine hw_iT ?_ | refine hw_iF ?_ | refine hw_skip ?_ | refine hw_ret ?_ | refine hw_exit ?_ | refine hx_then_ret ?_ | refine hx_block_ret ?_ | refine hx_then_exit ?_ | refine hx_block_here ?_ | refine hx_far ?_ | refine hx_any ?_ | (apply ha_end; decide +kernel) | (apply hl_q; decide; (first | exact q_loadB 4 rfl rfl rfl | exact q_loadB 5 rfl rfl rfl | exact q_loadB 6 rfl rfl rfl | exact q_loadB 7 rfl rfl rfl | exact q_loadB 8 rfl rfl rfl)) | (apply hq_q; decide; (first | exact q_loadB 4 rfl rfl rfl | exact q_loadB 5 rfl rfl rfl | exact q_loadB 6 rfl rfl rfl | exact q_loadB 7 rfl rfl rfl | exact q_loadB 8 rfl rfl rfl)) | (apply hq_g; rfl; rfl; decide; (first | exact q_loadB 4 rfl rfl rfl | exact q_loadB 5 rfl rfl rfl | exact q_loadB 6 rfl rfl rfl | exact q_loadB 7 rfl rfl rfl | exact q_loadB 8 rfl rfl rfl)) | (apply hl_g; rfl; rfl; decide; (first | exact q_loadB 4 rfl rfl rfl | exact q_loadB 5 rfl rfl rfl | exact q_loadB 6 rfl rfl rfl | exact q_loadB 7 rfl rfl rfl | exact q_loadB 8 rfl rfl rfl)))
  refine hl_alloc (by decide) (fun b78 => ?_)
  repeat' (first | refine hl_a ?_ | refine hq_a ?_ | refine hl_nil ?_ | refine hq_nil ?_ | refine hq_ga ?_ | refine hq_sk ?_ | refine hq_su ?_ | refine hq_gT ?_ | refine hq_gF ?_ | refine hq_gd (fun h => ?_) (fun h => ?_) | refine hl_ga ?_ | refine hl_sk ?_ | refine hl_su ?_ | refine hl_gT ?_ | refine hl_gF ?_ | refine hl_gd (fun h => ?_) (fun h => ?_) | refine hx_next ?_ | refine hw_seq ?_ | refine hw_region ?_ | refine hw_dr ?_ | refine hw_block ?_ | refine hx_block ?_ | refine hw_tt ?_ | refine hw_ff ?_ | refine hw_iT ?_ | refine hw_iF ?_ | refine hw_skip ?_ | refine hw_ret ?_ | refine hw_exit ?_ | refine hx_then_ret ?_ | refine hx_block_ret ?_ | refine hx_then_exit ?_ | refine hx_block_here ?_ | refine hx_far ?_ | refine hx_any ?_ | (apply ha_end; decide +kernel) | (apply hl_q; decide; (first | exact q_loadB 4 rfl rfl rfl | exact q_loadB 5 rfl rfl rfl | exact q_loadB 6 rfl rfl rfl | exact q_loadB 7 rfl rfl rfl | exact q_loadB 8 rfl rfl rfl | exact q_loadB 9 rfl rfl rfl)) | (apply hq_q; decide; (first | exact q_loadB 4 rfl rfl rfl | exact q_loadB 5 rfl rfl rfl | exact q_loadB 6 rfl rfl rfl | exact q_loadB 7 rfl rfl rfl | exact q_loadB 8 rfl rfl rfl | exact q_loadB 9 rfl rfl rfl)) | (apply hq_g; rfl; rfl; decide; (first | exact q_loadB 4 rfl rfl rfl | exact q_loadB 5 rfl rfl rfl | exact q_loadB 6 rfl rfl rfl | exact q_loadB 7 rfl rfl rfl | exact q_loadB 8 rfl rfl rfl | exact q_loadB 9 rfl rfl rfl)) | (apply hl_g; rfl; rfl; decide; (first | exact q_loadB 4 rfl rfl rfl | exact q_loadB 5 rfl rfl rfl | exact q_loadB 6 rfl rfl rfl | exact q_loadB 7 rfl rfl rfl | exact q_loadB 8 rfl rfl rfl | exact q_loadB 9 rfl rfl rfl)))
  refine hl_storeA 9 rfl rfl rfl rfl rfl (chV_one hu77) ?_
  repeat' (first | refine hl_a ?_ | refine hq_a ?_ | refine hl_nil ?_ | refine hq_nil ?_ | refine hq_ga ?_ | refine hq_sk ?_ | refine hq_su ?_ | refine hq_gT ?_ | refine hq_gF ?_ | refine hq_gd (fun h => ?_) (fun h => ?_) | refine hl_ga ?_ | refine hl_sk ?_ | refine hl_su ?_ | refine hl_gT ?_ | refine hl_gF ?_ | refine hl_gd (fun h => ?_) (fun h => ?_) | refine hx_next ?_ | refine hw_seq ?_ | refine hw_region ?_ | refine hw_block ?_ | refine hx_block ?_ | refine hw_tt ?_ | refine hw_ff ?_ | refine hw_iT ?_ | refine hw_iF ?_ | refine hw_skip ?_ | refine hw_ret ?_ | refine hw_exit ?_ | refine hx_then_ret ?_ | refine hx_block_ret ?_ | refine hx_then_exit ?_ | refine hx_block_here ?_ | refine hx_far ?_ | refine hx_any ?_ | (apply ha_end; decide +kernel) | (apply hl_q; decide; (first | exact q_loadB 4 rfl rfl rfl | exact q_loadB 5 rfl rfl rfl | exact q_loadB 6 rfl rfl rfl | exact q_loadB 7 rfl rfl rfl | exact q_loadB 8 rfl rfl rfl | exact q_loadB 9 rfl rfl rfl | exact q_call (fun w hm => (eqCoupled_c (stiM st0 tot0 xss0 st1 tot1 xss1).st (stiM st0 tot0 xss0 st1 tot1 xss1).tot (stiM st0 tot0 xss0 st1 tot1 xss1).st (stiM st0 tot0 xss0 st1 tot1 xss1).tot _ _ _ _ _ _ w (hm.rdS 8 rfl hl76 _) (hm.rdS 2 rfl hl22 _)).tt ⟨rfl, rfl, rfl⟩) rfl)) | (apply hq_q; decide; (first | exact q_loadB 4 rfl rfl rfl | exact q_loadB 5 rfl rfl rfl | exact q_loadB 6 rfl rfl rfl | exact q_loadB 7 rfl rfl rfl | exact q_loadB 8 rfl rfl rfl | exact q_loadB 9 rfl rfl rfl | exact q_call (fun w hm => (eqCoupled_c (stiM st0 tot0 xss0 st1 tot1 xss1).st (stiM st0 tot0 xss0 st1 tot1 xss1).tot (stiM st0 tot0 xss0 st1 tot1 xss1).st (stiM st0 tot0 xss0 st1 tot1 xss1).tot _ _ _ _ _ _ w (hm.rdS 8 rfl hl76 _) (hm.rdS 2 rfl hl22 _)).tt ⟨rfl, rfl, rfl⟩) rfl)) | (apply hq_g; rfl; rfl; decide; (first | exact q_loadB 4 rfl rfl rfl | exact q_loadB 5 rfl rfl rfl | exact q_loadB 6 rfl rfl rfl | exact q_loadB 7 rfl rfl rfl | exact q_loadB 8 rfl rfl rfl | exact q_loadB 9 rfl rfl rfl | exact q_call (fun w hm => (eqCoupled_c (stiM st0 tot0 xss0 st1 tot1 xss1).st (stiM st0 tot0 xss0 st1 tot1 xss1).tot (stiM st0 tot0 xss0 st1 tot1 xss1).st (stiM st0 tot0 xss0 st1 tot1 xss1).tot _ _ _ _ _ _ w (hm.rdS 8 rfl hl76 _) (hm.rdS 2 rfl hl22 _)).tt ⟨rfl, rfl, rfl⟩) rfl)) | (apply hl_g; rfl; rfl; decide; (first | exact q_loadB 4 rfl rfl rfl | exact q_loadB 5 rfl rfl rfl | exact q_loadB 6 rfl rfl rfl | exact q_loadB 7 rfl rfl rfl | exact q_loadB 8 rfl rfl rfl | exact q_loadB 9 rfl rfl rfl | exact q_call (fun w hm => (eqCoupled_c (stiM st0 tot0 xss0 st1 tot1 xss1).st (stiM st0 tot0 xss0 st1 tot1 xss1).tot (stiM st0 tot0 xss0 st1 tot1 xss1).st (stiM st0 tot0 xss0 st1 tot1 xss1).tot _ _ _ _ _ _ w (hm.rdS 8 rfl hl76 _) (hm.rdS 2 rfl hl22 _)).tt ⟨rfl, rfl, rfl⟩) rfl)))
  refine hw_heldE (σ := Unit) [rBlk b2 (chV st0 tot0 v0).cells 26, rBlk b3 (chV st1 tot1 v1).cells 66, rRows 82 2 (Value.int .i64) u20 vs21 (stiM st0 tot0 xss0 st1 tot1 xss1).xss, rBlk b19 #[.int .i64 (stiM st0 tot0 xss0 st1 tot1 xss1).st, .int .i64 (stiM st0 tot0 xss0 st1 tot1 xss1).tot, u20] 69, rRows 82 2 (Value.int .i64) u64 vs65 xss0, rBlk b68 #[.int .i64 st0, .int .i64 tot0, u64] 31, rRows 82 2 (Value.int .i64) u69 vs70 xss1, rBlk b73 #[.int .i64 st1, .int .i64 tot1, u69] 69, rRows 82 2 (Value.int .i64) u74 vs75 (stiM st0 tot0 xss0 st1 tot1 xss1).xss, rBlk b78 #[.int .i64 (stiM st0 tot0 xss0 st1 tot1 xss1).st, .int .i64 (stiM st0 tot0 xss0 st1 tot1 xss1).tot, u74] 69] (fun _ => [(2, .pointer (some ⟨b2, 0, none⟩)), (3, .pointer (some ⟨b3, 0, none⟩)), (6, .pointer (some ⟨b19, 0, none⟩)), (7, .int .i64 ((stiM st0 tot0 xss0 st1 tot1 xss1).code)), (8, .pointer (some ⟨b68, 0, none⟩)), (9, .pointer (some ⟨b73, 0, none⟩)), (10, .pointer (some ⟨b78, 0, none⟩)), (11, .int .i64 ((stiM st0 tot0 xss0 st1 tot1 xss1).code)), (58, .bool false)]) (fun _ => [rBlk b2 (chV st0 tot0 v0).cells 26, rBlk b3 (chV st1 tot1 v1).cells 66, rRows 82 2 (Value.int .i64) u20 vs21 (stiM st0 tot0 xss0 st1 tot1 xss1).xss, rBlk b19 #[.int .i64 (stiM st0 tot0 xss0 st1 tot1 xss1).st, .int .i64 (stiM st0 tot0 xss0 st1 tot1 xss1).tot, u20] 69, rRows 82 2 (Value.int .i64) u64 vs65 xss0, rBlk b68 #[.int .i64 st0, .int .i64 tot0, u64] 31, rRows 82 2 (Value.int .i64) u69 vs70 xss1, rBlk b73 #[.int .i64 st1, .int .i64 tot1, u69] 69, rRows 82 2 (Value.int .i64) u74 vs75 (stiM st0 tot0 xss0 st1 tot1 xss1).xss, rBlk b78 #[.int .i64 (stiM st0 tot0 xss0 st1 tot1 xss1).st, .int .i64 (stiM st0 tot0 xss0 st1 tot1 xss1).tot, u74] 69]) (fun _ => True) (by kernel_rfl) ?_ ?_
  · skip
    refine hb_take 0 rfl (by decide) (by decide +kernel) (by decide +kernel) (by decide +kernel) (fun _ _ _ h => h) (fun w hm => Mem.keep _ hm) (qv_q rfl (q_loadB 5 rfl rfl rfl)) ?_
    refine hb_take 1 rfl (by decide) (by decide +kernel) (by decide +kernel) (by decide +kernel) (fun _ _ _ h => h) (fun w hm => Mem.keep _ hm) (qv_q rfl (q_loadB 0 rfl rfl rfl)) ?_
    refine hb_1 2 (by decide +kernel) rfl ?_
    refine hl_call (by decide) (fun w hm => toChain_c st0 tot0 v0 xss0 _ w (hr0.up hm.below) hsmr4) rfl ?_
    rintro _ _ ⟨u83, vs84, rfl, rfl, hl85, hu86⟩
    refine hl_nil ?_
    refine hx_hb (fun w hm => Mem.keep _ hm) ?_
    refine hb_1 3 (by decide +kernel) rfl ?_
    refine hl_q (by decide) (q_call (fun w hm => (eqChain_c st0 tot0 st0 tot0 _ _ _ _ _ _ w (hm.rdS 4 rfl hl66 _) (hm.rdS 10 rfl hl85 _)).tt ⟨rfl, rfl, rfl⟩) rfl) ?_
    refine hl_nil ?_
    refine hx_hb (fun w hm => Mem.keep _ hm) ?_
    refine hb_take 4 rfl (by decide) (by decide +kernel) (by decide +kernel) (by decide +kernel) (fun _ _ _ h => h) (fun w hm => Mem.keep _ hm) (qv_q rfl (q_not rfl)) ?_
    refine hb_end (by decide +kernel) ?_
    exact hx_joinE () trivial (by simp [Env.le, Env.at, envOf]) (fun w hm => Mem.keep _ hm)
  intro _ _
  repeat' (first | refine hl_a ?_ | refine hq_a ?_ | refine hl_nil ?_ | refine hq_nil ?_ | refine hq_ga ?_ | refine hq_sk ?_ | refine hq_su ?_ | refine hq_gT ?_ | refine hq_gF ?_ | refine hq_gd (fun h => ?_) (fun h => ?_) | refine hl_ga ?_ | refine hl_sk ?_ | refine hl_su ?_ | refine hl_gT ?_ | refine hl_gF ?_ | refine hl_gd (fun h => ?_) (fun h => ?_) | refine hx_next ?_ | refine hw_seq ?_ | refine hw_region ?_ | refine hw_block ?_ | refine hx_block ?_ | refine hw_tt ?_ | refine hw_ff ?_ | refine hw_iT ?_ | refine hw_iF ?_ | refine hw_skip ?_ | refine hw_ret ?_ | refine hw_exit ?_ | refine hx_then_ret ?_ | refine hx_block_ret ?_ | refine hx_then_exit ?_ | refine hx_block_here ?_ | refine hx_far ?_ | refine hx_any ?_ | (apply ha_end; decide +kernel) | (apply hl_q; decide; (first | exact q_loadB 4 rfl rfl rfl | exact q_loadB 5 rfl rfl rfl | exact q_loadB 6 rfl rfl rfl | exact q_loadB 7 rfl rfl rfl | exact q_loadB 8 rfl rfl rfl | exact q_loadB 9 rfl rfl rfl)) | (apply hq_q; decide; (first | exact q_loadB 4 rfl rfl rfl | exact q_loadB 5 rfl rfl rfl | exact q_loadB 6 rfl rfl rfl | exact q_loadB 7 rfl rfl rfl | exact q_loadB 8 rfl rfl rfl | exact q_loadB 9 rfl rfl rfl)) | (apply hq_g; rfl; rfl; decide; (first | exact q_loadB 4 rfl rfl rfl | exact q_loadB 5 rfl rfl rfl | exact q_loadB 6 rfl rfl rfl | exact q_loadB 7 rfl rfl rfl | exact q_loadB 8 rfl rfl rfl | exact q_loadB 9 rfl rfl rfl)) | (apply hl_g; rfl; rfl; decide; (first | exact q_loadB 4 rfl rfl rfl | exact q_loadB 5 rfl rfl rfl | exact q_loadB 6 rfl rfl rfl | exact q_loadB 7 rfl rfl rfl | exact q_loadB 8 rfl rfl rfl | exact q_loadB 9 rfl rfl rfl)))
  refine hw_heldE (σ := Unit) [rBlk b2 (chV st0 tot0 v0).cells 26, rBlk b3 (chV st1 tot1 v1).cells 66, rRows 82 2 (Value.int .i64) u20 vs21 (stiM st0 tot0 xss0 st1 tot1 xss1).xss, rBlk b19 #[.int .i64 (stiM st0 tot0 xss0 st1 tot1 xss1).st, .int .i64 (stiM st0 tot0 xss0 st1 tot1 xss1).tot, u20] 69, rRows 82 2 (Value.int .i64) u64 vs65 xss0, rBlk b68 #[.int .i64 st0, .int .i64 tot0, u64] 31, rRows 82 2 (Value.int .i64) u69 vs70 xss1, rBlk b73 #[.int .i64 st1, .int .i64 tot1, u69] 69, rRows 82 2 (Value.int .i64) u74 vs75 (stiM st0 tot0 xss0 st1 tot1 xss1).xss, rBlk b78 #[.int .i64 (stiM st0 tot0 xss0 st1 tot1 xss1).st, .int .i64 (stiM st0 tot0 xss0 st1 tot1 xss1).tot, u74] 69] (fun _ => [(2, .pointer (some ⟨b2, 0, none⟩)), (3, .pointer (some ⟨b3, 0, none⟩)), (6, .pointer (some ⟨b19, 0, none⟩)), (7, .int .i64 ((stiM st0 tot0 xss0 st1 tot1 xss1).code)), (8, .pointer (some ⟨b68, 0, none⟩)), (9, .pointer (some ⟨b73, 0, none⟩)), (10, .pointer (some ⟨b78, 0, none⟩)), (11, .int .i64 ((stiM st0 tot0 xss0 st1 tot1 xss1).code)), (63, .bool false)]) (fun _ => [rBlk b2 (chV st0 tot0 v0).cells 26, rBlk b3 (chV st1 tot1 v1).cells 66, rRows 82 2 (Value.int .i64) u20 vs21 (stiM st0 tot0 xss0 st1 tot1 xss1).xss, rBlk b19 #[.int .i64 (stiM st0 tot0 xss0 st1 tot1 xss1).st, .int .i64 (stiM st0 tot0 xss0 st1 tot1 xss1).tot, u20] 69, rRows 82 2 (Value.int .i64) u64 vs65 xss0, rBlk b68 #[.int .i64 st0, .int .i64 tot0, u64] 31, rRows 82 2 (Value.int .i64) u69 vs70 xss1, rBlk b73 #[.int .i64 st1, .int .i64 tot1, u69] 69, rRows 82 2 (Value.int .i64) u74 vs75 (stiM st0 tot0 xss0 st1 tot1 xss1).xss, rBlk b78 #[.int .i64 (stiM st0 tot0 xss0 st1 tot1 xss1).st, .int .i64 (stiM st0 tot0 xss0 st1 tot1 xss1).tot, u74] 69]) (fun _ => True) (by kernel_rfl) ?_ ?_
  · skip
    refine hb_take 0 rfl (by decide) (by decide +kernel) (by decide +kernel) (by decide +kernel) (fun _ _ _ h => h) (fun w hm => Mem.keep _ hm) (qv_q rfl (q_loadB 7 rfl rfl rfl)) ?_
    refine hb_take 1 rfl (by decide) (by decide +kernel) (by decide +kernel) (by decide +kernel) (fun _ _ _ h => h) (fun w hm => Mem.keep _ hm) (qv_q rfl (q_loadB 1 rfl rfl rfl)) ?_
    refine hb_1 2 (by decide +kernel) rfl ?_
    refine hl_call (by decide) (fun w hm => toCoupled_c st1 tot1 v1 xss1 _ w (hr1.up hm.below) hsmr5) rfl ?_
    rintro _ _ ⟨u91, vs92, rfl, rfl, hl93, hu94⟩
    refine hl_nil ?_
    refine hx_hb (fun w hm => Mem.keep _ hm) ?_
    refine hb_1 3 (by decide +kernel) rfl ?_
    refine hl_q (by decide) (q_call (fun w hm => (eqCoupled_c st1 tot1 st1 tot1 _ _ _ _ _ _ w (hm.rdS 6 rfl hl71 _) (hm.rdS 10 rfl hl93 _)).tt ⟨rfl, rfl, rfl⟩) rfl) ?_
    refine hl_nil ?_
    refine hx_hb (fun w hm => Mem.keep _ hm) ?_
    refine hb_take 4 rfl (by decide) (by decide +kernel) (by decide +kernel) (by decide +kernel) (fun _ _ _ h => h) (fun w hm => Mem.keep _ hm) (qv_q rfl (q_not rfl)) ?_
    refine hb_end (by decide +kernel) ?_
    exact hx_joinE () trivial (by simp [Env.le, Env.at, envOf]) (fun w hm => Mem.keep _ hm)
  intro _ _
  repeat' (first | refine hl_a ?_ | refine hq_a ?_ | refine hl_nil ?_ | refine hq_nil ?_ | refine hq_ga ?_ | refine hq_sk ?_ | refine hq_su ?_ | refine hq_gT ?_ | refine hq_gF ?_ | refine hq_gd (fun h => ?_) (fun h => ?_) | refine hl_ga ?_ | refine hl_sk ?_ | refine hl_su ?_ | refine hl_gT ?_ | refine hl_gF ?_ | refine hl_gd (fun h => ?_) (fun h => ?_) | refine hx_next ?_ | refine hw_seq ?_ | refine hw_region ?_ | refine hw_dr ?_ | refine hw_block ?_ | refine hx_block ?_ | refine hw_tt ?_ | refine hw_ff ?_ | refine hw_iT ?_ | refine hw_iF ?_ | refine hw_skip ?_ | refine hw_ret ?_ | refine hw_exit ?_ | refine hx_then_ret ?_ | refine hx_block_ret ?_ | refine hx_then_exit ?_ | refine hx_block_here ?_ | refine hx_far ?_ | refine hx_any ?_ | (apply ha_end; decide +kernel) | (apply hl_q; decide; (first | exact q_loadB 4 rfl rfl rfl | exact q_loadB 5 rfl rfl rfl | exact q_loadB 6 rfl rfl rfl | exact q_loadB 7 rfl rfl rfl | exact q_loadB 8 rfl rfl rfl | exact q_loadB 9 rfl rfl rfl)) | (apply hq_q; decide; (first | exact q_loadB 4 rfl rfl rfl | exact q_loadB 5 rfl rfl rfl | exact q_loadB 6 rfl rfl rfl | exact q_loadB 7 rfl rfl rfl | exact q_loadB 8 rfl rfl rfl | exact q_loadB 9 rfl rfl rfl)) | (apply hq_g; rfl; rfl; decide; (first | exact q_loadB 4 rfl rfl rfl | exact q_loadB 5 rfl rfl rfl | exact q_loadB 6 rfl rfl rfl | exact q_loadB 7 rfl rfl rfl | exact q_loadB 8 rfl rfl rfl | exact q_loadB 9 rfl rfl rfl)) | (apply hl_g; rfl; rfl; decide; (first | exact q_loadB 4 rfl rfl rfl | exact q_loadB 5 rfl rfl rfl | exact q_loadB 6 rfl rfl rfl | exact q_loadB 7 rfl rfl rfl | exact q_loadB 8 rfl rfl rfl | exact q_loadB 9 rfl rfl rfl)))
  refine hl_mut 4 rfl (by decide) (markChain_c st0 tot0 u64 vs65 xss0 1 (by omega) (by omega) hsmr4 hl66) rfl ?_
  rintro _ _ ⟨rfl, rfl⟩
  have nk94 : ¬ (((1 : Int) + ((lens xss0 : Nat) : Int)) < 0) := by omega
  have hm96 : vs65.length = (mkS (fun k : Int => k) 1 xss0).length := by rw [mkS_length]; exact hl66
  repeat' (first | refine hl_a ?_ | refine hq_a ?_ | refine hl_nil ?_ | refine hq_nil ?_ | refine hq_ga ?_ | refine hq_sk ?_ | refine hq_su ?_ | refine hq_gT ?_ | refine hq_gF ?_ | refine hq_gd (fun h => ?_) (fun h => ?_) | refine hl_ga ?_ | refine hl_sk ?_ | refine hl_su ?_ | refine hl_gT ?_ | refine hl_gF ?_ | refine hl_gd (fun h => ?_) (fun h => ?_) | refine hx_next ?_ | refine hw_seq ?_ | refine hw_region ?_ | refine hw_dr ?_ | refine hw_block ?_ | refine hx_block ?_ | refine hw_tt ?_ | refine hw_ff ?_ | refine hw_iT ?_ | refine hw_iF ?_ | refine hw_skip ?_ | refine hw_ret ?_ | refine hw_exit ?_ | refine hx_then_ret ?_ | refine hx_block_ret ?_ | refine hx_then_exit ?_ | refine hx_block_here ?_ | refine hx_far ?_ | refine hx_any ?_ | (apply ha_end; decide +kernel) | (apply hl_q; decide; (first | exact q_loadB 4 rfl rfl rfl | exact q_loadB 5 rfl rfl rfl | exact q_loadB 6 rfl rfl rfl | exact q_loadB 7 rfl rfl rfl | exact q_loadB 8 rfl rfl rfl | exact q_loadB 9 rfl rfl rfl)) | (apply hq_q; decide; (first | exact q_loadB 4 rfl rfl rfl | exact q_loadB 5 rfl rfl rfl | exact q_loadB 6 rfl rfl rfl | exact q_loadB 7 rfl rfl rfl | exact q_loadB 8 rfl rfl rfl | exact q_loadB 9 rfl rfl rfl)) | (apply hq_g; rfl; rfl; decide; (first | exact q_loadB 4 rfl rfl rfl | exact q_loadB 5 rfl rfl rfl | exact q_loadB 6 rfl rfl rfl | exact q_loadB 7 rfl rfl rfl | exact q_loadB 8 rfl rfl rfl | exact q_loadB 9 rfl rfl rfl)) | (apply hl_g; rfl; rfl; decide; (first | exact q_loadB 4 rfl rfl rfl | exact q_loadB 5 rfl rfl rfl | exact q_loadB 6 rfl rfl rfl | exact q_loadB 7 rfl rfl rfl | exact q_loadB 8 rfl rfl rfl | exact q_loadB 9 rfl rfl rfl)))
  refine hl_mut 6 rfl (by decide) (markCoupled_c st1 tot1 u69 vs70 xss1 ((1 : Int) + ((lens xss0 : Nat) : Int)) (by omega) (by omega) hsmr5 hl71) rfl ?_
  rintro _ _ ⟨rfl, rfl⟩
  have nk96 : ¬ (((((1 : Int) + ((lens xss0 : Nat) : Int)) : Int) + ((lens xss1 : Nat) : Int)) < 0) := by omega
  have hm98 : vs70.length = (mkS (fun k : Int => k) ((1 : Int) + ((lens xss0 : Nat) : Int)) xss1).length := by rw [mkS_length]; exact hl71
  repeat' (first | refine hl_a ?_ | refine hq_a ?_ | refine hl_nil ?_ | refine hq_nil ?_ | refine hq_ga ?_ | refine hq_sk ?_ | refine hq_su ?_ | refine hq_gT ?_ | refine hq_gF ?_ | refine hq_gd (fun h => ?_) (fun h => ?_) | refine hl_ga ?_ | refine hl_sk ?_ | refine hl_su ?_ | refine hl_gT ?_ | refine hl_gF ?_ | refine hl_gd (fun h => ?_) (fun h => ?_) | refine hx_next ?_ | refine hw_seq ?_ | refine hw_region ?_ | refine hw_dr ?_ | refine hw_block ?_ | refine hx_block ?_ | refine hw_tt ?_ | refine hw_ff ?_ | refine hw_iT ?_ | refine hw_iF ?_ | refine hw_skip ?_ | refine hw_ret ?_ | refine hw_exit ?_ | refine hx_then_ret ?_ | refine hx_block_ret ?_ | refine hx_then_exit ?_ | refine hx_block_here ?_ | refine hx_far ?_ | refine hx_any ?_ | (apply ha_end; decide +kernel) | (apply hl_q; decide; (first | exact q_loadB 4 rfl rfl rfl | exact q_loadB 5 rfl rfl rfl | exact q_loadB 6 rfl rfl rfl | exact q_loadB 7 rfl rfl rfl | exact q_loadB 8 rfl rfl rfl | exact q_loadB 9 rfl rfl rfl | exact q_call (fun w hm => (eqCoupled_c (stiM st0 tot0 xss0 st1 tot1 xss1).st (stiM st0 tot0 xss0 st1 tot1 xss1).tot (stiM st0 tot0 xss0 st1 tot1 xss1).st (stiM st0 tot0 xss0 st1 tot1 xss1).tot _ _ _ _ _ _ w (hm.rdS 8 rfl hl76 _) (hm.rdS 2 rfl hl22 _)).tt ⟨rfl, rfl, rfl⟩) rfl)) | (apply hq_q; decide; (first | exact q_loadB 4 rfl rfl rfl | exact q_loadB 5 rfl rfl rfl | exact q_loadB 6 rfl rfl rfl | exact q_loadB 7 rfl rfl rfl | exact q_loadB 8 rfl rfl rfl | exact q_loadB 9 rfl rfl rfl | exact q_call (fun w hm => (eqCoupled_c (stiM st0 tot0 xss0 st1 tot1 xss1).st (stiM st0 tot0 xss0 st1 tot1 xss1).tot (stiM st0 tot0 xss0 st1 tot1 xss1).st (stiM st0 tot0 xss0 st1 tot1 xss1).tot _ _ _ _ _ _ w (hm.rdS 8 rfl hl76 _) (hm.rdS 2 rfl hl22 _)).tt ⟨rfl, rfl, rfl⟩) rfl)) | (apply hq_g; rfl; rfl; decide; (first | exact q_loadB 4 rfl rfl rfl | exact q_loadB 5 rfl rfl rfl | exact q_loadB 6 rfl rfl rfl | exact q_loadB 7 rfl rfl rfl | exact q_loadB 8 rfl rfl rfl | exact q_loadB 9 rfl rfl rfl | exact q_call (fun w hm => (eqCoupled_c (stiM st0 tot0 xss0 st1 tot1 xss1).st (stiM st0 tot0 xss0 st1 tot1 xss1).tot (stiM st0 tot0 xss0 st1 tot1 xss1).st (stiM st0 tot0 xss0 st1 tot1 xss1).tot _ _ _ _ _ _ w (hm.rdS 8 rfl hl76 _) (hm.rdS 2 rfl hl22 _)).tt ⟨rfl, rfl, rfl⟩) rfl)) | (apply hl_g; rfl; rfl; decide; (first | exact q_loadB 4 rfl rfl rfl | exact q_loadB 5 rfl rfl rfl | exact q_loadB 6 rfl rfl rfl | exact q_loadB 7 rfl rfl rfl | exact q_loadB 8 rfl rfl rfl | exact q_loadB 9 rfl rfl rfl | exact q_call (fun w hm => (eqCoupled_c (stiM st0 tot0 xss0 st1 tot1 xss1).st (stiM st0 tot0 xss0 st1 tot1 xss1).tot (stiM st0 tot0 xss0 st1 tot1 xss1).st (stiM st0 tot0 xss0 st1 tot1 xss1).tot _ _ _ _ _ _ w (hm.rdS 8 rfl hl76 _) (hm.rdS 2 rfl hl22 _)).tt ⟨rfl, rfl, rfl⟩) rfl)))
  refine hl_mut 8 rfl (by decide) (markCoupled_c (stiM st0 tot0 xss0 st1 tot1 xss1).st (stiM st0 tot0 xss0 st1 tot1 xss1).tot u74 vs75 (stiM st0 tot0 xss0 st1 tot1 xss1).xss 1 (by omega) (by omega) hsmM hl76) rfl ?_
  rintro _ _ ⟨rfl, rfl⟩
  have nk98 : ¬ (((1 : Int) + ((lens (stiM st0 tot0 xss0 st1 tot1 xss1).xss : Nat) : Int)) < 0) := by omega
  have hm100 : vs75.length = (mkS (fun k : Int => k) 1 (stiM st0 tot0 xss0 st1 tot1 xss1).xss).length := by rw [mkS_length]; exact hl76
  have nq100 : ¬ (((1 : Int) + ((lens (stiM st0 tot0 xss0 st1 tot1 xss1).xss : Nat) : Int)) ≠ ((1 : Int) + ((lens (stiM st0 tot0 xss0 st1 tot1 xss1).xss : Nat) : Int))) := fun h => h rfl
  repeat' (first | refine hl_a ?_ | refine hq_a ?_ | refine hl_nil ?_ | refine hq_nil ?_ | refine hq_ga ?_ | refine hq_sk ?_ | refine hq_su ?_ | refine hq_gT ?_ | refine hq_gF ?_ | refine hq_gd (fun h => ?_) (fun h => ?_) | refine hl_ga ?_ | refine hl_sk ?_ | refine hl_su ?_ | refine hl_gT ?_ | refine hl_gF ?_ | refine hl_gd (fun h => ?_) (fun h => ?_) | refine hx_next ?_ | refine hw_seq ?_ | refine hw_region ?_ | refine hw_block ?_ | refine hx_block ?_ | refine hw_tt ?_ | refine hw_ff ?_ | refine hw_iT ?_ | refine hw_iF ?_ | refine hw_skip ?_ | refine hw_ret ?_ | refine hw_exit ?_ | refine hx_then_ret ?_ | refine hx_block_ret ?_ | refine hx_then_exit ?_ | refine hx_block_here ?_ | refine hx_far ?_ | refine hx_any ?_ | (apply ha_end; decide +kernel) | (apply hl_q; decide; (first | exact q_loadB 4 rfl rfl rfl | exact q_loadB 5 rfl rfl rfl | exact q_loadB 6 rfl rfl rfl | exact q_loadB 7 rfl rfl rfl | exact q_loadB 8 rfl rfl rfl | exact q_loadB 9 rfl rfl rfl | exact q_call (fun w hm => heldCoupled_c (stiM st0 tot0 xss0 st1 tot1 xss1).st (stiM st0 tot0 xss0 st1 tot1 xss1).tot u74 (stiM st0 tot0 xss0 st1 tot1 xss1).xss _ 1 (by omega) (by omega) hsmM w (hm.rdS 8 rfl hm100 _)) rfl)) | (apply hq_q; decide; (first | exact q_loadB 4 rfl rfl rfl | exact q_loadB 5 rfl rfl rfl | exact q_loadB 6 rfl rfl rfl | exact q_loadB 7 rfl rfl rfl | exact q_loadB 8 rfl rfl rfl | exact q_loadB 9 rfl rfl rfl | exact q_call (fun w hm => heldCoupled_c (stiM st0 tot0 xss0 st1 tot1 xss1).st (stiM st0 tot0 xss0 st1 tot1 xss1).tot u74 (stiM st0 tot0 xss0 st1 tot1 xss1).xss _ 1 (by omega) (by omega) hsmM w (hm.rdS 8 rfl hm100 _)) rfl)) | (apply hq_g; rfl; rfl; decide; (first | exact q_loadB 4 rfl rfl rfl | exact q_loadB 5 rfl rfl rfl | exact q_loadB 6 rfl rfl rfl | exact q_loadB 7 rfl rfl rfl | exact q_loadB 8 rfl rfl rfl | exact q_loadB 9 rfl rfl rfl | exact q_call (fun w hm => heldCoupled_c (stiM st0 tot0 xss0 st1 tot1 xss1).st (stiM st0 tot0 xss0 st1 tot1 xss1).tot u74 (stiM st0 tot0 xss0 st1 tot1 xss1).xss _ 1 (by omega) (by omega) hsmM w (hm.rdS 8 rfl hm100 _)) rfl)) | (apply hl_g; rfl; rfl; decide; (first | exact q_loadB 4 rfl rfl rfl | exact q_loadB 5 rfl rfl rfl | exact q_loadB 6 rfl rfl rfl | exact q_loadB 7 rfl rfl rfl | exact q_loadB 8 rfl rfl rfl | exact q_loadB 9 rfl rfl rfl | exact q_call (fun w hm => heldCoupled_c (stiM st0 tot0 xss0 st1 tot1 xss1).st (stiM st0 tot0 xss0 st1 tot1 xss1).tot u74 (stiM st0 tot0 xss0 st1 tot1 xss1).xss _ 1 (by omega) (by omega) hsmM w (hm.rdS 8 rfl hm100 _)) rfl)))
  refine hw_heldE (σ := Nat × Value × List Value) [rBlk b2 (chV st0 tot0 v0).cells 26, rBlk b3 (chV st1 tot1 v1).cells 66, rRows 82 2 (Value.int .i64) u20 vs21 (stiM st0 tot0 xss0 st1 tot1 xss1).xss, rBlk b19 #[.int .i64 (stiM st0 tot0 xss0 st1 tot1 xss1).st, .int .i64 (stiM st0 tot0 xss0 st1 tot1 xss1).tot, u20] 69, rRows 82 2 (Value.int .i64) u64 vs65 (mkS (fun k : Int => k) 1 xss0), rBlk b68 #[.int .i64 st0, .int .i64 tot0, u64] 31, rRows 82 2 (Value.int .i64) u69 vs70 (mkS (fun k : Int => k) ((1 : Int) + ((lens xss0 : Nat) : Int)) xss1), rBlk b73 #[.int .i64 st1, .int .i64 tot1, u69] 69, rRows 82 2 (Value.int .i64) u74 vs75 (mkS (fun k : Int => k) 1 (stiM st0 tot0 xss0 st1 tot1 xss1).xss), rBlk b78 #[.int .i64 (stiM st0 tot0 xss0 st1 tot1 xss1).st, .int .i64 (stiM st0 tot0 xss0 st1 tot1 xss1).tot, u74] 69] (fun s => [(6, .pointer (some ⟨b19, 0, none⟩)), (7, .int .i64 ((stiM st0 tot0 xss0 st1 tot1 xss1).code)), (10, .pointer (some ⟨b78, 0, none⟩)), (13, .int .i64 ((1 : Int) + ((lens (stiM st0 tot0 xss0 st1 tot1 xss1).xss : Nat) : Int))), (15, .pointer (some ⟨s.1, 0, none⟩)), (16, .int .i64 ((stiM st0 tot0 xss0 st1 tot1 xss1).code))]) (fun s => [rBlk b2 (chV st0 tot0 v0).cells 26, rBlk b3 (chV st1 tot1 v1).cells 66, rRows 82 2 (Value.int .i64) u20 vs21 (stiM st0 tot0 xss0 st1 tot1 xss1).xss, rBlk b19 #[.int .i64 (stiM st0 tot0 xss0 st1 tot1 xss1).st, .int .i64 (stiM st0 tot0 xss0 st1 tot1 xss1).tot, u20] 69, rRows 82 2 (Value.int .i64) u64 vs65 (mkS (fun k : Int => k) 1 xss0), rBlk b68 #[.int .i64 st0, .int .i64 tot0, u64] 31, rRows 82 2 (Value.int .i64) u69 vs70 (mkS (fun k : Int => k) ((1 : Int) + ((lens xss0 : Nat) : Int)) xss1), rBlk b73 #[.int .i64 st1, .int .i64 tot1, u69] 69, rRows 82 2 (Value.int .i64) u74 vs75 (mkS (fun k : Int => k) 1 (stiM st0 tot0 xss0 st1 tot1 xss1).xss), rBlk b78 #[.int .i64 (stiM st0 tot0 xss0 st1 tot1 xss1).st, .int .i64 (stiM st0 tot0 xss0 st1 tot1 xss1).tot, u74] 69, rRows 82 2 (Value.int .i64) s.2.1 s.2.2 (stiM st0 tot0 xss0 st1 tot1 xss1).xss, rBlk s.1 #[.int .i64 (stiM st0 tot0 xss0 st1 tot1 xss1).st, .int .i64 (stiM st0 tot0 xss0 st1 tot1 xss1).tot, s.2.1] 69]) (fun s => s.2.2.length = (stiM st0 tot0 xss0 st1 tot1 xss1).xss.length ∧ SlOk s.2.1 (stiM st0 tot0 xss0 st1 tot1 xss1).xss.length) (by kernel_rfl) ?_ ?_
  · skip
    refine hb_take 0 rfl (by decide) (by decide +kernel) (by decide +kernel) (by decide +kernel) (fun _ _ _ h => h) (fun w hm => Mem.keep _ hm) (qv_q rfl (q_loadB 0 rfl rfl rfl)) ?_
    refine hb_take 2 rfl (by decide) (by decide +kernel) (by decide +kernel) (by decide +kernel) (fun _ _ _ h => h) (fun w hm => Mem.keep _ hm) (qv_q rfl (q_loadB 1 rfl rfl rfl)) ?_
    refine hb_2 1 8 (by decide +kernel) rfl rfl ?_ ?_
    · skip
      refine hl_call (by decide) (fun w hm => toChain_c st0 tot0 v0 xss0 _ w (hr0.up hm.below) hsmr4) rfl ?_
      rintro _ _ ⟨u120, vs121, rfl, rfl, hl122, hu123⟩
      refine hl_nil ?_
      refine hx_hb (fun w hm => Mem.keep _ hm) ?_
      refine hb_2 3 8 (by decide +kernel) rfl rfl ?_ ?_
      · skip
        refine hl_call (by decide) (fun w hm => toCoupled_c st1 tot1 v1 xss1 _ w (hr1.up hm.below) hsmr5) rfl ?_
        rintro _ _ ⟨u124, vs125, rfl, rfl, hl126, hu127⟩
        refine hl_nil ?_
        refine hx_hb (fun w hm => Mem.keep _ hm) ?_
        refine hb_2 4 8 (by decide +kernel) rfl rfl ?_ ?_
        · skip
          refine hl_call (by decide) (fun w hm => implStickyCoupled_c st0 tot0 u120 xss0 _ st1 tot1 u124 xss1 _ w (hm.rdS 10 rfl hl122 _) (hm.rdS 11 rfl hl126 _)) rfl ?_
          rintro _ _ ⟨u128, vs129, rfl, rfl, hl130, hu131⟩
          refine hl_nil ?_
          refine hx_hb (fun w hm => Mem.keep _ hm) ?_
          refine hb_take 5 rfl (by decide) (by decide +kernel) (by decide +kernel) (by decide +kernel) (fun _ _ _ h => h) (fun w hm => Mem.keep _ hm) (qv_q rfl (q_move rfl)) ?_
          refine hb_take 6 rfl (by decide) (by decide +kernel) (by decide +kernel) (by decide +kernel) (fun _ _ _ h => h) (fun w hm => Mem.keep _ hm) (qv_q rfl (q_ext rfl rfl)) ?_
          refine hb_take 7 rfl (by decide) (by decide +kernel) (by decide +kernel) (by decide +kernel) (fun _ _ _ h => h) (fun w hm => Mem.keep _ hm) (qv_q rfl (q_ext rfl rfl)) ?_
          refine hb_1 8 (by decide +kernel) rfl ?_
          refine hl_alloc (by decide) (fun b132 => ?_)
          refine hl_nil ?_
          refine hx_hb (fun w hm => Mem.keep _ hm) ?_
          refine hb_1 9 (by decide +kernel) rfl ?_
          refine hl_storeA 13 rfl rfl rfl rfl rfl (chV_one hu131) ?_
          refine hl_nil ?_
          refine hx_hb (fun w hm => Mem.keep _ hm) ?_
          refine hb_take 10 rfl (by decide) (by decide +kernel) (by decide +kernel) (by decide +kernel) (fun _ _ _ h => h) (fun w hm => Mem.keep _ hm) (qv_q rfl (q_assign rfl)) ?_
          refine hb_end (by decide +kernel) ?_
          exact hx_joinE (b132, u128, vs129) ⟨hl130, hu131⟩ (by simp [Env.le, Env.at, envOf]) (fun w hm => hm.pick [0, 1, 2, 3, 4, 5, 6, 7, 8, 9, 12, 13] (by decide) rfl)
        · skip
          refine hl_alloc (by decide) (fun b133 => ?_)
          refine hl_nil ?_
          refine hx_hb (fun w hm => Mem.keep _ hm) ?_
          refine hb_1 4 (by decide +kernel) rfl ?_
          refine hl_call (by decide) (fun w hm => implStickyCoupled_c st0 tot0 u120 xss0 _ st1 tot1 u124 xss1 _ w (hm.rdS 10 rfl hl122 _) (hm.rdS 11 rfl hl126 _)) rfl ?_
          rintro _ _ ⟨u134, vs135, rfl, rfl, hl136, hu137⟩
          refine hl_nil ?_
          refine hx_hb (fun w hm => Mem.keep _ hm) ?_
          refine hb_take 5 rfl (by decide) (by decide +kernel) (by decide +kernel) (by decide +kernel) (fun _ _ _ h => h) (fun w hm => Mem.keep _ hm) (qv_q rfl (q_move rfl)) ?_
          refine hb_take 6 rfl (by decide) (by decide +kernel) (by decide +kernel) (by decide +kernel) (fun _ _ _ h => h) (fun w hm => Mem.keep _ hm) (qv_q rfl (q_ext rfl rfl)) ?_
          refine hb_take 7 rfl (by decide) (by decide +kernel) (by decide +kernel) (by decide +kernel) (fun _ _ _ h => h) (fun w hm => Mem.keep _ hm) (qv_q rfl (q_ext rfl rfl)) ?_
          refine hb_1 9 (by decide +kernel) rfl ?_
          refine hl_storeA 12 rfl rfl rfl rfl rfl (chV_one hu137) ?_
          refine hl_nil ?_
          refine hx_hb (fun w hm => Mem.keep _ hm) ?_
          refine hb_take 10 rfl (by decide) (by decide +kernel) (by decide +kernel) (by decide +kernel) (fun _ _ _ h => h) (fun w hm => Mem.keep _ hm) (qv_q rfl (q_assign rfl)) ?_
          refine hb_end (by decide +kernel) ?_
          exact hx_joinE (b133, u134, vs135) ⟨hl136, hu137⟩ (by simp [Env.le, Env.at, envOf]) (fun w hm => hm.pick [0, 1, 2, 3, 4, 5, 6, 7, 8, 9, 13, 12] (by decide) rfl)
      · skip
        refine hl_alloc (by decide) (fun b138 => ?_)
        refine hl_nil ?_
        refine hx_hb (fun w hm => Mem.keep _ hm) ?_
        refine hb_1 3 (by decide +kernel) rfl ?_
        refine hl_call (by decide) (fun w hm => toCoupled_c st1 tot1 v1 xss1 _ w (hr1.up hm.below) hsmr5) rfl ?_
        rintro _ _ ⟨u139, vs140, rfl, rfl, hl141, hu142⟩
        refine hl_nil ?_
        refine hx_hb (fun w hm => Mem.keep _ hm) ?_
        refine hb_1 4 (by decide +kernel) rfl ?_
        refine hl_call (by decide) (fun w hm => implStickyCoupled_c st0 tot0 u120 xss0 _ st1 tot1 u139 xss1 _ w (hm.rdS 10 rfl hl122 _) (hm.rdS 12 rfl hl141 _)) rfl ?_
        rintro _ _ ⟨u143, vs144, rfl, rfl, hl145, hu146⟩
        refine hl_nil ?_
        refine hx_hb (fun w hm => Mem.keep _ hm) ?_
        refine hb_take 5 rfl (by decide) (by decide +kernel) (by decide +kernel) (by decide +kernel) (fun _ _ _ h => h) (fun w hm => Mem.keep _ hm) (qv_q rfl (q_move rfl)) ?_
        refine hb_take 6 rfl (by decide) (by decide +kernel) (by decide +kernel) (by decide +kernel) (fun _ _ _ h => h) (fun w hm => Mem.keep _ hm) (qv_q rfl (q_ext rfl rfl)) ?_
        refine hb_take 7 rfl (by decide) (by decide +kernel) (by decide +kernel) (by decide +kernel) (fun _ _ _ h => h) (fun w hm => Mem.keep _ hm) (qv_q rfl (q_ext rfl rfl)) ?_
        refine hb_1 9 (by decide +kernel) rfl ?_
        refine hl_storeA 11 rfl rfl rfl rfl rfl (chV_one hu146) ?_
        refine hl_nil ?_
        refine hx_hb (fun w hm => Mem.keep _ hm) ?_
        refine hb_take 10 rfl (by decide) (by decide +kernel) (by decide +kernel) (by decide +kernel) (fun _ _ _ h => h) (fun w hm => Mem.keep _ hm) (qv_q rfl (q_assign rfl)) ?_
        refine hb_end (by decide +kernel) ?_
        exact hx_joinE (b138, u143, vs144) ⟨hl145, hu146⟩ (by simp [Env.le, Env.at, envOf]) (fun w hm => hm.pick [0, 1, 2, 3, 4, 5, 6, 7, 8, 9, 13, 11] (by decide) rfl)
    · skip
      refine hl_alloc (by decide) (fun b147 => ?_)
      refine hl_nil ?_
      refine hx_hb (fun w hm => Mem.keep _ hm) ?_
      refine hb_1 1 (by decide +kernel) rfl ?_
      refine hl_call (by decide) (fun w hm => toChain_c st0 tot0 v0 xss0 _ w (hr0.up hm.below) hsmr4) rfl ?_
      rintro _ _ ⟨u148, vs149, rfl, rfl, hl150, hu151⟩
      refine hl_nil ?_
      refine hx_hb (fun w hm => Mem.keep _ hm) ?_
      refine hb_1 3 (by decide +kernel) rfl ?_
      refine hl_call (by decide) (fun w hm => toCoupled_c st1 tot1 v1 xss1 _ w (hr1.up hm.below) hsmr5) rfl ?_
      rintro _ _ ⟨u152, vs153, rfl, rfl, hl154, hu155⟩
      refine hl_nil ?_
      refine hx_hb (fun w hm => Mem.keep _ hm) ?_
      refine hb_1 4 (by decide +kernel) rfl ?_
      refine hl_call (by decide) (fun w hm => implStickyCoupled_c st0 tot0 u148 xss0 _ st1 tot1 u152 xss1 _ w (hm.rdS 11 rfl hl150 _) (hm.rdS 12 rfl hl154 _)) rfl ?_
      rintro _ _ ⟨u156, vs157, rfl, rfl, hl158, hu159⟩
      refine hl_nil ?_
      refine hx_hb (fun w hm => Mem.keep _ hm) ?_
      refine hb_take 5 rfl (by decide) (by decide +kernel) (by decide +kernel) (by decide +kernel) (fun _ _ _ h => h) (fun w hm => Mem.keep _ hm) (qv_q rfl (q_move rfl)) ?_
      refine hb_take 6 rfl (by decide) (by decide +kernel) (by decide +kernel) (by decide +kernel) (fun _ _ _ h => h) (fun w hm => Mem.keep _ hm) (qv_q rfl (q_ext rfl rfl)) ?_
      refine hb_take 7 rfl (by decide) (by decide +kernel) (by decide +kernel) (by decide +kernel) (fun _ _ _ h => h) (fun w hm => Mem.keep _ hm) (qv_q rfl (q_ext rfl rfl)) ?_
      refine hb_1 9 (by decide +kernel) rfl ?_
      refine hl_storeA 10 rfl rfl rfl rfl rfl (chV_one hu159) ?_
      refine hl_nil ?_
      refine hx_hb (fun w hm => Mem.keep _ hm) ?_
      refine hb_take 10 rfl (by decide) (by decide +kernel) (by decide +kernel) (by decide +kernel) (fun _ _ _ h => h) (fun w hm => Mem.keep _ hm) (qv_q rfl (q_assign rfl)) ?_
      refine hb_end (by decide +kernel) ?_
      exact hx_joinE (b147, u156, vs157) ⟨hl158, hu159⟩ (by simp [Env.le, Env.at, envOf]) (fun w hm => hm.pick [0, 1, 2, 3, 4, 5, 6, 7, 8, 9, 13, 10] (by decide) rfl)
  rintro ⟨b115, u116, vs117⟩ ⟨hl118, hu119⟩
  dsimp only at hl118 hu119 ⊢
  have nq159 : ¬ (((1 : Int) + ((lens (stiM st0 tot0 xss0 st1 tot1 xss1).xss : Nat) : Int)) ≠ ((1 : Int) + ((lens (stiM st0 tot0 xss0 st1 tot1 xss1).xss : Nat) : Int))) := fun h => h rfl
  repeat' (first | refine hl_a ?_ | refine hq_a ?_ | refine hl_nil ?_ | refine hq_nil ?_ | refine hq_ga ?_ | refine hq_sk ?_ | refine hq_su ?_ | refine hq_gT ?_ | refine hq_gF ?_ | refine hq_gd (fun h => ?_) (fun h => ?_) | refine hl_ga ?_ | refine hl_sk ?_ | refine hl_su ?_ | refine hl_gT ?_ | refine hl_gF ?_ | refine hl_gd (fun h => ?_) (fun h => ?_) | refine hx_next ?_ | refine hw_seq ?_ | refine hw_region ?_ | refine hw_dr ?_ | refine hw_block ?_ | refine hx_block ?_ | refine hw_tt ?_ | refine hw_ff ?_ | refine hw_iT ?_ | refine hw_iF ?_ | refine hw_skip ?_ | refine hw_ret ?_ | refine hw_exit ?_ | refine hx_then_ret ?_ | refine hx_block_ret ?_ | refine hx_then_exit ?_ | refine hx_block_here ?_ | refine hx_far ?_ | refine hx_any ?_ | (apply ha_end; decide +kernel) | (apply hl_q; decide; (first | exact q_loadB 4 rfl rfl rfl | exact q_loadB 5 rfl rfl rfl | exact q_loadB 6 rfl rfl rfl | exact q_loadB 7 rfl rfl rfl | exact q_loadB 8 rfl rfl rfl | exact q_loadB 9 rfl rfl rfl | exact q_loadB 10 rfl rfl rfl | exact q_loadB 11 rfl rfl rfl | exact q_call (fun w hm => (eqCoupled_c (stiM st0 tot0 xss0 st1 tot1 xss1).st (stiM st0 tot0 xss0 st1 tot1 xss1).tot (stiM st0 tot0 xss0 st1 tot1 xss1).st (stiM st0 tot0 xss0 st1 tot1 xss1).tot _ _ _ _ _ _ w (hm.rdS 10 rfl hl118 _) (hm.rdS 2 rfl hl22 _)).tt ⟨rfl, rfl, rfl⟩) rfl | exact q_call (fun w hm => heldCoupled_c (stiM st0 tot0 xss0 st1 tot1 xss1).st (stiM st0 tot0 xss0 st1 tot1 xss1).tot u74 (stiM st0 tot0 xss0 st1 tot1 xss1).xss _ 1 (by omega) (by omega) hsmM w (hm.rdS 8 rfl hm100 _)) rfl)) | (apply hq_q; decide; (first | exact q_loadB 4 rfl rfl rfl | exact q_loadB 5 rfl rfl rfl | exact q_loadB 6 rfl rfl rfl | exact q_loadB 7 rfl rfl rfl | exact q_loadB 8 rfl rfl rfl | exact q_loadB 9 rfl rfl rfl | exact q_loadB 10 rfl rfl rfl | exact q_loadB 11 rfl rfl rfl | exact q_call (fun w hm => (eqCoupled_c (stiM st0 tot0 xss0 st1 tot1 xss1).st (stiM st0 tot0 xss0 st1 tot1 xss1).tot (stiM st0 tot0 xss0 st1 tot1 xss1).st (stiM st0 tot0 xss0 st1 tot1 xss1).tot _ _ _ _ _ _ w (hm.rdS 10 rfl hl118 _) (hm.rdS 2 rfl hl22 _)).tt ⟨rfl, rfl, rfl⟩) rfl | exact q_call (fun w hm => heldCoupled_c (stiM st0 tot0 xss0 st1 tot1 xss1).st (stiM st0 tot0 xss0 st1 tot1 xss1).tot u74 (stiM st0 tot0 xss0 st1 tot1 xss1).xss _ 1 (by omega) (by omega) hsmM w (hm.rdS 8 rfl hm100 _)) rfl)) | (apply hq_g; rfl; rfl; decide; (first | exact q_loadB 4 rfl rfl rfl | exact q_loadB 5 rfl rfl rfl | exact q_loadB 6 rfl rfl rfl | exact q_loadB 7 rfl rfl rfl | exact q_loadB 8 rfl rfl rfl | exact q_loadB 9 rfl rfl rfl | exact q_loadB 10 rfl rfl rfl | exact q_loadB 11 rfl rfl rfl | exact q_call (fun w hm => (eqCoupled_c (stiM st0 tot0 xss0 st1 tot1 xss1).st (stiM st0 tot0 xss0 st1 tot1 xss1).tot (stiM st0 tot0 xss0 st1 tot1 xss1).st (stiM st0 tot0 xss0 st1 tot1 xss1).tot _ _ _ _ _ _ w (hm.rdS 10 rfl hl118 _) (hm.rdS 2 rfl hl22 _)).tt ⟨rfl, rfl, rfl⟩) rfl | exact q_call (fun w hm => heldCoupled_c (stiM st0 tot0 xss0 st1 tot1 xss1).st (stiM st0 tot0 xss0 st1 tot1 xss1).tot u74 (stiM st0 tot0 xss0 st1 tot1 xss1).xss _ 1 (by omega) (by omega) hsmM w (hm.rdS 8 rfl hm100 _)) rfl)) | (apply hl_g; rfl; rfl; decide; (first | exact q_loadB 4 rfl rfl rfl | exact q_loadB 5 rfl rfl rfl | exact q_loadB 6 rfl rfl rfl | exact q_loadB 7 rfl rfl rfl | exact q_loadB 8 rfl rfl rfl | exact q_loadB 9 rfl rfl rfl | exact q_loadB 10 rfl rfl rfl | exact q_loadB 11 rfl rfl rfl | exact q_call (fun w hm => (eqCoupled_c (stiM st0 tot0 xss0 st1 tot1 xss1).st (stiM st0 tot0 xss0 st1 tot1 xss1).tot (stiM st0 tot0 xss0 st1 tot1 xss1).st (stiM st0 tot0 xss0 st1 tot1 xss1).tot _ _ _ _ _ _ w (hm.rdS 10 rfl hl118 _) (hm.rdS 2 rfl hl22 _)).tt ⟨rfl, rfl, rfl⟩) rfl | exact q_call (fun w hm => heldCoupled_c (stiM st0 tot0 xss0 st1 tot1 xss1).st (stiM st0 tot0 xss0 st1 tot1 xss1).tot u74 (stiM st0 tot0 xss0 st1 tot1 xss1).xss _ 1 (by omega) (by omega) hsmM w (hm.rdS 8 rfl hm100 _)) rfl)))
  exact hx_ret1 rfl rfl (fun w hm => ⟨rfl, hm.none⟩)

set_option maxRecDepth 100000 in
theorem lifted (os : Os) (started : os.Started) (H : Type) (enc : TypeId × Value → H) : ReturnsInHanded {} Try.checked os 11 .any (Rows.fnExactStickyCoupledSpec.pre6 enc Try.prog Try.f11 Rows.fnExactStickyCoupledRow.domain false) (Rows.fnExactStickyCoupledSpec.post enc Try.prog Try.f11 false true false false) := by
  refine returnsInHanded_of_change (C := Try.checked) own started (by kernel_rfl) Try.func11 (ChangeSpec.witness6 (enc := enc) (C := Try.checked) false ⟨#[], #[.agg #[.int .i64 0, .int .i64 0, .slice none 0 0], .agg #[.int .i64 0, .int .i64 0, .slice none 0 0]], []⟩ 8 (by kernel_rfl) (by kernel_rfl) (by kernel_rfl) (by kernel_rfl)) ?_
  intro W base args ds gs before hval0 hW hcnd _
  have hval : ∀ (j : Nat) t v, Try.f11.params[j]? = some t → args[j]? = some v → Value.okWide Try.prog W .any base t v := hval0
  have hW' := hW
  obtain ⟨p, q, hA0, hV, rfl, hfz, hnd⟩ := hW
  have hA : DataW.TrodAll enc Try.prog W 0 (fun _ => true) true Try.f11.params.toList args.toList ds p := hA0
  rw [Try.params11] at hA hval
  obtain ⟨v0, vs0, d0, ds0, p0, q0, hargs, rfl, rfl, h0, r0⟩ := trodAll_cons hA
  obtain ⟨v1, vs1, d1, ds1, p1, q1, rfl, rfl, rfl, h1, r1⟩ := trodAll_cons r0
  obtain ⟨rfl, rfl, rfl⟩ := trodAll_nil r1
  obtain rfl : args = #[v0, v1] := by cases args; simp_all
  obtain ⟨st0, tot0, u0, xss0, row0, rfl, hst0, htot0, hr0, _⟩ := rd_chain Try.underlying26 (by kernel_rfl) (by kernel_rfl) Try.underlying2 Try.underlying2 Try.underlying24 (by kernel_rfl) Try.underlying82 (by kernel_rfl) Try.underlying2 (hval 0 26 v0 rfl rfl) h0
  obtain ⟨st1, tot1, u1, xss1, row1, rfl, hst1, htot1, hr1, _⟩ := rd_chain Try.underlying66 (by kernel_rfl) (by kernel_rfl) Try.underlying2 Try.underlying2 Try.underlying24 (by kernel_rfl) Try.underlying82 (by kernel_rfl) Try.underlying2 (hval 1 66 v1 rfl rfl) h1
  refine (walk st0 tot0 u0 xss0 row0 st1 tot1 u1 xss1 row1 W hr0 hr1).mono fun e W' ⟨he, hm⟩ => ⟨_, he, ?_⟩
  exact law_post laid (by rw [Try.params11]; intro t ht; simp at ht; rcases ht with rfl | rfl <;> exact ⟨by kernel_rfl, by decide +kernel⟩) hW' rfl rfl Try.underlying4 rfl hm.below

theorem over : Rows.fnExactStickyCoupledRow.holds Try.pinned (OpenSpec.ofChange Rows.fnExactStickyCoupledSpec) := OpenClaim.holds_of_wide 11 Try.f11 rfl rfl rfl rfl rfl rfl rfl ⟨rfl, rfl, rfl, rfl, rfl⟩ rfl rfl rfl rfl rfl (by kernel_rfl) Try.func11 (by kernel_rfl) (of_decide_eq_true (by kernel_rfl)) (by unfold Func.isWrapper; first | (rw [if_pos (by decide +kernel)]; kernel_rfl) | (rw [if_neg (by decide +kernel)]; exact ⟨rfl, rfl⟩)) (fun os started H enc _ => lifted os started H enc)

theorem proved : Rows.FnExactStickyCoupledSaid := over
#print axioms proved
end Go.Proofs.Ytgeidbjcphjbiaa.stickyCoupled
