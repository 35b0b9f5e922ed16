/- FnExactThenMaps: the program's ThenMaps answers as the reference's does, for all arguments; it leaves its arguments as they were; what it hands back lies in memory of its own. No condition. -/
import Derived.Test.YteddlbgbakbpeaaF35
import Derived.Test.YteddlbgbakbpeaaOpenM
namespace Go.Proofs.Yteddlbgbakbpeaa.thenMaps
open Go.Eng Go.RowKit Go.ChangeShapes Go.WideShapes Go.ChangeAt
set_option linter.unusedVariables false

theorem own : ownKnob Try.prog.godebug = none := by kernel_rfl
theorem laid : laidOutB Try.prog = true := by kernel_rfl

set_option maxHeartbeats 4000000 in
theorem walk (st0 tot0 : Int) (v0 : Value) (ks0 : List Int) (xss0 : List (List Int)) (row0 : Nat → Value) (st1 tot1 : Int) (v1 : Value) (ks1 : List Int) (xss1 : List (List Int)) (row1 : Nat → Value) (w : World) (hr0 : RdM w v0 ks0 xss0 row0) (hr1 : RdM w v1 ks1 xss1 row1) :
    Ret Try.prog 4 [chV st0 tot0 v0, chV st1 tot1 v1] w (.bool true) := by
  refine calls_hw Try.func4 Try.ntmps4 rfl rfl ?_
  have ne1 : ¬ ((thM st0 tot0 ks0 xss0 st1 tot1 ks1 xss1).code ≠ (thM st0 tot0 ks0 xss0 st1 tot1 ks1 xss1).code) := fun h => h rfl
  have hsmM : Small (thM st0 tot0 ks0 xss0 st1 tot1 ks1 xss1).xss := thM_small _ _ _ _ _ _ _ _
  have hlenM := markLen_small hsmM
  repeat' (first | refine hl_a ?_ | refine hq_a ?_ | refine hl_nil ?_ | refine hq_nil ?_ | refine hq_ga ?_ | refine hq_sk ?_ | refine hq_su ?_ | refine hq_gT ?_ | refine hq_gF ?_ | refine hq_gd (fun h => ?_) (fun h => ?_) | refine hl_ga ?_ | refine hl_sk ?_ | refine hl_su ?_ | refine hl_gT ?_ | refine hl_gF ?_ | refine hl_gd (fun h => ?_) (fun h => ?_) | refine hx_next ?_ | refine hw_seq ?_ | refine hw_region ?_ | refine hw_dr ?_ | refine hw_block ?_ | refine hx_block ?_ | refine hw_tt ?_ | refine hw_ff ?_ | refine hw_iT ?_ | refine hw_iF ?_ | refine hw_skip ?_ | refine hw_ret ?_ | refine hw_exit ?_ | refine hx_then_ret ?_ | refine hx_block_ret ?_ | refine hx_then_exit ?_ | refine hx_block_here ?_ | refine hx_far ?_ | refine hx_any ?_ | (apply ha_end; decide +kernel))
  refine hl_box (by decide) rfl (fun b2 => ?_)
  repeat' (first | refine hl_a ?_ | refine hq_a ?_ | refine hl_nil ?_ | refine hq_nil ?_ | refine hq_ga ?_ | refine hq_sk ?_ | refine hq_su ?_ | refine hq_gT ?_ | refine hq_gF ?_ | refine hq_gd (fun h => ?_) (fun h => ?_) | refine hl_ga ?_ | refine hl_sk ?_ | refine hl_su ?_ | refine hl_gT ?_ | refine hl_gF ?_ | refine hl_gd (fun h => ?_) (fun h => ?_) | refine hx_next ?_ | refine hw_seq ?_ | refine hw_region ?_ | refine hw_dr ?_ | refine hw_block ?_ | refine hx_block ?_ | refine hw_tt ?_ | refine hw_ff ?_ | refine hw_iT ?_ | refine hw_iF ?_ | refine hw_skip ?_ | refine hw_ret ?_ | refine hw_exit ?_ | refine hx_then_ret ?_ | refine hx_block_ret ?_ | refine hx_then_exit ?_ | refine hx_block_here ?_ | refine hx_far ?_ | refine hx_any ?_ | (apply ha_end; decide +kernel))
  refine hl_box (by decide) rfl (fun b3 => ?_)
  repeat' (first | refine hl_a ?_ | refine hq_a ?_ | refine hl_nil ?_ | refine hq_nil ?_ | refine hq_ga ?_ | refine hq_sk ?_ | refine hq_su ?_ | refine hq_gT ?_ | refine hq_gF ?_ | refine hq_gd (fun h => ?_) (fun h => ?_) | refine hl_ga ?_ | refine hl_sk ?_ | refine hl_su ?_ | refine hl_gT ?_ | refine hl_gF ?_ | refine hl_gd (fun h => ?_) (fun h => ?_) | refine hx_next ?_ | refine hw_seq ?_ | refine hw_region ?_ | refine hw_dr ?_ | refine hw_block ?_ | refine hx_block ?_ | refine hw_tt ?_ | refine hw_ff ?_ | refine hw_iT ?_ | refine hw_iF ?_ | refine hw_skip ?_ | refine hw_ret ?_ | refine hw_exit ?_ | refine hx_then_ret ?_ | refine hx_block_ret ?_ | refine hx_then_exit ?_ | refine hx_block_here ?_ | refine hx_far ?_ | refine hx_any ?_ | (apply ha_end; decide +kernel))
  refine hl_call (by decide) (fun w hm => szMaps_c st0 tot0 1048576 (by decide) (by decide) v0 ks0 xss0 _ w (hr0.up hm.below)) rfl ?_
  rintro _ _ ⟨rfl, r4, rfl, hszr4⟩
  repeat' (first | refine hl_a ?_ | refine hq_a ?_ | refine hl_nil ?_ | refine hq_nil ?_ | refine hq_ga ?_ | refine hq_sk ?_ | refine hq_su ?_ | refine hq_gT ?_ | refine hq_gF ?_ | refine hq_gd (fun h => ?_) (fun h => ?_) | refine hl_ga ?_ | refine hl_sk ?_ | refine hl_su ?_ | refine hl_gT ?_ | refine hl_gF ?_ | refine hl_gd (fun h => ?_) (fun h => ?_) | refine hx_next ?_ | refine hw_seq ?_ | refine hw_region ?_ | refine hw_dr ?_ | refine hw_block ?_ | refine hx_block ?_ | refine hw_tt ?_ | refine hw_ff ?_ | refine hw_iT ?_ | refine hw_iF ?_ | refine hw_skip ?_ | refine hw_ret ?_ | refine hw_exit ?_ | refine hx_then_ret ?_ | refine hx_block_ret ?_ | refine hx_then_exit ?_ | refine hx_block_here ?_ | refine hx_far ?_ | refine hx_any ?_ | (apply ha_end; decide +kernel))
  refine hw_if rfl (fun h => ?_) (fun h => ?_)
  · repeat' (first | refine hl_a ?_ | refine hq_a ?_ | refine hl_nil ?_ | refine hq_nil ?_ | refine hq_ga ?_ | refine hq_sk ?_ | refine hq_su ?_ | refine hq_gT ?_ | refine hq_gF ?_ | refine hq_gd (fun h => ?_) (fun h => ?_) | refine hl_ga ?_ | refine hl_sk ?_ | refine hl_su ?_ | refine hl_gT ?_ | refine hl_gF ?_ | refine hl_gd (fun h => ?_) (fun h => ?_) | refine hx_next ?_ | refine hw_seq ?_ | refine hw_region ?_ | refine hw_dr ?_ | refine hw_block ?_ | refine hx_block ?_ | refine hw_tt ?_ | refine hw_ff ?_ | refine hw_iT ?_ | refine hw_iF ?_ | refine hw_skip ?_ | refine hw_ret ?_ | refine hw_exit ?_ | refine hx_then_ret ?_ | refine hx_block_ret ?_ | refine hx_then_exit ?_ | refine hx_block_here ?_ | refine hx_far ?_ | refine hx_any ?_ | (apply ha_end; decide +kernel))
    exact hx_ret1 rfl rfl (fun w hm => ⟨rfl, hm.none⟩)
  obtain ⟨har4, hbr4, hsmr4⟩ := hszr4.resolve_left (by omega)
  have hlenr4 := markLen_small hsmr4
  repeat' (first | refine hl_a ?_ | refine hq_a ?_ | refine hl_nil ?_ | refine hq_nil ?_ | refine hq_ga ?_ | refine hq_sk ?_ | refine hq_su ?_ | refine hq_gT ?_ | refine hq_gF ?_ | refine hq_gd (fun h => ?_) (fun h => ?_) | refine hl_ga ?_ | refine hl_sk ?_ | refine hl_su ?_ | refine hl_gT ?_ | refine hl_gF ?_ | refine hl_gd (fun h => ?_) (fun h => ?_) | refine hx_next ?_ | refine hw_seq ?_ | refine hw_region ?_ | refine hw_dr ?_ | refine hw_block ?_ | refine hx_block ?_ | refine hw_tt ?_ | refine hw_ff ?_ | refine hw_iT ?_ | refine hw_iF ?_ | refine hw_skip ?_ | refine hw_ret ?_ | refine hw_exit ?_ | refine hx_then_ret ?_ | refine hx_block_ret ?_ | refine hx_then_exit ?_ | refine hx_block_here ?_ | refine hx_far ?_ | refine hx_any ?_ | (apply ha_end; decide +kernel))
  refine hl_call (by decide) (fun w hm => szMaps_c st1 tot1 r4 har4 hbr4 v1 ks1 xss1 _ w (hr1.up hm.below)) rfl ?_
  rintro _ _ ⟨rfl, r5, rfl, hszr5⟩
  repeat' (first | refine hl_a ?_ | refine hq_a ?_ | refine hl_nil ?_ | refine hq_nil ?_ | refine hq_ga ?_ | refine hq_sk ?_ | refine hq_su ?_ | refine hq_gT ?_ | refine hq_gF ?_ | refine hq_gd (fun h => ?_) (fun h => ?_) | refine hl_ga ?_ | refine hl_sk ?_ | refine hl_su ?_ | refine hl_gT ?_ | refine hl_gF ?_ | refine hl_gd (fun h => ?_) (fun h => ?_) | refine hx_next ?_ | refine hw_seq ?_ | refine hw_region ?_ | refine hw_dr ?_ | refine hw_block ?_ | refine hx_block ?_ | refine hw_tt ?_ | refine hw_ff ?_ | refine hw_iT ?_ | refine hw_iF ?_ | refine hw_skip ?_ | refine hw_ret ?_ | refine hw_exit ?_ | refine hx_then_ret ?_ | refine hx_block_ret ?_ | refine hx_then_exit ?_ | refine hx_block_here ?_ | refine hx_far ?_ | refine hx_any ?_ | (apply ha_end; decide +kernel))
  refine hw_if rfl (fun h => ?_) (fun h => ?_)
  · repeat' (first | refine hl_a ?_ | refine hq_a ?_ | refine hl_nil ?_ | refine hq_nil ?_ | refine hq_ga ?_ | refine hq_sk ?_ | refine hq_su ?_ | refine hq_gT ?_ | refine hq_gF ?_ | refine hq_gd (fun h => ?_) (fun h => ?_) | refine hl_ga ?_ | refine hl_sk ?_ | refine hl_su ?_ | refine hl_gT ?_ | refine hl_gF ?_ | refine hl_gd (fun h => ?_) (fun h => ?_) | refine hx_next ?_ | refine hw_seq ?_ | refine hw_region ?_ | refine hw_dr ?_ | refine hw_block ?_ | refine hx_block ?_ | refine hw_tt ?_ | refine hw_ff ?_ | refine hw_iT ?_ | refine hw_iF ?_ | refine hw_skip ?_ | refine hw_ret ?_ | refine hw_exit ?_ | refine hx_then_ret ?_ | refine hx_block_ret ?_ | refine hx_then_exit ?_ | refine hx_block_here ?_ | refine hx_far ?_ | refine hx_any ?_ | (apply ha_end; decide +kernel))
    exact hx_ret1 rfl rfl (fun w hm => ⟨rfl, hm.none⟩)
  obtain ⟨har5, hbr5, hsmr5⟩ := hszr5.resolve_left (by omega)
  have hlenr5 := markLen_small hsmr5
  repeat' (first | refine hl_a ?_ | refine hq_a ?_ | refine hl_nil ?_ | refine hq_nil ?_ | refine hq_ga ?_ | refine hq_sk ?_ | refine hq_su ?_ | refine hq_gT ?_ | refine hq_gF ?_ | refine hq_gd (fun h => ?_) (fun h => ?_) | refine hl_ga ?_ | refine hl_sk ?_ | refine hl_su ?_ | refine hl_gT ?_ | refine hl_gF ?_ | refine hl_gd (fun h => ?_) (fun h => ?_) | refine hx_next ?_ | refine hw_seq ?_ | refine hw_region ?_ | refine hw_block ?_ | refine hx_block ?_ | refine hw_tt ?_ | refine hw_ff ?_ | refine hw_iT ?_ | refine hw_iF ?_ | refine hw_skip ?_ | refine hw_ret ?_ | refine hw_exit ?_ | refine hx_then_ret ?_ | refine hx_block_ret ?_ | refine hx_then_exit ?_ | refine hx_block_here ?_ | refine hx_far ?_ | refine hx_any ?_ | (apply ha_end; decide +kernel))
  refine hw_heldE (σ := Nat × Value × List Value) [rBlk b2 (chV st0 tot0 v0).cells 24, rBlk b3 (chV st1 tot1 v1).cells 24] (fun s => [(2, .pointer (some ⟨b2, 0, none⟩)), (3, .pointer (some ⟨b3, 0, none⟩)), (6, .pointer (some ⟨s.1, 0, none⟩)), (7, .int .i64 ((thM st0 tot0 ks0 xss0 st1 tot1 ks1 xss1).code))]) (fun s => [rBlk b2 (chV st0 tot0 v0).cells 24, rBlk b3 (chV st1 tot1 v1).cells 24, rMaps 92 2 s.2.1 s.2.2 (thM st0 tot0 ks0 xss0 st1 tot1 ks1 xss1).ks (thM st0 tot0 ks0 xss0 st1 tot1 ks1 xss1).xss, rBlk s.1 #[.int .i64 (thM st0 tot0 ks0 xss0 st1 tot1 ks1 xss1).st, .int .i64 (thM st0 tot0 ks0 xss0 st1 tot1 ks1 xss1).tot, s.2.1] 33]) (fun s => s.2.2.length = (thM st0 tot0 ks0 xss0 st1 tot1 ks1 xss1).xss.length ∧ SlOk s.2.1 (thM st0 tot0 ks0 xss0 st1 tot1 ks1 xss1).xss.length) (by kernel_rfl) ?_ ?_
  · skip
    refine hb_take 0 rfl (by decide) (by decide +kernel) (by decide +kernel) (by decide +kernel) (fun _ _ _ h => h) (fun w hm => Mem.keep _ hm) (qv_q rfl (q_loadB 0 rfl rfl rfl)) ?_
    refine hb_take 2 rfl (by decide) (by decide +kernel) (by decide +kernel) (by decide +kernel) (fun _ _ _ h => h) (fun w hm => Mem.keep _ hm) (qv_q rfl (q_loadB 1 rfl rfl rfl)) ?_
    refine hb_2 1 8 (by decide +kernel) rfl rfl ?_ ?_
    · skip
      refine hl_call (by decide) (fun w hm => toMaps_c st0 tot0 v0 ks0 xss0 _ w (hr0.up hm.below) hsmr4) rfl ?_
      rintro _ _ ⟨u24, vs25, rfl, rfl, hl26, hu27⟩
      refine hl_nil ?_
      refine hx_hb (fun w hm => Mem.keep _ hm) ?_
      refine hb_2 3 8 (by decide +kernel) rfl rfl ?_ ?_
      · skip
        refine hl_call (by decide) (fun w hm => toMaps_c st1 tot1 v1 ks1 xss1 _ w (hr1.up hm.below) hsmr5) rfl ?_
        rintro _ _ ⟨u28, vs29, rfl, rfl, hl30, hu31⟩
        refine hl_nil ?_
        refine hx_hb (fun w hm => Mem.keep _ hm) ?_
        refine hb_2 4 8 (by decide +kernel) rfl rfl ?_ ?_
        · skip
          refine hl_call (by decide) (fun w hm => specThenMaps_c st0 tot0 u24 ks0 xss0 _ st1 tot1 u28 ks1 xss1 _ w (hm.rdM 2 rfl hl26 hr0.len) (hm.rdM 3 rfl hl30 hr1.len)) rfl ?_
          rintro _ _ ⟨u32, vs33, rfl, rfl, hl34, hu35⟩
          refine hl_nil ?_
          refine hx_hb (fun w hm => Mem.keep _ hm) ?_
          refine hb_take 5 rfl (by decide) (by decide +kernel) (by decide +kernel) (by decide +kernel) (fun _ _ _ h => h) (fun w hm => Mem.keep _ hm) (qv_q rfl (q_move rfl)) ?_
          refine hb_take 6 rfl (by decide) (by decide +kernel) (by decide +kernel) (by decide +kernel) (fun _ _ _ h => h) (fun w hm => Mem.keep _ hm) (qv_q rfl (q_ext rfl rfl)) ?_
          refine hb_take 7 rfl (by decide) (by decide +kernel) (by decide +kernel) (by decide +kernel) (fun _ _ _ h => h) (fun w hm => Mem.keep _ hm) (qv_q rfl (q_ext rfl rfl)) ?_
          refine hb_1 8 (by decide +kernel) rfl ?_
          refine hl_alloc (by decide) (fun b36 => ?_)
          refine hl_nil ?_
          refine hx_hb (fun w hm => Mem.keep _ hm) ?_
          refine hb_1 9 (by decide +kernel) rfl ?_
          refine hl_storeA 5 rfl rfl rfl rfl rfl (chV_one hu35) ?_
          refine hl_nil ?_
          refine hx_hb (fun w hm => Mem.keep _ hm) ?_
          refine hb_take 10 rfl (by decide) (by decide +kernel) (by decide +kernel) (by decide +kernel) (fun _ _ _ h => h) (fun w hm => Mem.keep _ hm) (qv_q rfl (q_assign rfl)) ?_
          refine hb_end (by decide +kernel) ?_
          exact hx_joinE (b36, u32, vs33) ⟨hl34, hu35⟩ (by simp [Env.le, Env.at, envOf]) (fun w hm => hm.pick [0, 1, 4, 5] (by decide) rfl)
        · skip
          refine hl_alloc (by decide) (fun b37 => ?_)
          refine hl_nil ?_
          refine hx_hb (fun w hm => Mem.keep _ hm) ?_
          refine hb_1 4 (by decide +kernel) rfl ?_
          refine hl_call (by decide) (fun w hm => specThenMaps_c st0 tot0 u24 ks0 xss0 _ st1 tot1 u28 ks1 xss1 _ w (hm.rdM 2 rfl hl26 hr0.len) (hm.rdM 3 rfl hl30 hr1.len)) rfl ?_
          rintro _ _ ⟨u38, vs39, rfl, rfl, hl40, hu41⟩
          refine hl_nil ?_
          refine hx_hb (fun w hm => Mem.keep _ hm) ?_
          refine hb_take 5 rfl (by decide) (by decide +kernel) (by decide +kernel) (by decide +kernel) (fun _ _ _ h => h) (fun w hm => Mem.keep _ hm) (qv_q rfl (q_move rfl)) ?_
          refine hb_take 6 rfl (by decide) (by decide +kernel) (by decide +kernel) (by decide +kernel) (fun _ _ _ h => h) (fun w hm => Mem.keep _ hm) (qv_q rfl (q_ext rfl rfl)) ?_
          refine hb_take 7 rfl (by decide) (by decide +kernel) (by decide +kernel) (by decide +kernel) (fun _ _ _ h => h) (fun w hm => Mem.keep _ hm) (qv_q rfl (q_ext rfl rfl)) ?_
          refine hb_1 9 (by decide +kernel) rfl ?_
          refine hl_storeA 4 rfl rfl rfl rfl rfl (chV_one hu41) ?_
          refine hl_nil ?_
          refine hx_hb (fun w hm => Mem.keep _ hm) ?_
          refine hb_take 10 rfl (by decide) (by decide +kernel) (by decide +kernel) (by decide +kernel) (fun _ _ _ h => h) (fun w hm => Mem.keep _ hm) (qv_q rfl (q_assign rfl)) ?_
          refine hb_end (by decide +kernel) ?_
          exact hx_joinE (b37, u38, vs39) ⟨hl40, hu41⟩ (by simp [Env.le, Env.at, envOf]) (fun w hm => hm.pick [0, 1, 5, 4] (by decide) rfl)
      · skip
        refine hl_alloc (by decide) (fun b42 => ?_)
        refine hl_nil ?_
        refine hx_hb (fun w hm => Mem.keep _ hm) ?_
        refine hb_1 3 (by decide +kernel) rfl ?_
        refine hl_call (by decide) (fun w hm => toMaps_c st1 tot1 v1 ks1 xss1 _ w (hr1.up hm.below) hsmr5) rfl ?_
        rintro _ _ ⟨u43, vs44, rfl, rfl, hl45, hu46⟩
        refine hl_nil ?_
        refine hx_hb (fun w hm => Mem.keep _ hm) ?_
        refine hb_1 4 (by decide +kernel) rfl ?_
        refine hl_call (by decide) (fun w hm => specThenMaps_c st0 tot0 u24 ks0 xss0 _ st1 tot1 u43 ks1 xss1 _ w (hm.rdM 2 rfl hl26 hr0.len) (hm.rdM 4 rfl hl45 hr1.len)) rfl ?_
        rintro _ _ ⟨u47, vs48, rfl, rfl, hl49, hu50⟩
        refine hl_nil ?_
        refine hx_hb (fun w hm => Mem.keep _ hm) ?_
        refine hb_take 5 rfl (by decide) (by decide +kernel) (by decide +kernel) (by decide +kernel) (fun _ _ _ h => h) (fun w hm => Mem.keep _ hm) (qv_q rfl (q_move rfl)) ?_
        refine hb_take 6 rfl (by decide) (by decide +kernel) (by decide +kernel) (by decide +kernel) (fun _ _ _ h => h) (fun w hm => Mem.keep _ hm) (qv_q rfl (q_ext rfl rfl)) ?_
        refine hb_take 7 rfl (by decide) (by decide +kernel) (by decide +kernel) (by decide +kernel) (fun _ _ _ h => h) (fun w hm => Mem.keep _ hm) (qv_q rfl (q_ext rfl rfl)) ?_
        refine hb_1 9 (by decide +kernel) rfl ?_
        refine hl_storeA 3 rfl rfl rfl rfl rfl (chV_one hu50) ?_
        refine hl_nil ?_
        refine hx_hb (fun w hm => Mem.keep _ hm) ?_
        refine hb_take 10 rfl (by decide) (by decide +kernel) (by decide +kernel) (by decide +kernel) (fun _ _ _ h => h) (fun w hm => Mem.keep _ hm) (qv_q rfl (q_assign rfl)) ?_
        refine hb_end (by decide +kernel) ?_
        exact hx_joinE (b42, u47, vs48) ⟨hl49, hu50⟩ (by simp [Env.le, Env.at, envOf]) (fun w hm => hm.pick [0, 1, 5, 3] (by decide) rfl)
    · skip
      refine hl_alloc (by decide) (fun b51 => ?_)
      refine hl_nil ?_
      refine hx_hb (fun w hm => Mem.keep _ hm) ?_
      refine hb_1 1 (by decide +kernel) rfl ?_
      refine hl_call (by decide) (fun w hm => toMaps_c st0 tot0 v0 ks0 xss0 _ w (hr0.up hm.below) hsmr4) rfl ?_
      rintro _ _ ⟨u52, vs53, rfl, rfl, hl54, hu55⟩
      refine hl_nil ?_
      refine hx_hb (fun w hm => Mem.keep _ hm) ?_
      refine hb_1 3 (by decide +kernel) rfl ?_
      refine hl_call (by decide) (fun w hm => toMaps_c st1 tot1 v1 ks1 xss1 _ w (hr1.up hm.below) hsmr5) rfl ?_
      rintro _ _ ⟨u56, vs57, rfl, rfl, hl58, hu59⟩
      refine hl_nil ?_
      refine hx_hb (fun w hm => Mem.keep _ hm) ?_
      refine hb_1 4 (by decide +kernel) rfl ?_
      refine hl_call (by decide) (fun w hm => specThenMaps_c st0 tot0 u52 ks0 xss0 _ st1 tot1 u56 ks1 xss1 _ w (hm.rdM 3 rfl hl54 hr0.len) (hm.rdM 4 rfl hl58 hr1.len)) rfl ?_
      rintro _ _ ⟨u60, vs61, rfl, rfl, hl62, hu63⟩
      refine hl_nil ?_
      refine hx_hb (fun w hm => Mem.keep _ hm) ?_
      refine hb_take 5 rfl (by decide) (by decide +kernel) (by decide +kernel) (by decide +kernel) (fun _ _ _ h => h) (fun w hm => Mem.keep _ hm) (qv_q rfl (q_move rfl)) ?_
      refine hb_take 6 rfl (by decide) (by decide +kernel) (by decide +kernel) (by decide +kernel) (fun _ _ _ h => h) (fun w hm => Mem.keep _ hm) (qv_q rfl (q_ext rfl rfl)) ?_
      refine hb_take 7 rfl (by decide) (by decide +kernel) (by decide +kernel) (by decide +kernel) (fun _ _ _ h => h) (fun w hm => Mem.keep _ hm) (qv_q rfl (q_ext rfl rfl)) ?_
      refine hb_1 9 (by decide +kernel) rfl ?_
      refine hl_storeA 2 rfl rfl rfl rfl rfl (chV_one hu63) ?_
      refine hl_nil ?_
      refine hx_hb (fun w hm => Mem.keep _ hm) ?_
      refine hb_take 10 rfl (by decide) (by decide +kernel) (by decide +kernel) (by decide +kernel) (fun _ _ _ h => h) (fun w hm => Mem.keep _ hm) (qv_q rfl (q_assign rfl)) ?_
      refine hb_end (by decide +kernel) ?_
      exact hx_joinE (b51, u60, vs61) ⟨hl62, hu63⟩ (by simp [Env.le, Env.at, envOf]) (fun w hm => hm.pick [0, 1, 5, 2] (by decide) rfl)
  rintro ⟨b19, u20, vs21⟩ ⟨hl22, hu23⟩
  dsimp only at hl22 hu23 ⊢
  repeat' (first | refine hl_a ?_ | refine hq_a ?_ | refine hl_nil ?_ | refine hq_nil ?_ | refine hq_ga ?_ | refine hq_sk ?_ | refine hq_su ?_ | refine hq_gT ?_ | refine hq_gF ?_ | refine hq_gd (fun h => ?_) (fun h => ?_) | refine hl_ga ?_ | refine hl_sk ?_ | refine hl_su ?_ | refine hl_gT ?_ | refine hl_gF ?_ | refine hl_gd (fun h => ?_) (fun h => ?_) | refine hx_next ?_ | refine hw_seq ?_ | refine hw_region ?_ | refine hw_dr ?_ | refine hw_block ?_ | refine hx_block ?_ | refine hw_tt ?_ | refine hw_ff ?_ | refine hw_iT ?_ | refine hw_iF ?_ | refine hw_skip ?_ | refine hw_ret ?_ | refine hw_exit ?_ | refine hx_then_ret ?_ | refine hx_block_ret ?_ | refine hx_then_exit ?_ | refine hx_block_here ?_ | refine hx_far ?_ | refine hx_any ?_ | (apply ha_end; decide +kernel))
  refine hl_call (by decide) (fun w hm => toMaps_c st0 tot0 v0 ks0 xss0 _ w (hr0.up hm.below) hsmr4) rfl ?_
  rintro _ _ ⟨u64, vs65, rfl, rfl, hl66, hu67⟩
  repeat' (first | refine hl_a ?_ | refine hq_a ?_ | refine hl_nil ?_ | refine hq_nil ?_ | refine hq_ga ?_ | refine hq_sk ?_ | refine hq_su ?_ | refine hq_gT ?_ | refine hq_gF ?_ | refine hq_gd (fun h => ?_) (fun h => ?_) | refine hl_ga ?_ | refine hl_sk ?_ | refine hl_su ?_ | refine hl_gT ?_ | refine hl_gF ?_ | refine hl_gd (fun h => ?_) (fun h => ?_) | refine hx_next ?_ | refine hw_seq ?_ | refine hw_region ?_ | refine hw_dr ?_ | refine hw_block ?_ | refine hx_block ?_ | refine hw_tt ?_ | refine hw_ff ?_ | refine hw_iT ?_ | refine hw_iF ?_ | refine hw_skip ?_ | refine hw_ret ?_ | refine hw_exit ?_ | refine hx_then_ret ?_ | refine hx_block_ret ?_ | refine hx_then_exit ?_ | refine hx_block_here ?_ | refine hx_far ?_ | refine hx_any ?_ | (apply ha_end; decide +kernel) | (apply hl_q; decide; (first | exact q_loadB 4 rfl rfl rfl)) | (apply hq_q; decide; (first | exact q_loadB 4 rfl rfl rfl)) | (apply hq_g; rfl; rfl; decide; (first | exact q_loadB 4 rfl rfl rfl)) | (apply hl_g; rfl; rfl; decide; (first | exact q_loadB 4 rfl rfl rfl)))
  refine hl_alloc (by decide) (fun b68 => ?_)
  repeat' (first | refine hl_a ?_ | refine hq_a ?_ | refine hl_nil ?_ | refine hq_nil ?_ | refine hq_ga ?_ | refine hq_sk ?_ | refine hq_su ?_ | refine hq_gT ?_ | refine hq_gF ?_ | refine hq_gd (fun h => ?_) (fun h => ?_) | refine hl_ga ?_ | refine hl_sk ?_ | refine hl_su ?_ | refine hl_gT ?_ | refine hl_gF ?_ | refine hl_gd (fun h => ?_) (fun h => ?_) | refine hx_next ?_ | refine hw_seq ?_ | refine hw_region ?_ | refine hw_dr ?_ | refine hw_block ?_ | refine hx_block ?_ | refine hw_tt ?_ | refine hw_ff ?_ | refine hw_iT ?_ | refine hw_iF ?_ | refine hw_skip ?_ | refine hw_ret ?_ | refine hw_exit ?_ | refine hx_then_ret ?_ | refine hx_block_ret ?_ | refine hx_then_exit ?_ | refine hx_block_here ?_ | refine hx_far ?_ | refine hx_any ?_ | (apply ha_end; decide +kernel) | (apply hl_q; decide; (first | exact q_loadB 4 rfl rfl rfl | exact q_loadB 5 rfl rfl rfl)) | (apply hq_q; decide; (first | exact q_loadB 4 rfl rfl rfl | exact q_loadB 5 rfl rfl rfl)) | (apply hq_g; rfl; rfl; decide; (first | exact q_loadB 4 rfl rfl rfl | exact q_loadB 5 rfl rfl rfl)) | (apply hl_g; rfl; rfl; decide; (first | exact q_loadB 4 rfl rfl rfl | exact q_loadB 5 rfl rfl rfl)))
  refine hl_storeA 5 rfl rfl rfl rfl rfl (chV_one hu67) ?_
  repeat' (first | refine hl_a ?_ | refine hq_a ?_ | refine hl_nil ?_ | refine hq_nil ?_ | refine hq_ga ?_ | refine hq_sk ?_ | refine hq_su ?_ | refine hq_gT ?_ | refine hq_gF ?_ | refine hq_gd (fun h => ?_) (fun h => ?_) | refine hl_ga ?_ | refine hl_sk ?_ | refine hl_su ?_ | refine hl_gT ?_ | refine hl_gF ?_ | refine hl_gd (fun h => ?_) (fun h => ?_) | refine hx_next ?_ | refine hw_seq ?_ | refine hw_region ?_ | refine hw_dr ?_ | refine hw_block ?_ | refine hx_block ?_ | refine hw_tt ?_ | refine hw_ff ?_ | refine hw_iT ?_ | refine hw_iF ?_ | refine hw_skip ?_ | refine hw_ret ?_ | refine hw_exit ?_ | refine hx_then_ret ?_ | refine hx_block_ret ?_ | refine hx_then_exit ?_ | refine hx_block_here ?_ | refine hx_far ?_ | refine hx_any ?_ | (apply ha_end; decide +kernel) | (apply hl_q; decide; (first | exact q_loadB 4 rfl rfl rfl | exact q_loadB 5 rfl rfl rfl)) | (apply hq_q; decide; (first | exact q_loadB 4 rfl rfl rfl | exact q_loadB 5 rfl rfl rfl)) | (apply hq_g; rfl; rfl; decide; (first | exact q_loadB 4 rfl rfl rfl | exact q_loadB 5 rfl rfl rfl)) | (apply hl_g; rfl; rfl; decide; (first | exact q_loadB 4 rfl rfl rfl | exact q_loadB 5 rfl rfl rfl)))
  refine hl_call (by decide) (fun w hm => toMaps_c st1 tot1 v1 ks1 xss1 _ w (hr1.up hm.below) hsmr5) rfl ?_
  rintro _ _ ⟨u69, vs70, rfl, rfl, hl71, hu72⟩
  repeat' (first | refine hl_a ?_ | refine hq_a ?_ | refine hl_nil ?_ | refine hq_nil ?_ | refine hq_ga ?_ | refine hq_sk ?_ | refine hq_su ?_ | refine hq_gT ?_ | refine hq_gF ?_ | refine hq_gd (fun h => ?_) (fun h => ?_) | refine hl_ga ?_ | refine hl_sk ?_ | refine hl_su ?_ | refine hl_gT ?_ | refine hl_gF ?_ | refine hl_gd (fun h => ?_) (fun h => ?_) | refine hx_next ?_ | refine hw_seq ?_ | refine hw_region ?_ | refine hw_dr ?_ | refine hw_block ?_ | refine hx_block ?_ | refine hw_tt ?_ | refine hw_ff ?_ | refine hw_iT ?_ | refine hw_iF ?_ | refine hw_skip ?_ | refine hw_ret ?_ | refine hw_exit ?_ | refine hx_then_ret ?_ | refine hx_block_ret ?_ | refine hx_then_exit ?_ | refine hx_block_here ?_ | refine hx_far ?_ | refine hx_any ?_ | (apply ha_end; decide +kernel) | (apply hl_q; decide; (first | exact q_loadB 4 rfl rfl rfl | exact q_loadB 5 rfl rfl rfl | exact q_loadB 6 rfl rfl rfl)) | (apply hq_q; decide; (first | exact q_loadB 4 rfl rfl rfl | exact q_loadB 5 rfl rfl rfl | exact q_loadB 6 rfl rfl rfl)) | (apply hq_g; rfl; rfl; decide; (first | exact q_loadB 4 rfl rfl rfl | exact q_loadB 5 rfl rfl rfl | exact q_loadB 6 rfl rfl rfl)) | (apply hl_g; rfl; rfl; decide; (first | exact q_loadB 4 rfl rfl rfl | exact q_loadB 5 rfl rfl rfl | exact q_loadB 6 rfl rfl rfl)))
  refine hl_alloc (by decide) (fun b73 => ?_)
  repeat' (first | refine hl_a ?_ | refine hq_a ?_ | refine hl_nil ?_ | refine hq_nil ?_ | refine hq_ga ?_ | refine hq_sk ?_ | refine hq_su ?_ | refine hq_gT ?_ | refine hq_gF ?_ | refine hq_gd (fun h => ?_) (fun h => ?_) | refine hl_ga ?_ | refine hl_sk ?_ | refine hl_su ?_ | refine hl_gT ?_ | refine hl_gF ?_ | refine hl_gd (fun h => ?_) (fun h => ?_) | refine hx_next ?_ | refine hw_seq ?_ | refine hw_region ?_ | refine hw_dr ?_ | refine hw_block ?_ | refine hx_block ?_ | refine hw_tt ?_ | refine hw_ff ?_ | refine hw_iT ?_ | refine hw_iF ?_ | refine hw_skip ?_ | refine hw_ret ?_ | refine hw_exit ?_ | refine hx_then_ret ?_ | refine hx_block_ret ?_ | refine hx_then_exit ?_ | refine hx_block_here ?_ | refine hx_far ?_ | refine hx_any ?_ | (apply ha_end; decide +kernel) | (apply hl_q; decide; (first | exact q_loadB 4 rfl rfl rfl | exact q_loadB 5 rfl rfl rfl | exact q_loadB 6 rfl rfl rfl | exact q_loadB 7 rfl rfl rfl)) | (apply hq_q; decide; (first | exact q_loadB 4 rfl rfl rfl | exact q_loadB 5 rfl rfl rfl | exact q_loadB 6 rfl rfl rfl | exact q_loadB 7 rfl rfl rfl)) | (apply hq_g; rfl; rfl; decide; (first | exact q_loadB 4 rfl rfl rfl | exact q_loadB 5 rfl rfl rfl | exact q_loadB 6 rfl rfl rfl | exact q_loadB 7 rfl rfl rfl)) | (apply hl_g; rfl; rfl; decide; (first | exact q_loadB 4 rfl rfl rfl | exact q_loadB 5 rfl rfl rfl | exact q_loadB 6 rfl rfl rfl | exact q_loadB 7 rfl rfl rfl)))
  refine hl_storeA 7 rfl rfl rfl rfl rfl (chV_one hu72) ?_
  repeat' (first | refine hl_a ?_ | refine hq_a ?_ | refine hl_nil ?_ | refine hq_nil ?_ | refine hq_ga ?_ | refine hq_sk ?_ | refine hq_su ?_ | refine hq_gT ?_ | refine hq_gF ?_ | refine hq_gd (fun h => ?_) (fun h => ?_) | refine hl_ga ?_ | refine hl_sk ?_ | refine hl_su ?_ | refine hl_gT ?_ | refine hl_gF ?_ | refine hl_gd (fun h => ?_) (fun h => ?_) | refine hx_next ?_ | refine hw_seq ?_ | refine hw_region ?_ | refine hw_dr ?_ | refine hw_block ?_ | refine hx_block ?_ | refine hw_tt ?_ | refine hw_ff ?_ | refine hw_iT ?_ | refine hw_iF ?_ | refine hw_skip ?_ | refine hw_ret ?_ | refine hw_exit ?_ | refine hx_then_ret ?_ | refine hx_block_ret ?_ | refine hx_then_exit ?_ | refine hx_block_here ?_ | refine hx_far ?_ | refine hx_any ?_ | (apply ha_end; decide +kernel) | (apply hl_q; decide; (first | exact q_loadB 4 rfl rfl rfl | exact q_loadB 5 rfl rfl rfl | exact q_loadB 6 rfl rfl rfl | exact q_loadB 7 rfl rfl rfl)) | (apply hq_q; decide; (first | exact q_loadB 4 rfl rfl rfl | exact q_loadB 5 rfl rfl rfl | exact q_loadB 6 rfl rfl rfl | exact q_loadB 7 rfl rfl rfl)) | (apply hq_g; rfl; rfl; decide; (first | exact q_loadB 4 rfl rfl rfl | exact q_loadB 5 rfl rfl rfl | exact q_loadB 6 rfl rfl rfl | exact q_loadB 7 rfl rfl rfl)) | (apply hl_g; rfl; rfl; decide; (first | exact q_loadB 4 rfl rfl rfl | exact q_loadB 5 rfl rfl rfl | exact q_loadB 6 rfl rfl rfl | exact q_loadB 7 rfl rfl rfl)))
  refine hl_call (by decide) (fun w hm => implThenMaps_c st0 tot0 u64 ks0 xss0 _ st1 tot1 u69 ks1 xss1 _ w (hm.rdM 4 rfl hl66 hr0.len) (hm.rdM 6 rfl hl71 hr1.len)) rfl ?_
  rintro _ _ ⟨u74, vs75, rfl, rfl, hl76, hu77⟩
  repeat' (first | refine hl_a ?_ | refine hq_a ?_ | refine hl_nil ?_ | refine hq_nil ?_ | refine hq_ga ?_ | refine hq_sk ?_ | refine hq_su ?_ | refine hq_gT ?_ | refine hq_gF ?_ | refine hq_gd (fun h => ?_) (fun h => ?_) | refine hl_ga ?_ | refine hl_sk ?_ | refine hl_su ?_ | refine hl_gT ?_ | refine hl_gF ?_ | refine hl_gd (fun h => ?_) (fun h => ?_) | refine hx_next ?_ | refine hw_seq ?_ | refine hw_region ?_ | refine hw_dr ?_ | refine hw_block ?_ | refine hx_block ?_ | refine hw_tt ?_ | refine hw_ff ?_ | refine hw_iT ?_ | refine hw_iF ?_ | refine hw_skip ?_ | refine hw_ret ?_ | refine hw_exit ?_ | refine hx_then_ret ?_ | refine hx_block_ret ?_ | refine hx_then_exit ?_ | refine hx_block_here ?_ | refine hx_far ?_ | refine hx_any ?_ | (apply ha_end; decide +kernel) | (apply hl_q; decide; (first | exact q_loadB 4 rfl rfl rfl | exact q_loadB 5 rfl rfl rfl | exact q_loadB 6 rfl rfl rfl | exact q_loadB 7 rfl rfl rfl | exact q_loadB 8 rfl rfl rfl)) | (apply hq_q; decide; (first | exact q_loadB 4 rfl rfl rfl | exact q_loadB 5 rfl rfl rfl | exact q_loadB 6 rfl rfl rfl | exact q_loadB 7 rfl rfl rfl | exact q_loadB 8 rfl rfl rfl)) | (apply hq_g; rfl; rfl; decide; (first | exact q_loadB 4 rfl rfl rfl | exact q_loadB 5 rfl rfl rfl | exact q_loadB 6 rfl rfl rfl | exact q_loadB 7 rfl rfl rfl | exact q_loadB 8 rfl rfl rfl)) | (apply hl_g; rfl; rfl; decide; (first | exact q_loadB 4 rfl rfl rfl | exact q_loadB 5 rfl rfl rfl | exact q_loadB 6 rfl rfl rfl | exact q_loadB 7 rfl rfl rfl | exact q_loadB 8 rfl rfl rfl)))
  refine hl_alloc (by decide) (fun b78 => ?_)
  repeat' (first | refine hl_a ?_ | refine hq_a ?_ | refine hl_nil ?_ | refine hq_nil ?_ | refine hq_ga ?_ | refine hq_sk ?_ | refine hq_su ?_ | refine hq_gT ?_ | refine hq_gF ?_ | refine hq_gd (fun h => ?_) (fun h => ?_) | refine hl_ga ?_ | refine hl_sk ?_ | refine hl_su ?_ | refine hl_gT ?_ | refine hl_gF ?_ | refine hl_gd (fun h => ?_) (fun h => ?_) | refine hx_next ?_ | refine hw_seq ?_ | refine hw_region ?_ | refine hw_dr ?_ | refine hw_block ?_ | refine hx_block ?_ | refine hw_tt ?_ | refine hw_ff ?_ | refine hw_iT ?_ | refine hw_iF ?_ | refine hw_skip ?_ | refine hw_ret ?_ | refine hw_exit ?_ | refine hx_then_ret ?_ | refine hx_block_ret ?_ | refine hx_then_exit ?_ | refine hx_block_here ?_ | refine hx_far ?_ | refine hx_any ?_ | (apply ha_end; decide +kernel) | (apply hl_q; decide; (first | exact q_loadB 4 rfl rfl rfl | exact q_loadB 5 rfl rfl rfl | exact q_loadB 6 rfl rfl rfl | exact q_loadB 7 rfl rfl rfl | exact q_loadB 8 rfl rfl rfl | exact q_loadB 9 rfl rfl rfl)) | (apply hq_q; decide; (first | exact q_loadB 4 rfl rfl rfl | exact q_loadB 5 rfl rfl rfl | exact q_loadB 6 rfl rfl rfl | exact q_loadB 7 rfl rfl rfl | exact q_loadB 8 rfl rfl rfl | exact q_loadB 9 rfl rfl rfl)) | (apply hq_g; rfl; rfl; decide; (first | exact q_loadB 4 rfl rfl rfl | exact q_loadB 5 rfl rfl rfl | exact q_loadB 6 rfl rfl rfl | exact q_loadB 7 rfl rfl rfl | exact q_loadB 8 rfl rfl rfl | exact q_loadB 9 rfl rfl rfl)) | (apply hl_g; rfl; rfl; decide; (first | exact q_loadB 4 rfl rfl rfl | exact q_loadB 5 rfl rfl rfl | exact q_loadB 6 rfl rfl rfl | exact q_loadB 7 rfl rfl rfl | exact q_loadB 8 rfl rfl rfl | exact q_loadB 9 rfl rfl rfl)))
  refine hl_storeA 9 rfl rfl rfl rfl rfl (chV_one hu77) ?_
  repeat' (first | refine hl_a ?_ | refine hq_a ?_ | refine hl_nil ?_ | refine hq_nil ?_ | refine hq_ga ?_ | refine hq_sk ?_ | refine hq_su ?_ | refine hq_gT ?_ | refine hq_gF ?_ | refine hq_gd (fun h => ?_) (fun h => ?_) | refine hl_ga ?_ | refine hl_sk ?_ | refine hl_su ?_ | refine hl_gT ?_ | refine hl_gF ?_ | refine hl_gd (fun h => ?_) (fun h => ?_) | refine hx_next ?_ | refine hw_seq ?_ | refine hw_region ?_ | refine hw_block ?_ | refine hx_block ?_ | refine hw_tt ?_ | refine hw_ff ?_ | refine hw_iT ?_ | refine hw_iF ?_ | refine hw_skip ?_ | refine hw_ret ?_ | refine hw_exit ?_ | refine hx_then_ret ?_ | refine hx_block_ret ?_ | refine hx_then_exit ?_ | refine hx_block_here ?_ | refine hx_far ?_ | refine hx_any ?_ | (apply ha_end; decide +kernel) | (apply hl_q; decide; (first | exact q_loadB 4 rfl rfl rfl | exact q_loadB 5 rfl rfl rfl | exact q_loadB 6 rfl rfl rfl | exact q_loadB 7 rfl rfl rfl | exact q_loadB 8 rfl rfl rfl | exact q_loadB 9 rfl rfl rfl | exact q_call (fun w hm => (eqMaps_c (thM st0 tot0 ks0 xss0 st1 tot1 ks1 xss1).st (thM st0 tot0 ks0 xss0 st1 tot1 ks1 xss1).tot (thM st0 tot0 ks0 xss0 st1 tot1 ks1 xss1).st (thM st0 tot0 ks0 xss0 st1 tot1 ks1 xss1).tot _ _ _ _ _ _ _ _ w (hm.rdM 8 rfl hl76 (thM_len _ _ _ _ _ _ _ _)) (hm.rdM 2 rfl hl22 (thM_len _ _ _ _ _ _ _ _))).tt ⟨rfl, rfl, rfl, rfl⟩) rfl)) | (apply hq_q; decide; (first | exact q_loadB 4 rfl rfl rfl | exact q_loadB 5 rfl rfl rfl | exact q_loadB 6 rfl rfl rfl | exact q_loadB 7 rfl rfl rfl | exact q_loadB 8 rfl rfl rfl | exact q_loadB 9 rfl rfl rfl | exact q_call (fun w hm => (eqMaps_c (thM st0 tot0 ks0 xss0 st1 tot1 ks1 xss1).st (thM st0 tot0 ks0 xss0 st1 tot1 ks1 xss1).tot (thM st0 tot0 ks0 xss0 st1 tot1 ks1 xss1).st (thM st0 tot0 ks0 xss0 st1 tot1 ks1 xss1).tot _ _ _ _ _ _ _ _ w (hm.rdM 8 rfl hl76 (thM_len _ _ _ _ _ _ _ _)) (hm.rdM 2 rfl hl22 (thM_len _ _ _ _ _ _ _ _))).tt ⟨rfl, rfl, rfl, rfl⟩) rfl)) | (apply hq_g; rfl; rfl; decide; (first | exact q_loadB 4 rfl rfl rfl | exact q_loadB 5 rfl rfl rfl | exact q_loadB 6 rfl rfl rfl | exact q_loadB 7 rfl rfl rfl | exact q_loadB 8 rfl rfl rfl | exact q_loadB 9 rfl rfl rfl | exact q_call (fun w hm => (eqMaps_c (thM st0 tot0 ks0 xss0 st1 tot1 ks1 xss1).st (thM st0 tot0 ks0 xss0 st1 tot1 ks1 xss1).tot (thM st0 tot0 ks0 xss0 st1 tot1 ks1 xss1).st (thM st0 tot0 ks0 xss0 st1 tot1 ks1 xss1).tot _ _ _ _ _ _ _ _ w (hm.rdM 8 rfl hl76 (thM_len _ _ _ _ _ _ _ _)) (hm.rdM 2 rfl hl22 (thM_len _ _ _ _ _ _ _ _))).tt ⟨rfl, rfl, rfl, rfl⟩) rfl)) | (apply hl_g; rfl; rfl; decide; (first | exact q_loadB 4 rfl rfl rfl | exact q_loadB 5 rfl rfl rfl | exact q_loadB 6 rfl rfl rfl | exact q_loadB 7 rfl rfl rfl | exact q_loadB 8 rfl rfl rfl | exact q_loadB 9 rfl rfl rfl | exact q_call (fun w hm => (eqMaps_c (thM st0 tot0 ks0 xss0 st1 tot1 ks1 xss1).st (thM st0 tot0 ks0 xss0 st1 tot1 ks1 xss1).tot (thM st0 tot0 ks0 xss0 st1 tot1 ks1 xss1).st (thM st0 tot0 ks0 xss0 st1 tot1 ks1 xss1).tot _ _ _ _ _ _ _ _ w (hm.rdM 8 rfl hl76 (thM_len _ _ _ _ _ _ _ _)) (hm.rdM 2 rfl hl22 (thM_len _ _ _ _ _ _ _ _))).tt ⟨rfl, rfl, rfl, rfl⟩) rfl)))
  refine hw_heldE (σ := Unit) [rBlk b2 (chV st0 tot0 v0).cells 24, rBlk b3 (chV st1 tot1 v1).cells 24, rMaps 92 2 u20 vs21 (thM st0 tot0 ks0 xss0 st1 tot1 ks1 xss1).ks (thM st0 tot0 ks0 xss0 st1 tot1 ks1 xss1).xss, rBlk b19 #[.int .i64 (thM st0 tot0 ks0 xss0 st1 tot1 ks1 xss1).st, .int .i64 (thM st0 tot0 ks0 xss0 st1 tot1 ks1 xss1).tot, u20] 33, rMaps 92 2 u64 vs65 ks0 xss0, rBlk b68 #[.int .i64 st0, .int .i64 tot0, u64] 33, rMaps 92 2 u69 vs70 ks1 xss1, rBlk b73 #[.int .i64 st1, .int .i64 tot1, u69] 33, rMaps 92 2 u74 vs75 (thM st0 tot0 ks0 xss0 st1 tot1 ks1 xss1).ks (thM st0 tot0 ks0 xss0 st1 tot1 ks1 xss1).xss, rBlk b78 #[.int .i64 (thM st0 tot0 ks0 xss0 st1 tot1 ks1 xss1).st, .int .i64 (thM st0 tot0 ks0 xss0 st1 tot1 ks1 xss1).tot, u74] 33] (fun _ => [(2, .pointer (some ⟨b2, 0, none⟩)), (3, .pointer (some ⟨b3, 0, none⟩)), (6, .pointer (some ⟨b19, 0, none⟩)), (7, .int .i64 ((thM st0 tot0 ks0 xss0 st1 tot1 ks1 xss1).code)), (8, .pointer (some ⟨b68, 0, none⟩)), (9, .pointer (some ⟨b73, 0, none⟩)), (10, .pointer (some ⟨b78, 0, none⟩)), (11, .int .i64 ((thM st0 tot0 ks0 xss0 st1 tot1 ks1 xss1).code)), (58, .bool false)]) (fun _ => [rBlk b2 (chV st0 tot0 v0).cells 24, rBlk b3 (chV st1 tot1 v1).cells 24, rMaps 92 2 u20 vs21 (thM st0 tot0 ks0 xss0 st1 tot1 ks1 xss1).ks (thM st0 tot0 ks0 xss0 st1 tot1 ks1 xss1).xss, rBlk b19 #[.int .i64 (thM st0 tot0 ks0 xss0 st1 tot1 ks1 xss1).st, .int .i64 (thM st0 tot0 ks0 xss0 st1 tot1 ks1 xss1).tot, u20] 33, rMaps 92 2 u64 vs65 ks0 xss0, rBlk b68 #[.int .i64 st0, .int .i64 tot0, u64] 33, rMaps 92 2 u69 vs70 ks1 xss1, rBlk b73 #[.int .i64 st1, .int .i64 tot1, u69] 33, rMaps 92 2 u74 vs75 (thM st0 tot0 ks0 xss0 st1 tot1 ks1 xss1).ks (thM st0 tot0 ks0 xss0 st1 tot1 ks1 xss1).xss, rBlk b78 #[.int .i64 (thM st0 tot0 ks0 xss0 st1 tot1 ks1 xss1).st, .int .i64 (thM st0 tot0 ks0 xss0 st1 tot1 ks1 xss1).tot, u74] 33]) (fun _ => True) (by kernel_rfl) ?_ ?_
  · skip
    refine hb_take 0 rfl (by decide) (by decide +kernel) (by decide +kernel) (by decide +kernel) (fun _ _ _ h => h) (fun w hm => Mem.keep _ hm) (qv_q rfl (q_loadB 5 rfl rfl rfl)) ?_
    refine hb_take 1 rfl (by decide) (by decide +kernel) (by decide +kernel) (by decide +kernel) (fun _ _ _ h => h) (fun w hm => Mem.keep _ hm) (qv_q rfl (q_loadB 0 rfl rfl rfl)) ?_
    refine hb_1 2 (by decide +kernel) rfl ?_
    refine hl_call (by decide) (fun w hm => toMaps_c st0 tot0 v0 ks0 xss0 _ w (hr0.up hm.below) hsmr4) rfl ?_
    rintro _ _ ⟨u83, vs84, rfl, rfl, hl85, hu86⟩
    refine hl_nil ?_
    refine hx_hb (fun w hm => Mem.keep _ hm) ?_
    refine hb_1 3 (by decide +kernel) rfl ?_
    refine hl_q (by decide) (q_call (fun w hm => (eqMaps_c st0 tot0 st0 tot0 _ _ _ _ _ _ _ _ w (hm.rdM 4 rfl hl66 hr0.len) (hm.rdM 10 rfl hl85 hr0.len)).tt ⟨rfl, rfl, rfl, rfl⟩) rfl) ?_
    refine hl_nil ?_
    refine hx_hb (fun w hm => Mem.keep _ hm) ?_
    refine hb_take 4 rfl (by decide) (by decide +kernel) (by decide +kernel) (by decide +kernel) (fun _ _ _ h => h) (fun w hm => Mem.keep _ hm) (qv_q rfl (q_not rfl)) ?_
    refine hb_end (by decide +kernel) ?_
    exact hx_joinE () trivial (by simp [Env.le, Env.at, envOf]) (fun w hm => Mem.keep _ hm)
  intro _ _
  repeat' (first | refine hl_a ?_ | refine hq_a ?_ | refine hl_nil ?_ | refine hq_nil ?_ | refine hq_ga ?_ | refine hq_sk ?_ | refine hq_su ?_ | refine hq_gT ?_ | refine hq_gF ?_ | refine hq_gd (fun h => ?_) (fun h => ?_) | refine hl_ga ?_ | refine hl_sk ?_ | refine hl_su ?_ | refine hl_gT ?_ | refine hl_gF ?_ | refine hl_gd (fun h => ?_) (fun h => ?_) | refine hx_next ?_ | refine hw_seq ?_ | refine hw_region ?_ | refine hw_block ?_ | refine hx_block ?_ | refine hw_tt ?_ | refine hw_ff ?_ | refine hw_iT ?_ | refine hw_iF ?_ | refine hw_skip ?_ | refine hw_ret ?_ | refine hw_exit ?_ | refine hx_then_ret ?_ | refine hx_block_ret ?_ | refine hx_then_exit ?_ | refine hx_block_here ?_ | refine hx_far ?_ | refine hx_any ?_ | (apply ha_end; decide +kernel) | (apply hl_q; decide; (first | exact q_loadB 4 rfl rfl rfl | exact q_loadB 5 rfl rfl rfl | exact q_loadB 6 rfl rfl rfl | exact q_loadB 7 rfl rfl rfl | exact q_loadB 8 rfl rfl rfl | exact q_loadB 9 rfl rfl rfl)) | (apply hq_q; decide; (first | exact q_loadB 4 rfl rfl rfl | exact q_loadB 5 rfl rfl rfl | exact q_loadB 6 rfl rfl rfl | exact q_loadB 7 rfl rfl rfl | exact q_loadB 8 rfl rfl rfl | exact q_loadB 9 rfl rfl rfl)) | (apply hq_g; rfl; rfl; decide; (first | exact q_loadB 4 rfl rfl rfl | exact q_loadB 5 rfl rfl rfl | exact q_loadB 6 rfl rfl rfl | exact q_loadB 7 rfl rfl rfl | exact q_loadB 8 rfl rfl rfl | exact q_loadB 9 rfl rfl rfl)) | (apply hl_g; rfl; rfl; decide; (first | exact q_loadB 4 rfl rfl rfl | exact q_loadB 5 rfl rfl rfl | exact q_loadB 6 rfl rfl rfl | exact q_loadB 7 rfl rfl rfl | exact q_loadB 8 rfl rfl rfl | exact q_loadB 9 rfl rfl rfl)))
  refine hw_heldE (σ := Unit) [rBlk b2 (chV st0 tot0 v0).cells 24, rBlk b3 (chV st1 tot1 v1).cells 24, rMaps 92 2 u20 vs21 (thM st0 tot0 ks0 xss0 st1 tot1 ks1 xss1).ks (thM st0 tot0 ks0 xss0 st1 tot1 ks1 xss1).xss, rBlk b19 #[.int .i64 (thM st0 tot0 ks0 xss0 st1 tot1 ks1 xss1).st, .int .i64 (thM st0 tot0 ks0 xss0 st1 tot1 ks1 xss1).tot, u20] 33, rMaps 92 2 u64 vs65 ks0 xss0, rBlk b68 #[.int .i64 st0, .int .i64 tot0, u64] 33, rMaps 92 2 u69 vs70 ks1 xss1, rBlk b73 #[.int .i64 st1, .int .i64 tot1, u69] 33, rMaps 92 2 u74 vs75 (thM st0 tot0 ks0 xss0 st1 tot1 ks1 xss1).ks (thM st0 tot0 ks0 xss0 st1 tot1 ks1 xss1).xss, rBlk b78 #[.int .i64 (thM st0 tot0 ks0 xss0 st1 tot1 ks1 xss1).st, .int .i64 (thM st0 tot0 ks0 xss0 st1 tot1 ks1 xss1).tot, u74] 33] (fun _ => [(2, .pointer (some ⟨b2, 0, none⟩)), (3, .pointer (some ⟨b3, 0, none⟩)), (6, .pointer (some ⟨b19, 0, none⟩)), (7, .int .i64 ((thM st0 tot0 ks0 xss0 st1 tot1 ks1 xss1).code)), (8, .pointer (some ⟨b68, 0, none⟩)), (9, .pointer (some ⟨b73, 0, none⟩)), (10, .pointer (some ⟨b78, 0, none⟩)), (11, .int .i64 ((thM st0 tot0 ks0 xss0 st1 tot1 ks1 xss1).code)), (63, .bool false)]) (fun _ => [rBlk b2 (chV st0 tot0 v0).cells 24, rBlk b3 (chV st1 tot1 v1).cells 24, rMaps 92 2 u20 vs21 (thM st0 tot0 ks0 xss0 st1 tot1 ks1 xss1).ks (thM st0 tot0 ks0 xss0 st1 tot1 ks1 xss1).xss, rBlk b19 #[.int .i64 (thM st0 tot0 ks0 xss0 st1 tot1 ks1 xss1).st, .int .i64 (thM st0 tot0 ks0 xss0 st1 tot1 ks1 xss1).tot, u20] 33, rMaps 92 2 u64 vs65 ks0 xss0, rBlk b68 #[.int .i64 st0, .int .i64 tot0, u64] 33, rMaps 92 2 u69 vs70 ks1 xss1, rBlk b73 #[.int .i64 st1, .int .i64 tot1, u69] 33, rMaps 92 2 u74 vs75 (thM st0 tot0 ks0 xss0 st1 tot1 ks1 xss1).ks (thM st0 tot0 ks0 xss0 st1 tot1 ks1 xss1).xss, rBlk b78 #[.int .i64 (thM st0 tot0 ks0 xss0 st1 tot1 ks1 xss1).st, .int .i64 (thM st0 tot0 ks0 xss0 st1 tot1 ks1 xss1).tot, u74] 33]) (fun _ => True) (by kernel_rfl) ?_ ?_
  · skip
    refine hb_take 0 rfl (by decide) (by decide +kernel) (by decide +kernel) (by decide +kernel) (fun _ _ _ h => h) (fun w hm => Mem.keep _ hm) (qv_q rfl (q_loadB 7 rfl rfl rfl)) ?_
    refine hb_take 1 rfl (by decide) (by decide +kernel) (by decide +kernel) (by decide +kernel) (fun _ _ _ h => h) (fun w hm => Mem.keep _ hm) (qv_q rfl (q_loadB 1 rfl rfl rfl)) ?_
    refine hb_1 2 (by decide +kernel) rfl ?_
    refine hl_call (by decide) (fun w hm => toMaps_c st1 tot1 v1 ks1 xss1 _ w (hr1.up hm.below) hsmr5) rfl ?_
    rintro _ _ ⟨u91, vs92, rfl, rfl, hl93, hu94⟩
    refine hl_nil ?_
    refine hx_hb (fun w hm => Mem.keep _ hm) ?_
    refine hb_1 3 (by decide +kernel) rfl ?_
    refine hl_q (by decide) (q_call (fun w hm => (eqMaps_c st1 tot1 st1 tot1 _ _ _ _ _ _ _ _ w (hm.rdM 6 rfl hl71 hr1.len) (hm.rdM 10 rfl hl93 hr1.len)).tt ⟨rfl, rfl, rfl, rfl⟩) rfl) ?_
    refine hl_nil ?_
    refine hx_hb (fun w hm => Mem.keep _ hm) ?_
    refine hb_take 4 rfl (by decide) (by decide +kernel) (by decide +kernel) (by decide +kernel) (fun _ _ _ h => h) (fun w hm => Mem.keep _ hm) (qv_q rfl (q_not rfl)) ?_
    refine hb_end (by decide +kernel) ?_
    exact hx_joinE () trivial (by simp [Env.le, Env.at, envOf]) (fun w hm => Mem.keep _ hm)
  intro _ _
  repeat' (first | refine hl_a ?_ | refine hq_a ?_ | refine hl_nil ?_ | refine hq_nil ?_ | refine hq_ga ?_ | refine hq_sk ?_ | refine hq_su ?_ | refine hq_gT ?_ | refine hq_gF ?_ | refine hq_gd (fun h => ?_) (fun h => ?_) | refine hl_ga ?_ | refine hl_sk ?_ | refine hl_su ?_ | refine hl_gT ?_ | refine hl_gF ?_ | refine hl_gd (fun h => ?_) (fun h => ?_) | refine hx_next ?_ | refine hw_seq ?_ | refine hw_region ?_ | refine hw_dr ?_ | refine hw_block ?_ | refine hx_block ?_ | refine hw_tt ?_ | refine hw_ff ?_ | refine hw_iT ?_ | refine hw_iF ?_ | refine hw_skip ?_ | refine hw_ret ?_ | refine hw_exit ?_ | refine hx_then_ret ?_ | refine hx_block_ret ?_ | refine hx_then_exit ?_ | refine hx_block_here ?_ | refine hx_far ?_ | refine hx_any ?_ | (apply ha_end; decide +kernel) | (apply hl_q; decide; (first | exact q_loadB 4 rfl rfl rfl | exact q_loadB 5 rfl rfl rfl | exact q_loadB 6 rfl rfl rfl | exact q_loadB 7 rfl rfl rfl | exact q_loadB 8 rfl rfl rfl | exact q_loadB 9 rfl rfl rfl)) | (apply hq_q; decide; (first | exact q_loadB 4 rfl rfl rfl | exact q_loadB 5 rfl rfl rfl | exact q_loadB 6 rfl rfl rfl | exact q_loadB 7 rfl rfl rfl | exact q_loadB 8 rfl rfl rfl | exact q_loadB 9 rfl rfl rfl)) | (apply hq_g; rfl; rfl; decide; (first | exact q_loadB 4 rfl rfl rfl | exact q_loadB 5 rfl rfl rfl | exact q_loadB 6 rfl rfl rfl | exact q_loadB 7 rfl rfl rfl | exact q_loadB 8 rfl rfl rfl | exact q_loadB 9 rfl rfl rfl)) | (apply hl_g; rfl; rfl; decide; (first | exact q_loadB 4 rfl rfl rfl | exact q_loadB 5 rfl rfl rfl | exact q_loadB 6 rfl rfl rfl | exact q_loadB 7 rfl rfl rfl | exact q_loadB 8 rfl rfl rfl | exact q_loadB 9 rfl rfl rfl)))
  refine hl_mut 4 rfl (by decide) (markMaps_c st0 tot0 u64 vs65 ks0 xss0 1 (by omega) (by omega) hsmr4 hl66 hr0.len) rfl ?_
  rintro _ _ ⟨rfl, rfl⟩
  have nk94 : ¬ (((1 : Int) + (((markLen xss0) : Nat) : Int)) < 0) := by omega
  repeat' (first | refine hl_a ?_ | refine hq_a ?_ | refine hl_nil ?_ | refine hq_nil ?_ | refine hq_ga ?_ | refine hq_sk ?_ | refine hq_su ?_ | refine hq_gT ?_ | refine hq_gF ?_ | refine hq_gd (fun h => ?_) (fun h => ?_) | refine hl_ga ?_ | refine hl_sk ?_ | refine hl_su ?_ | refine hl_gT ?_ | refine hl_gF ?_ | refine hl_gd (fun h => ?_) (fun h => ?_) | refine hx_next ?_ | refine hw_seq ?_ | refine hw_region ?_ | refine hw_dr ?_ | refine hw_block ?_ | refine hx_block ?_ | refine hw_tt ?_ | refine hw_ff ?_ | refine hw_iT ?_ | refine hw_iF ?_ | refine hw_skip ?_ | refine hw_ret ?_ | refine hw_exit ?_ | refine hx_then_ret ?_ | refine hx_block_ret ?_ | refine hx_then_exit ?_ | refine hx_block_here ?_ | refine hx_far ?_ | refine hx_any ?_ | (apply ha_end; decide +kernel) | (apply hl_q; decide; (first | exact q_loadB 4 rfl rfl rfl | exact q_loadB 5 rfl rfl rfl | exact q_loadB 6 rfl rfl rfl | exact q_loadB 7 rfl rfl rfl | exact q_loadB 8 rfl rfl rfl | exact q_loadB 9 rfl rfl rfl)) | (apply hq_q; decide; (first | exact q_loadB 4 rfl rfl rfl | exact q_loadB 5 rfl rfl rfl | exact q_loadB 6 rfl rfl rfl | exact q_loadB 7 rfl rfl rfl | exact q_loadB 8 rfl rfl rfl | exact q_loadB 9 rfl rfl rfl)) | (apply hq_g; rfl; rfl; decide; (first | exact q_loadB 4 rfl rfl rfl | exact q_loadB 5 rfl rfl rfl | exact q_loadB 6 rfl rfl rfl | exact q_loadB 7 rfl rfl rfl | exact q_loadB 8 rfl rfl rfl | exact q_loadB 9 rfl rfl rfl)) | (apply hl_g; rfl; rfl; decide; (first | exact q_loadB 4 rfl rfl rfl | exact q_loadB 5 rfl rfl rfl | exact q_loadB 6 rfl rfl rfl | exact q_loadB 7 rfl rfl rfl | exact q_loadB 8 rfl rfl rfl | exact q_loadB 9 rfl rfl rfl)))
  refine hl_mut 6 rfl (by decide) (markMaps_c st1 tot1 u69 vs70 ks1 xss1 ((1 : Int) + (((markLen xss0) : Nat) : Int)) (by omega) (by omega) hsmr5 hl71 hr1.len) rfl ?_
  rintro _ _ ⟨rfl, rfl⟩
  have nk95 : ¬ (((((1 : Int) + (((markLen xss0) : Nat) : Int)) : Int) + (((markLen xss1) : Nat) : Int)) < 0) := by omega
  repeat' (first | refine hl_a ?_ | refine hq_a ?_ | refine hl_nil ?_ | refine hq_nil ?_ | refine hq_ga ?_ | refine hq_sk ?_ | refine hq_su ?_ | refine hq_gT ?_ | refine hq_gF ?_ | refine hq_gd (fun h => ?_) (fun h => ?_) | refine hl_ga ?_ | refine hl_sk ?_ | refine hl_su ?_ | refine hl_gT ?_ | refine hl_gF ?_ | refine hl_gd (fun h => ?_) (fun h => ?_) | refine hx_next ?_ | refine hw_seq ?_ | refine hw_region ?_ | refine hw_dr ?_ | refine hw_block ?_ | refine hx_block ?_ | refine hw_tt ?_ | refine hw_ff ?_ | refine hw_iT ?_ | refine hw_iF ?_ | refine hw_skip ?_ | refine hw_ret ?_ | refine hw_exit ?_ | refine hx_then_ret ?_ | refine hx_block_ret ?_ | refine hx_then_exit ?_ | refine hx_block_here ?_ | refine hx_far ?_ | refine hx_any ?_ | (apply ha_end; decide +kernel) | (apply hl_q; decide; (first | exact q_loadB 4 rfl rfl rfl | exact q_loadB 5 rfl rfl rfl | exact q_loadB 6 rfl rfl rfl | exact q_loadB 7 rfl rfl rfl | exact q_loadB 8 rfl rfl rfl | exact q_loadB 9 rfl rfl rfl | exact q_call (fun w hm => (eqMaps_c (thM st0 tot0 ks0 xss0 st1 tot1 ks1 xss1).st (thM st0 tot0 ks0 xss0 st1 tot1 ks1 xss1).tot (thM st0 tot0 ks0 xss0 st1 tot1 ks1 xss1).st (thM st0 tot0 ks0 xss0 st1 tot1 ks1 xss1).tot _ _ _ _ _ _ _ _ w (hm.rdM 8 rfl hl76 (thM_len _ _ _ _ _ _ _ _)) (hm.rdM 2 rfl hl22 (thM_len _ _ _ _ _ _ _ _))).tt ⟨rfl, rfl, rfl, rfl⟩) rfl)) | (apply hq_q; decide; (first | exact q_loadB 4 rfl rfl rfl | exact q_loadB 5 rfl rfl rfl | exact q_loadB 6 rfl rfl rfl | exact q_loadB 7 rfl rfl rfl | exact q_loadB 8 rfl rfl rfl | exact q_loadB 9 rfl rfl rfl | exact q_call (fun w hm => (eqMaps_c (thM st0 tot0 ks0 xss0 st1 tot1 ks1 xss1).st (thM st0 tot0 ks0 xss0 st1 tot1 ks1 xss1).tot (thM st0 tot0 ks0 xss0 st1 tot1 ks1 xss1).st (thM st0 tot0 ks0 xss0 st1 tot1 ks1 xss1).tot _ _ _ _ _ _ _ _ w (hm.rdM 8 rfl hl76 (thM_len _ _ _ _ _ _ _ _)) (hm.rdM 2 rfl hl22 (thM_len _ _ _ _ _ _ _ _))).tt ⟨rfl, rfl, rfl, rfl⟩) rfl)) | (apply hq_g; rfl; rfl; decide; (first | exact q_loadB 4 rfl rfl rfl | exact q_loadB 5 rfl rfl rfl | exact q_loadB 6 rfl rfl rfl | exact q_loadB 7 rfl rfl rfl | exact q_loadB 8 rfl rfl rfl | exact q_loadB 9 rfl rfl rfl | exact q_call (fun w hm => (eqMaps_c (thM st0 tot0 ks0 xss0 st1 tot1 ks1 xss1).st (thM st0 tot0 ks0 xss0 st1 tot1 ks1 xss1).tot (thM st0 tot0 ks0 xss0 st1 tot1 ks1 xss1).st (thM st0 tot0 ks0 xss0 st1 tot1 ks1 xss1).tot _ _ _ _ _ _ _ _ w (hm.rdM 8 rfl hl76 (thM_len _ _ _ _ _ _ _ _)) (hm.rdM 2 rfl hl22 (thM_len _ _ _ _ _ _ _ _))).tt ⟨rfl, rfl, rfl, rfl⟩) rfl)) | (apply hl_g; rfl; rfl; decide; (first | exact q_loadB 4 rfl rfl rfl | exact q_loadB 5 rfl rfl rfl | exact q_loadB 6 rfl rfl rfl | exact q_loadB 7 rfl rfl rfl | exact q_loadB 8 rfl rfl rfl | exact q_loadB 9 rfl rfl rfl | exact q_call (fun w hm => (eqMaps_c (thM st0 tot0 ks0 xss0 st1 tot1 ks1 xss1).st (thM st0 tot0 ks0 xss0 st1 tot1 ks1 xss1).tot (thM st0 tot0 ks0 xss0 st1 tot1 ks1 xss1).st (thM st0 tot0 ks0 xss0 st1 tot1 ks1 xss1).tot _ _ _ _ _ _ _ _ w (hm.rdM 8 rfl hl76 (thM_len _ _ _ _ _ _ _ _)) (hm.rdM 2 rfl hl22 (thM_len _ _ _ _ _ _ _ _))).tt ⟨rfl, rfl, rfl, rfl⟩) rfl)))
  refine hl_mut 8 rfl (by decide) (markMaps_c (thM st0 tot0 ks0 xss0 st1 tot1 ks1 xss1).st (thM st0 tot0 ks0 xss0 st1 tot1 ks1 xss1).tot u74 vs75 (thM st0 tot0 ks0 xss0 st1 tot1 ks1 xss1).ks (thM st0 tot0 ks0 xss0 st1 tot1 ks1 xss1).xss 1 (by omega) (by omega) hsmM hl76 (thM_len _ _ _ _ _ _ _ _)) rfl ?_
  rintro _ _ ⟨rfl, rfl⟩
  have nk96 : ¬ (((1 : Int) + (((markLen (thM st0 tot0 ks0 xss0 st1 tot1 ks1 xss1).xss) : Nat) : Int)) < 0) := by omega
  have nq97 : ¬ (((1 : Int) + (((markLen (thM st0 tot0 ks0 xss0 st1 tot1 ks1 xss1).xss) : Nat) : Int)) ≠ ((1 : Int) + (((markLen (thM st0 tot0 ks0 xss0 st1 tot1 ks1 xss1).xss) : Nat) : Int))) := fun h => h rfl
  repeat' (first | refine hl_a ?_ | refine hq_a ?_ | refine hl_nil ?_ | refine hq_nil ?_ | refine hq_ga ?_ | refine hq_sk ?_ | refine hq_su ?_ | refine hq_gT ?_ | refine hq_gF ?_ | refine hq_gd (fun h => ?_) (fun h => ?_) | refine hl_ga ?_ | refine hl_sk ?_ | refine hl_su ?_ | refine hl_gT ?_ | refine hl_gF ?_ | refine hl_gd (fun h => ?_) (fun h => ?_) | refine hx_next ?_ | refine hw_seq ?_ | refine hw_region ?_ | refine hw_block ?_ | refine hx_block ?_ | refine hw_tt ?_ | refine hw_ff ?_ | refine hw_iT ?_ | refine hw_iF ?_ | refine hw_skip ?_ | refine hw_ret ?_ | refine hw_exit ?_ | refine hx_then_ret ?_ | refine hx_block_ret ?_ | refine hx_then_exit ?_ | refine hx_block_here ?_ | refine hx_far ?_ | refine hx_any ?_ | (apply ha_end; decide +kernel) | (apply hl_q; decide; (first | exact q_loadB 4 rfl rfl rfl | exact q_loadB 5 rfl rfl rfl | exact q_loadB 6 rfl rfl rfl | exact q_loadB 7 rfl rfl rfl | exact q_loadB 8 rfl rfl rfl | exact q_loadB 9 rfl rfl rfl | exact q_call (fun w hm => heldMaps_c (thM st0 tot0 ks0 xss0 st1 tot1 ks1 xss1).st (thM st0 tot0 ks0 xss0 st1 tot1 ks1 xss1).tot u74 (thM st0 tot0 ks0 xss0 st1 tot1 ks1 xss1).ks (thM st0 tot0 ks0 xss0 st1 tot1 ks1 xss1).xss _ 1 (by omega) (by omega) hsmM (thM_len _ _ _ _ _ _ _ _) w (hm.rdMk 8 rfl hl76 (thM_len _ _ _ _ _ _ _ _))) rfl)) | (apply hq_q; decide; (first | exact q_loadB 4 rfl rfl rfl | exact q_loadB 5 rfl rfl rfl | exact q_loadB 6 rfl rfl rfl | exact q_loadB 7 rfl rfl rfl | exact q_loadB 8 rfl rfl rfl | exact q_loadB 9 rfl rfl rfl | exact q_call (fun w hm => heldMaps_c (thM st0 tot0 ks0 xss0 st1 tot1 ks1 xss1).st (thM st0 tot0 ks0 xss0 st1 tot1 ks1 xss1).tot u74 (thM st0 tot0 ks0 xss0 st1 tot1 ks1 xss1).ks (thM st0 tot0 ks0 xss0 st1 tot1 ks1 xss1).xss _ 1 (by omega) (by omega) hsmM (thM_len _ _ _ _ _ _ _ _) w (hm.rdMk 8 rfl hl76 (thM_len _ _ _ _ _ _ _ _))) rfl)) | (apply hq_g; rfl; rfl; decide; (first | exact q_loadB 4 rfl rfl rfl | exact q_loadB 5 rfl rfl rfl | exact q_loadB 6 rfl rfl rfl | exact q_loadB 7 rfl rfl rfl | exact q_loadB 8 rfl rfl rfl | exact q_loadB 9 rfl rfl rfl | exact q_call (fun w hm => heldMaps_c (thM st0 tot0 ks0 xss0 st1 tot1 ks1 xss1).st (thM st0 tot0 ks0 xss0 st1 tot1 ks1 xss1).tot u74 (thM st0 tot0 ks0 xss0 st1 tot1 ks1 xss1).ks (thM st0 tot0 ks0 xss0 st1 tot1 ks1 xss1).xss _ 1 (by omega) (by omega) hsmM (thM_len _ _ _ _ _ _ _ _) w (hm.rdMk 8 rfl hl76 (thM_len _ _ _ _ _ _ _ _))) rfl)) | (apply hl_g; rfl; rfl; decide; (first | exact q_loadB 4 rfl rfl rfl | exact q_loadB 5 rfl rfl rfl | exact q_loadB 6 rfl rfl rfl | exact q_loadB 7 rfl rfl rfl | exact q_loadB 8 rfl rfl rfl | exact q_loadB 9 rfl rfl rfl | exact q_call (fun w hm => heldMaps_c (thM st0 tot0 ks0 xss0 st1 tot1 ks1 xss1).st (thM st0 tot0 ks0 xss0 st1 tot1 ks1 xss1).tot u74 (thM st0 tot0 ks0 xss0 st1 tot1 ks1 xss1).ks (thM st0 tot0 ks0 xss0 st1 tot1 ks1 xss1).xss _ 1 (by omega) (by omega) hsmM (thM_len _ _ _ _ _ _ _ _) w (hm.rdMk 8 rfl hl76 (thM_len _ _ _ _ _ _ _ _))) rfl)))
  refine hw_heldE (σ := Nat × Value × List Value) [rBlk b2 (chV st0 tot0 v0).cells 24, rBlk b3 (chV st1 tot1 v1).cells 24, rMaps 92 2 u20 vs21 (thM st0 tot0 ks0 xss0 st1 tot1 ks1 xss1).ks (thM st0 tot0 ks0 xss0 st1 tot1 ks1 xss1).xss, rBlk b19 #[.int .i64 (thM st0 tot0 ks0 xss0 st1 tot1 ks1 xss1).st, .int .i64 (thM st0 tot0 ks0 xss0 st1 tot1 ks1 xss1).tot, u20] 33, rMaps 92 2 u64 vs65 (mkK 1 xss0) (mkM 1 xss0), rBlk b68 #[.int .i64 st0, .int .i64 tot0, u64] 33, rMaps 92 2 u69 vs70 (mkK ((1 : Int) + (((markLen xss0) : Nat) : Int)) xss1) (mkM ((1 : Int) + (((markLen xss0) : Nat) : Int)) xss1), rBlk b73 #[.int .i64 st1, .int .i64 tot1, u69] 33, rMaps 92 2 u74 vs75 (mkK 1 (thM st0 tot0 ks0 xss0 st1 tot1 ks1 xss1).xss) (mkM 1 (thM st0 tot0 ks0 xss0 st1 tot1 ks1 xss1).xss), rBlk b78 #[.int .i64 (thM st0 tot0 ks0 xss0 st1 tot1 ks1 xss1).st, .int .i64 (thM st0 tot0 ks0 xss0 st1 tot1 ks1 xss1).tot, u74] 33] (fun s => [(6, .pointer (some ⟨b19, 0, none⟩)), (7, .int .i64 ((thM st0 tot0 ks0 xss0 st1 tot1 ks1 xss1).code)), (10, .pointer (some ⟨b78, 0, none⟩)), (13, .int .i64 ((1 : Int) + (((markLen (thM st0 tot0 ks0 xss0 st1 tot1 ks1 xss1).xss) : Nat) : Int))), (15, .pointer (some ⟨s.1, 0, none⟩)), (16, .int .i64 ((thM st0 tot0 ks0 xss0 st1 tot1 ks1 xss1).code))]) (fun s => [rBlk b2 (chV st0 tot0 v0).cells 24, rBlk b3 (chV st1 tot1 v1).cells 24, rMaps 92 2 u20 vs21 (thM st0 tot0 ks0 xss0 st1 tot1 ks1 xss1).ks (thM st0 tot0 ks0 xss0 st1 tot1 ks1 xss1).xss, rBlk b19 #[.int .i64 (thM st0 tot0 ks0 xss0 st1 tot1 ks1 xss1).st, .int .i64 (thM st0 tot0 ks0 xss0 st1 tot1 ks1 xss1).tot, u20] 33, rMaps 92 2 u64 vs65 (mkK 1 xss0) (mkM 1 xss0), rBlk b68 #[.int .i64 st0, .int .i64 tot0, u64] 33, rMaps 92 2 u69 vs70 (mkK ((1 : Int) + (((markLen xss0) : Nat) : Int)) xss1) (mkM ((1 : Int) + (((markLen xss0) : Nat) : Int)) xss1), rBlk b73 #[.int .i64 st1, .int .i64 tot1, u69] 33, rMaps 92 2 u74 vs75 (mkK 1 (thM st0 tot0 ks0 xss0 st1 tot1 ks1 xss1).xss) (mkM 1 (thM st0 tot0 ks0 xss0 st1 tot1 ks1 xss1).xss), rBlk b78 #[.int .i64 (thM st0 tot0 ks0 xss0 st1 tot1 ks1 xss1).st, .int .i64 (thM st0 tot0 ks0 xss0 st1 tot1 ks1 xss1).tot, u74] 33, rMaps 92 2 s.2.1 s.2.2 (thM st0 tot0 ks0 xss0 st1 tot1 ks1 xss1).ks (thM st0 tot0 ks0 xss0 st1 tot1 ks1 xss1).xss, rBlk s.1 #[.int .i64 (thM st0 tot0 ks0 xss0 st1 tot1 ks1 xss1).st, .int .i64 (thM st0 tot0 ks0 xss0 st1 tot1 ks1 xss1).tot, s.2.1] 33]) (fun s => s.2.2.length = (thM st0 tot0 ks0 xss0 st1 tot1 ks1 xss1).xss.length ∧ SlOk s.2.1 (thM st0 tot0 ks0 xss0 st1 tot1 ks1 xss1).xss.length) (by kernel_rfl) ?_ ?_
  · skip
    refine hb_take 0 rfl (by decide) (by decide +kernel) (by decide +kernel) (by decide +kernel) (fun _ _ _ h => h) (fun w hm => Mem.keep _ hm) (qv_q rfl (q_loadB 0 rfl rfl rfl)) ?_
    refine hb_take 2 rfl (by decide) (by decide +kernel) (by decide +kernel) (by decide +kernel) (fun _ _ _ h => h) (fun w hm => Mem.keep _ hm) (qv_q rfl (q_loadB 1 rfl rfl rfl)) ?_
    refine hb_2 1 8 (by decide +kernel) rfl rfl ?_ ?_
    · skip
      refine hl_call (by decide) (fun w hm => toMaps_c st0 tot0 v0 ks0 xss0 _ w (hr0.up hm.below) hsmr4) rfl ?_
      rintro _ _ ⟨u117, vs118, rfl, rfl, hl119, hu120⟩
      refine hl_nil ?_
      refine hx_hb (fun w hm => Mem.keep _ hm) ?_
      refine hb_2 3 8 (by decide +kernel) rfl rfl ?_ ?_
      · skip
        refine hl_call (by decide) (fun w hm => toMaps_c st1 tot1 v1 ks1 xss1 _ w (hr1.up hm.below) hsmr5) rfl ?_
        rintro _ _ ⟨u121, vs122, rfl, rfl, hl123, hu124⟩
        refine hl_nil ?_
        refine hx_hb (fun w hm => Mem.keep _ hm) ?_
        refine hb_2 4 8 (by decide +kernel) rfl rfl ?_ ?_
        · skip
          refine hl_call (by decide) (fun w hm => implThenMaps_c st0 tot0 u117 ks0 xss0 _ st1 tot1 u121 ks1 xss1 _ w (hm.rdM 10 rfl hl119 hr0.len) (hm.rdM 11 rfl hl123 hr1.len)) rfl ?_
          rintro _ _ ⟨u125, vs126, rfl, rfl, hl127, hu128⟩
          refine hl_nil ?_
          refine hx_hb (fun w hm => Mem.keep _ hm) ?_
          refine hb_take 5 rfl (by decide) (by decide +kernel) (by decide +kernel) (by decide +kernel) (fun _ _ _ h => h) (fun w hm => Mem.keep _ hm) (qv_q rfl (q_move rfl)) ?_
          refine hb_take 6 rfl (by decide) (by decide +kernel) (by decide +kernel) (by decide +kernel) (fun _ _ _ h => h) (fun w hm => Mem.keep _ hm) (qv_q rfl (q_ext rfl rfl)) ?_
          refine hb_take 7 rfl (by decide) (by decide +kernel) (by decide +kernel) (by decide +kernel) (fun _ _ _ h => h) (fun w hm => Mem.keep _ hm) (qv_q rfl (q_ext rfl rfl)) ?_
          refine hb_1 8 (by decide +kernel) rfl ?_
          refine hl_alloc (by decide) (fun b129 => ?_)
          refine hl_nil ?_
          refine hx_hb (fun w hm => Mem.keep _ hm) ?_
          refine hb_1 9 (by decide +kernel) rfl ?_
          refine hl_storeA 13 rfl rfl rfl rfl rfl (chV_one hu128) ?_
          refine hl_nil ?_
          refine hx_hb (fun w hm => Mem.keep _ hm) ?_
          refine hb_take 10 rfl (by decide) (by decide +kernel) (by decide +kernel) (by decide +kernel) (fun _ _ _ h => h) (fun w hm => Mem.keep _ hm) (qv_q rfl (q_assign rfl)) ?_
          refine hb_end (by decide +kernel) ?_
          exact hx_joinE (b129, u125, vs126) ⟨hl127, hu128⟩ (by simp [Env.le, Env.at, envOf]) (fun w hm => hm.pick [0, 1, 2, 3, 4, 5, 6, 7, 8, 9, 12, 13] (by decide) rfl)
        · skip
          refine hl_alloc (by decide) (fun b130 => ?_)
          refine hl_nil ?_
          refine hx_hb (fun w hm => Mem.keep _ hm) ?_
          refine hb_1 4 (by decide +kernel) rfl ?_
          refine hl_call (by decide) (fun w hm => implThenMaps_c st0 tot0 u117 ks0 xss0 _ st1 tot1 u121 ks1 xss1 _ w (hm.rdM 10 rfl hl119 hr0.len) (hm.rdM 11 rfl hl123 hr1.len)) rfl ?_
          rintro _ _ ⟨u131, vs132, rfl, rfl, hl133, hu134⟩
          refine hl_nil ?_
          refine hx_hb (fun w hm => Mem.keep _ hm) ?_
          refine hb_take 5 rfl (by decide) (by decide +kernel) (by decide +kernel) (by decide +kernel) (fun _ _ _ h => h) (fun w hm => Mem.keep _ hm) (qv_q rfl (q_move rfl)) ?_
          refine hb_take 6 rfl (by decide) (by decide +kernel) (by decide +kernel) (by decide +kernel) (fun _ _ _ h => h) (fun w hm => Mem.keep _ hm) (qv_q rfl (q_ext rfl rfl)) ?_
          refine hb_take 7 rfl (by decide) (by decide +kernel) (by decide +kernel) (by decide +kernel) (fun _ _ _ h => h) (fun w hm => Mem.keep _ hm) (qv_q rfl (q_ext rfl rfl)) ?_
          refine hb_1 9 (by decide +kernel) rfl ?_
          refine hl_storeA 12 rfl rfl rfl rfl rfl (chV_one hu134) ?_
          refine hl_nil ?_
          refine hx_hb (fun w hm => Mem.keep _ hm) ?_
          refine hb_take 10 rfl (by decide) (by decide +kernel) (by decide +kernel) (by decide +kernel) (fun _ _ _ h => h) (fun w hm => Mem.keep _ hm) (qv_q rfl (q_assign rfl)) ?_
          refine hb_end (by decide +kernel) ?_
          exact hx_joinE (b130, u131, vs132) ⟨hl133, hu134⟩ (by simp [Env.le, Env.at, envOf]) (fun w hm => hm.pick [0, 1, 2, 3, 4, 5, 6, 7, 8, 9, 13, 12] (by decide) rfl)
      · skip
        refine hl_alloc (by decide) (fun b135 => ?_)
        refine hl_nil ?_
        refine hx_hb (fun w hm => Mem.keep _ hm) ?_
        refine hb_1 3 (by decide +kernel) rfl ?_
        refine hl_call (by decide) (fun w hm => toMaps_c st1 tot1 v1 ks1 xss1 _ w (hr1.up hm.below) hsmr5) rfl ?_
        rintro _ _ ⟨u136, vs137, rfl, rfl, hl138, hu139⟩
        refine hl_nil ?_
        refine hx_hb (fun w hm => Mem.keep _ hm) ?_
        refine hb_1 4 (by decide +kernel) rfl ?_
        refine hl_call (by decide) (fun w hm => implThenMaps_c st0 tot0 u117 ks0 xss0 _ st1 tot1 u136 ks1 xss1 _ w (hm.rdM 10 rfl hl119 hr0.len) (hm.rdM 12 rfl hl138 hr1.len)) rfl ?_
        rintro _ _ ⟨u140, vs141, rfl, rfl, hl142, hu143⟩
        refine hl_nil ?_
        refine hx_hb (fun w hm => Mem.keep _ hm) ?_
        refine hb_take 5 rfl (by decide) (by decide +kernel) (by decide +kernel) (by decide +kernel) (fun _ _ _ h => h) (fun w hm => Mem.keep _ hm) (qv_q rfl (q_move rfl)) ?_
        refine hb_take 6 rfl (by decide) (by decide +kernel) (by decide +kernel) (by decide +kernel) (fun _ _ _ h => h) (fun w hm => Mem.keep _ hm) (qv_q rfl (q_ext rfl rfl)) ?_
        refine hb_take 7 rfl (by decide) (by decide +kernel) (by decide +kernel) (by decide +kernel) (fun _ _ _ h => h) (fun w hm => Mem.keep _ hm) (qv_q rfl (q_ext rfl rfl)) ?_
        refine hb_1 9 (by decide +kernel) rfl ?_
        refine hl_storeA 11 rfl rfl rfl rfl rfl (chV_one hu143) ?_
        refine hl_nil ?_
        refine hx_hb (fun w hm => Mem.keep _ hm) ?_
        refine hb_take 10 rfl (by decide) (by decide +kernel) (by decide +kernel) (by decide +kernel) (fun _ _ _ h => h) (fun w hm => Mem.keep _ hm) (qv_q rfl (q_assign rfl)) ?_
        refine hb_end (by decide +kernel) ?_
        exact hx_joinE (b135, u140, vs141) ⟨hl142, hu143⟩ (by simp [Env.le, Env.at, envOf]) (fun w hm => hm.pick [0, 1, 2, 3, 4, 5, 6, 7, 8, 9, 13, 11] (by decide) rfl)
    · skip
      refine hl_alloc (by decide) (fun b144 => ?_)
      refine hl_nil ?_
      refine hx_hb (fun w hm => Mem.keep _ hm) ?_
      refine hb_1 1 (by decide +kernel) rfl ?_
      refine hl_call (by decide) (fun w hm => toMaps_c st0 tot0 v0 ks0 xss0 _ w (hr0.up hm.below) hsmr4) rfl ?_
      rintro _ _ ⟨u145, vs146, rfl, rfl, hl147, hu148⟩
      refine hl_nil ?_
      refine hx_hb (fun w hm => Mem.keep _ hm) ?_
      refine hb_1 3 (by decide +kernel) rfl ?_
      refine hl_call (by decide) (fun w hm => toMaps_c st1 tot1 v1 ks1 xss1 _ w (hr1.up hm.below) hsmr5) rfl ?_
      rintro _ _ ⟨u149, vs150, rfl, rfl, hl151, hu152⟩
      refine hl_nil ?_
      refine hx_hb (fun w hm => Mem.keep _ hm) ?_
      refine hb_1 4 (by decide +kernel) rfl ?_
      refine hl_call (by decide) (fun w hm => implThenMaps_c st0 tot0 u145 ks0 xss0 _ st1 tot1 u149 ks1 xss1 _ w (hm.rdM 11 rfl hl147 hr0.len) (hm.rdM 12 rfl hl151 hr1.len)) rfl ?_
      rintro _ _ ⟨u153, vs154, rfl, rfl, hl155, hu156⟩
      refine hl_nil ?_
      refine hx_hb (fun w hm => Mem.keep _ hm) ?_
      refine hb_take 5 rfl (by decide) (by decide +kernel) (by decide +kernel) (by decide +kernel) (fun _ _ _ h => h) (fun w hm => Mem.keep _ hm) (qv_q rfl (q_move rfl)) ?_
      refine hb_take 6 rfl (by decide) (by decide +kernel) (by decide +kernel) (by decide +kernel) (fun _ _ _ h => h) (fun w hm => Mem.keep _ hm) (qv_q rfl (q_ext rfl rfl)) ?_
      refine hb_take 7 rfl (by decide) (by decide +kernel) (by decide +kernel) (by decide +kernel) (fun _ _ _ h => h) (fun w hm => Mem.keep _ hm) (qv_q rfl (q_ext rfl rfl)) ?_
      refine hb_1 9 (by decide +kernel) rfl ?_
      refine hl_storeA 10 rfl rfl rfl rfl rfl (chV_one hu156) ?_
      refine hl_nil ?_
      refine hx_hb (fun w hm => Mem.keep _ hm) ?_
      refine hb_take 10 rfl (by decide) (by decide +kernel) (by decide +kernel) (by decide +kernel) (fun _ _ _ h => h) (fun w hm => Mem.keep _ hm) (qv_q rfl (q_assign rfl)) ?_
      refine hb_end (by decide +kernel) ?_
      exact hx_joinE (b144, u153, vs154) ⟨hl155, hu156⟩ (by simp [Env.le, Env.at, envOf]) (fun w hm => hm.pick [0, 1, 2, 3, 4, 5, 6, 7, 8, 9, 13, 10] (by decide) rfl)
  rintro ⟨b112, u113, vs114⟩ ⟨hl115, hu116⟩
  dsimp only at hl115 hu116 ⊢
  have nq156 : ¬ (((1 : Int) + (((markLen (thM st0 tot0 ks0 xss0 st1 tot1 ks1 xss1).xss) : Nat) : Int)) ≠ ((1 : Int) + (((markLen (thM st0 tot0 ks0 xss0 st1 tot1 ks1 xss1).xss) : Nat) : Int))) := fun h => h rfl
  repeat' (first | refine hl_a ?_ | refine hq_a ?_ | refine hl_nil ?_ | refine hq_nil ?_ | refine hq_ga ?_ | refine hq_sk ?_ | refine hq_su ?_ | refine hq_gT ?_ | refine hq_gF ?_ | refine hq_gd (fun h => ?_) (fun h => ?_) | refine hl_ga ?_ | refine hl_sk ?_ | refine hl_su ?_ | refine hl_gT ?_ | refine hl_gF ?_ | refine hl_gd (fun h => ?_) (fun h => ?_) | refine hx_next ?_ | refine hw_seq ?_ | refine hw_region ?_ | refine hw_dr ?_ | refine hw_block ?_ | refine hx_block ?_ | refine hw_tt ?_ | refine hw_ff ?_ | refine hw_iT ?_ | refine hw_iF ?_ | refine hw_skip ?_ | refine hw_ret ?_ | refine hw_exit ?_ | refine hx_then_ret ?_ | refine hx_block_ret ?_ | refine hx_then_exit ?_ | refine hx_block_here ?_ | refine hx_far ?_ | refine hx_any ?_ | (apply ha_end; decide +kernel) | (apply hl_q; decide; (first | exact q_loadB 4 rfl rfl rfl | exact q_loadB 5 rfl rfl rfl | exact q_loadB 6 rfl rfl rfl | exact q_loadB 7 rfl rfl rfl | exact q_loadB 8 rfl rfl rfl | exact q_loadB 9 rfl rfl rfl | exact q_loadB 10 rfl rfl rfl | exact q_loadB 11 rfl rfl rfl | exact q_call (fun w hm => (eqMaps_c (thM st0 tot0 ks0 xss0 st1 tot1 ks1 xss1).st (thM st0 tot0 ks0 xss0 st1 tot1 ks1 xss1).tot (thM st0 tot0 ks0 xss0 st1 tot1 ks1 xss1).st (thM st0 tot0 ks0 xss0 st1 tot1 ks1 xss1).tot _ _ _ _ _ _ _ _ w (hm.rdM 10 rfl hl115 (thM_len _ _ _ _ _ _ _ _)) (hm.rdM 2 rfl hl22 (thM_len _ _ _ _ _ _ _ _))).tt ⟨rfl, rfl, rfl, rfl⟩) rfl | exact q_call (fun w hm => heldMaps_c (thM st0 tot0 ks0 xss0 st1 tot1 ks1 xss1).st (thM st0 tot0 ks0 xss0 st1 tot1 ks1 xss1).tot u74 (thM st0 tot0 ks0 xss0 st1 tot1 ks1 xss1).ks (thM st0 tot0 ks0 xss0 st1 tot1 ks1 xss1).xss _ 1 (by omega) (by omega) hsmM (thM_len _ _ _ _ _ _ _ _) w (hm.rdMk 8 rfl hl76 (thM_len _ _ _ _ _ _ _ _))) rfl)) | (apply hq_q; decide; (first | exact q_loadB 4 rfl rfl rfl | exact q_loadB 5 rfl rfl rfl | exact q_loadB 6 rfl rfl rfl | exact q_loadB 7 rfl rfl rfl | exact q_loadB 8 rfl rfl rfl | exact q_loadB 9 rfl rfl rfl | exact q_loadB 10 rfl rfl rfl | exact q_loadB 11 rfl rfl rfl | exact q_call (fun w hm => (eqMaps_c (thM st0 tot0 ks0 xss0 st1 tot1 ks1 xss1).st (thM st0 tot0 ks0 xss0 st1 tot1 ks1 xss1).tot (thM st0 tot0 ks0 xss0 st1 tot1 ks1 xss1).st (thM st0 tot0 ks0 xss0 st1 tot1 ks1 xss1).tot _ _ _ _ _ _ _ _ w (hm.rdM 10 rfl hl115 (thM_len _ _ _ _ _ _ _ _)) (hm.rdM 2 rfl hl22 (thM_len _ _ _ _ _ _ _ _))).tt ⟨rfl, rfl, rfl, rfl⟩) rfl | exact q_call (fun w hm => heldMaps_c (thM st0 tot0 ks0 xss0 st1 tot1 ks1 xss1).st (thM st0 tot0 ks0 xss0 st1 tot1 ks1 xss1).tot u74 (thM st0 tot0 ks0 xss0 st1 tot1 ks1 xss1).ks (thM st0 tot0 ks0 xss0 st1 tot1 ks1 xss1).xss _ 1 (by omega) (by omega) hsmM (thM_len _ _ _ _ _ _ _ _) w (hm.rdMk 8 rfl hl76 (thM_len _ _ _ _ _ _ _ _))) rfl)) | (apply hq_g; rfl; rfl; decide; (first | exact q_loadB 4 rfl rfl rfl | exact q_loadB 5 rfl rfl rfl | exact q_loadB 6 rfl rfl rfl | exact q_loadB 7 rfl rfl rfl | exact q_loadB 8 rfl rfl rfl | exact q_loadB 9 rfl rfl rfl | exact q_loadB 10 rfl rfl rfl | exact q_loadB 11 rfl rfl rfl | exact q_call (fun w hm => (eqMaps_c (thM st0 tot0 ks0 xss0 st1 tot1 ks1 xss1).st (thM st0 tot0 ks0 xss0 st1 tot1 ks1 xss1).tot (thM st0 tot0 ks0 xss0 st1 tot1 ks1 xss1).st (thM st0 tot0 ks0 xss0 st1 tot1 ks1 xss1).tot _ _ _ _ _ _ _ _ w (hm.rdM 10 rfl hl115 (thM_len _ _ _ _ _ _ _ _)) (hm.rdM 2 rfl hl22 (thM_len _ _ _ _ _ _ _ _))).tt ⟨rfl, rfl, rfl, rfl⟩) rfl | exact q_call (fun w hm => heldMaps_c (thM st0 tot0 ks0 xss0 st1 tot1 ks1 xss1).st (thM st0 tot0 ks0 xss0 st1 tot1 ks1 xss1).tot u74 (thM st0 tot0 ks0 xss0 st1 tot1 ks1 xss1).ks (thM st0 tot0 ks0 xss0 st1 tot1 ks1 xss1).xss _ 1 (by omega) (by omega) hsmM (thM_len _ _ _ _ _ _ _ _) w (hm.rdMk 8 rfl hl76 (thM_len _ _ _ _ _ _ _ _))) rfl)) | (apply hl_g; rfl; rfl; decide; (first | exact q_loadB 4 rfl rfl rfl | exact q_loadB 5 rfl rfl rfl | exact q_loadB 6 rfl rfl rfl | exact q_loadB 7 rfl rfl rfl | exact q_loadB 8 rfl rfl rfl | exact q_loadB 9 rfl rfl rfl | exact q_loadB 10 rfl rfl rfl | exact q_loadB 11 rfl rfl rfl | exact q_call (fun w hm => (eqMaps_c (thM st0 tot0 ks0 xss0 st1 tot1 ks1 xss1).st (thM st0 tot0 ks0 xss0 st1 tot1 ks1 xss1).tot (thM st0 tot0 ks0 xss0 st1 tot1 ks1 xss1).st (thM st0 tot0 ks0 xss0 st1 tot1 ks1 xss1).tot _ _ _ _ _ _ _ _ w (hm.rdM 10 rfl hl115 (thM_len _ _ _ _ _ _ _ _)) (hm.rdM 2 rfl hl22 (thM_len _ _ _ _ _ _ _ _))).tt ⟨rfl, rfl, rfl, rfl⟩) rfl | exact q_call (fun w hm => heldMaps_c (thM st0 tot0 ks0 xss0 st1 tot1 ks1 xss1).st (thM st0 tot0 ks0 xss0 st1 tot1 ks1 xss1).tot u74 (thM st0 tot0 ks0 xss0 st1 tot1 ks1 xss1).ks (thM st0 tot0 ks0 xss0 st1 tot1 ks1 xss1).xss _ 1 (by omega) (by omega) hsmM (thM_len _ _ _ _ _ _ _ _) w (hm.rdMk 8 rfl hl76 (thM_len _ _ _ _ _ _ _ _))) rfl)))
  exact hx_ret1 rfl rfl (fun w hm => ⟨rfl, hm.none⟩)

set_option maxRecDepth 100000 in
theorem lifted (os : Os) (started : os.Started) (H : Type) (enc : TypeId × Value → H) : ReturnsInHanded {} Try.checked os 4 .any (Rows.fnExactThenMapsSpec.pre6 enc Try.prog Try.f4 Rows.fnExactThenMapsRow.domain false) (Rows.fnExactThenMapsSpec.post enc Try.prog Try.f4 false true false false) := by
  refine returnsInHanded_of_change (C := Try.checked) own started (by kernel_rfl) Try.func4 (ChangeSpec.witness6 (enc := enc) (C := Try.checked) false ⟨#[], #[.agg #[.int .i64 0, .int .i64 0, .slice none 0 0], .agg #[.int .i64 0, .int .i64 0, .slice none 0 0]], []⟩ 8 (by kernel_rfl) (by kernel_rfl) (by kernel_rfl) (by kernel_rfl)) ?_
  intro W base args ds gs before hval0 hW hcnd _
  have hval : ∀ (j : Nat) t v, Try.f4.params[j]? = some t → args[j]? = some v → Value.okWide Try.prog W .any base t v := hval0
  have hW' := hW
  obtain ⟨p, q, hA0, hV, rfl, hfz, hnd⟩ := hW
  have hA : DataW.TrodAll enc Try.prog W 0 (fun _ => true) true Try.f4.params.toList args.toList ds p := hA0
  rw [Try.params4] at hA hval
  obtain ⟨v0, vs0, d0, ds0, p0, q0, hargs, rfl, rfl, h0, r0⟩ := trodAll_cons hA
  obtain ⟨v1, vs1, d1, ds1, p1, q1, rfl, rfl, rfl, h1, r1⟩ := trodAll_cons r0
  obtain ⟨rfl, rfl, rfl⟩ := trodAll_nil r1
  obtain rfl : args = #[v0, v1] := by cases args; simp_all
  obtain ⟨st0, tot0, u0, ks0, xss0, row0, rfl, hst0, htot0, hr0, _⟩ := rd_maps Try.underlying24 (by kernel_rfl) (by kernel_rfl) Try.underlying2 Try.underlying2 Try.underlying22 Try.underlying115 (by kernel_rfl) rfl rfl (by kernel_rfl) (by kernel_rfl) Try.underlying2 Try.underlying26 (by kernel_rfl) Try.underlying2 (hval 0 24 v0 rfl rfl) h0
  obtain ⟨st1, tot1, u1, ks1, xss1, row1, rfl, hst1, htot1, hr1, _⟩ := rd_maps Try.underlying24 (by kernel_rfl) (by kernel_rfl) Try.underlying2 Try.underlying2 Try.underlying22 Try.underlying115 (by kernel_rfl) rfl rfl (by kernel_rfl) (by kernel_rfl) Try.underlying2 Try.underlying26 (by kernel_rfl) Try.underlying2 (hval 1 24 v1 rfl rfl) h1
  refine (walk st0 tot0 u0 ks0 xss0 row0 st1 tot1 u1 ks1 xss1 row1 W hr0 hr1).mono fun e W' ⟨he, hm⟩ => ⟨_, he, ?_⟩
  exact law_post laid (by rw [Try.params4]; intro t ht; simp at ht; subst ht <;> exact ⟨by kernel_rfl, by decide +kernel⟩) hW' rfl rfl Try.underlying4 rfl hm.below

theorem over : Rows.fnExactThenMapsRow.holds Try.pinned (OpenSpec.ofChange Rows.fnExactThenMapsSpec) := OpenClaim.holds_of_wide 4 Try.f4 rfl rfl rfl rfl rfl rfl rfl ⟨rfl, rfl, rfl, rfl, rfl⟩ rfl rfl rfl rfl rfl (by kernel_rfl) Try.func4 (by kernel_rfl) (of_decide_eq_true (by kernel_rfl)) (by unfold Func.isWrapper; first | (rw [if_pos (by decide +kernel)]; kernel_rfl) | (rw [if_neg (by decide +kernel)]; exact ⟨rfl, rfl⟩)) (fun os started H enc _ => lifted os started H enc)

theorem proved : Rows.FnExactThenMapsSaid := over
#print axioms proved
end Go.Proofs.Yteddlbgbakbpeaa.thenMaps
