/- FnExactStepByDraw: the program's StepByDraw answers as the reference's does, for all arguments; it leaves its arguments as they were. No condition. -/
import Derived.Test.YtkcjinibfkkboaaF9
import Derived.Test.YtkcjinibfkkboaaOpen
namespace Go.Proofs.Ytkcjinibfkkboaa.stepByDraw
open Go.Eng Go.RowKit Go.ChangeShapes Go.WideShapes Go.ChangeAt
set_option linter.unusedVariables false

theorem own : ownKnob Try.prog.godebug = none := by kernel_rfl
theorem laid : laidOutB Try.prog = true := by kernel_rfl

set_option maxHeartbeats 4000000 in
theorem walk (st0 tot0 : Int) (v0 : Value) (xss0 : List (List Int)) (row0 : Nat → Value) (a1 : Int) (a2 : Int) (w : World) (hr0 : RdS (Value.int .i64) 0 w v0 xss0 row0) (ha1 : I64 a1) (ha2 : I64 a2) :
    Ret Try.prog 3 [chV st0 tot0 v0, .int .i64 a1, .int .i64 a2] w (.bool true) := by
  refine calls_hw Try.func3 Try.ntmps3 rfl rfl ?_
  have ne1 : ¬ ((sbdV st0 tot0 xss0 a1 a2) ≠ (sbdV st0 tot0 xss0 a1 a2)) := fun h => h rfl
  have ne2 : ¬ ((sbdC st0 tot0 xss0 a1 a2) ≠ (sbdC st0 tot0 xss0 a1 a2)) := fun h => h rfl
  repeat' (first | refine hl_a ?_ | refine hq_a ?_ | refine hl_nil ?_ | refine hq_nil ?_ | refine hq_ga ?_ | refine hq_sk ?_ | refine hq_su ?_ | refine hq_gT ?_ | refine hq_gF ?_ | refine hq_gd (fun h => ?_) (fun h => ?_) | refine hl_ga ?_ | refine hl_sk ?_ | refine hl_su ?_ | refine hl_gT ?_ | refine hl_gF ?_ | refine hl_gd (fun h => ?_) (fun h => ?_) | refine hx_next ?_ | refine hw_seq ?_ | refine hw_region ?_ | refine hw_dr ?_ | refine hw_block ?_ | refine hx_block ?_ | refine hw_tt ?_ | refine hw_ff ?_ | refine hw_iT ?_ | refine hw_iF ?_ | refine hw_skip ?_ | refine hw_ret ?_ | refine hw_exit ?_ | refine hx_then_ret ?_ | refine hx_block_ret ?_ | refine hx_then_exit ?_ | refine hx_block_here ?_ | refine hx_far ?_ | refine hx_any ?_ | (apply ha_end; decide +kernel))
  refine hl_box (by decide) rfl (fun b3 => ?_)
  repeat' (first | refine hl_a ?_ | refine hq_a ?_ | refine hl_nil ?_ | refine hq_nil ?_ | refine hq_ga ?_ | refine hq_sk ?_ | refine hq_su ?_ | refine hq_gT ?_ | refine hq_gF ?_ | refine hq_gd (fun h => ?_) (fun h => ?_) | refine hl_ga ?_ | refine hl_sk ?_ | refine hl_su ?_ | refine hl_gT ?_ | refine hl_gF ?_ | refine hl_gd (fun h => ?_) (fun h => ?_) | refine hx_next ?_ | refine hw_seq ?_ | refine hw_region ?_ | refine hw_dr ?_ | refine hw_block ?_ | refine hx_block ?_ | refine hw_tt ?_ | refine hw_ff ?_ | refine hw_iT ?_ | refine hw_iF ?_ | refine hw_skip ?_ | refine hw_ret ?_ | refine hw_exit ?_ | refine hx_then_ret ?_ | refine hx_block_ret ?_ | refine hx_then_exit ?_ | refine hx_block_here ?_ | refine hx_far ?_ | refine hx_any ?_ | (apply ha_end; decide +kernel))
  refine hl_call (by decide) (fun w hm => szChain_c st0 tot0 1048576 (by decide) (by decide) v0 xss0 _ w (hr0.up hm.below)) rfl ?_
  rintro _ _ ⟨rfl, r4, rfl, hszr4⟩
  repeat' (first | refine hl_a ?_ | refine hq_a ?_ | refine hl_nil ?_ | refine hq_nil ?_ | refine hq_ga ?_ | refine hq_sk ?_ | refine hq_su ?_ | refine hq_gT ?_ | refine hq_gF ?_ | refine hq_gd (fun h => ?_) (fun h => ?_) | refine hl_ga ?_ | refine hl_sk ?_ | refine hl_su ?_ | refine hl_gT ?_ | refine hl_gF ?_ | refine hl_gd (fun h => ?_) (fun h => ?_) | refine hx_next ?_ | refine hw_seq ?_ | refine hw_region ?_ | refine hw_dr ?_ | refine hw_block ?_ | refine hx_block ?_ | refine hw_tt ?_ | refine hw_ff ?_ | refine hw_iT ?_ | refine hw_iF ?_ | refine hw_skip ?_ | refine hw_ret ?_ | refine hw_exit ?_ | refine hx_then_ret ?_ | refine hx_block_ret ?_ | refine hx_then_exit ?_ | refine hx_block_here ?_ | refine hx_far ?_ | refine hx_any ?_ | (apply ha_end; decide +kernel))
  refine hw_if rfl (fun h => ?_) (fun h => ?_)
  · repeat' (first | refine hl_a ?_ | refine hq_a ?_ | refine hl_nil ?_ | refine hq_nil ?_ | refine hq_ga ?_ | refine hq_sk ?_ | refine hq_su ?_ | refine hq_gT ?_ | refine hq_gF ?_ | refine hq_gd (fun h => ?_) (fun h => ?_) | refine hl_ga ?_ | refine hl_sk ?_ | refine hl_su ?_ | refine hl_gT ?_ | refine hl_gF ?_ | refine hl_gd (fun h => ?_) (fun h => ?_) | refine hx_next ?_ | refine hw_seq ?_ | refine hw_region ?_ | refine hw_dr ?_ | refine hw_block ?_ | refine hx_block ?_ | refine hw_tt ?_ | refine hw_ff ?_ | refine hw_iT ?_ | refine hw_iF ?_ | refine hw_skip ?_ | refine hw_ret ?_ | refine hw_exit ?_ | refine hx_then_ret ?_ | refine hx_block_ret ?_ | refine hx_then_exit ?_ | refine hx_block_here ?_ | refine hx_far ?_ | refine hx_any ?_ | (apply ha_end; decide +kernel))
    exact hx_ret1 rfl rfl (fun w hm => ⟨rfl, hm.none⟩)
  obtain ⟨har4, hbr4, hsmr4⟩ := hszr4.resolve_left (by omega)
  have hlenr4 := lens_small hsmr4
  repeat' (first | refine hl_a ?_ | refine hq_a ?_ | refine hl_nil ?_ | refine hq_nil ?_ | refine hq_ga ?_ | refine hq_sk ?_ | refine hq_su ?_ | refine hq_gT ?_ | refine hq_gF ?_ | refine hq_gd (fun h => ?_) (fun h => ?_) | refine hl_ga ?_ | refine hl_sk ?_ | refine hl_su ?_ | refine hl_gT ?_ | refine hl_gF ?_ | refine hl_gd (fun h => ?_) (fun h => ?_) | refine hx_next ?_ | refine hw_seq ?_ | refine hw_region ?_ | refine hw_dr ?_ | refine hw_block ?_ | refine hx_block ?_ | refine hw_tt ?_ | refine hw_ff ?_ | refine hw_iT ?_ | refine hw_iF ?_ | refine hw_skip ?_ | refine hw_ret ?_ | refine hw_exit ?_ | refine hx_then_ret ?_ | refine hx_block_ret ?_ | refine hx_then_exit ?_ | refine hx_block_here ?_ | refine hx_far ?_ | refine hx_any ?_ | (apply ha_end; decide +kernel))
  refine hl_call (by decide) (fun w hm => toChain_c st0 tot0 v0 xss0 _ w (hr0.up hm.below) hsmr4) rfl ?_
  rintro _ _ ⟨u5, vs6, rfl, rfl, hl7, hu8⟩
  repeat' (first | refine hl_a ?_ | refine hq_a ?_ | refine hl_nil ?_ | refine hq_nil ?_ | refine hq_ga ?_ | refine hq_sk ?_ | refine hq_su ?_ | refine hq_gT ?_ | refine hq_gF ?_ | refine hq_gd (fun h => ?_) (fun h => ?_) | refine hl_ga ?_ | refine hl_sk ?_ | refine hl_su ?_ | refine hl_gT ?_ | refine hl_gF ?_ | refine hl_gd (fun h => ?_) (fun h => ?_) | refine hx_next ?_ | refine hw_seq ?_ | refine hw_region ?_ | refine hw_dr ?_ | refine hw_block ?_ | refine hx_block ?_ | refine hw_tt ?_ | refine hw_ff ?_ | refine hw_iT ?_ | refine hw_iF ?_ | refine hw_skip ?_ | refine hw_ret ?_ | refine hw_exit ?_ | refine hx_then_ret ?_ | refine hx_block_ret ?_ | refine hx_then_exit ?_ | refine hx_block_here ?_ | refine hx_far ?_ | refine hx_any ?_ | (apply ha_end; decide +kernel) | (apply hl_q; decide; (first | exact q_call (fun w hm => specStepByDraw_c st0 tot0 u5 xss0 _ a1 a2 w (hm.rdS 1 rfl hl7 _) ha1 ha2) rfl)) | (apply hq_q; decide; (first | exact q_call (fun w hm => specStepByDraw_c st0 tot0 u5 xss0 _ a1 a2 w (hm.rdS 1 rfl hl7 _) ha1 ha2) rfl)) | (apply hq_g; rfl; rfl; decide; (first | exact q_call (fun w hm => specStepByDraw_c st0 tot0 u5 xss0 _ a1 a2 w (hm.rdS 1 rfl hl7 _) ha1 ha2) rfl)) | (apply hl_g; rfl; rfl; decide; (first | exact q_call (fun w hm => specStepByDraw_c st0 tot0 u5 xss0 _ a1 a2 w (hm.rdS 1 rfl hl7 _) ha1 ha2) rfl)))
  refine hl_call (by decide) (fun w hm => toChain_c st0 tot0 v0 xss0 _ w (hr0.up hm.below) hsmr4) rfl ?_
  rintro _ _ ⟨u9, vs10, rfl, rfl, hl11, hu12⟩
  repeat' (first | refine hl_a ?_ | refine hq_a ?_ | refine hl_nil ?_ | refine hq_nil ?_ | refine hq_ga ?_ | refine hq_sk ?_ | refine hq_su ?_ | refine hq_gT ?_ | refine hq_gF ?_ | refine hq_gd (fun h => ?_) (fun h => ?_) | refine hl_ga ?_ | refine hl_sk ?_ | refine hl_su ?_ | refine hl_gT ?_ | refine hl_gF ?_ | refine hl_gd (fun h => ?_) (fun h => ?_) | refine hx_next ?_ | refine hw_seq ?_ | refine hw_region ?_ | refine hw_dr ?_ | refine hw_block ?_ | refine hx_block ?_ | refine hw_tt ?_ | refine hw_ff ?_ | refine hw_iT ?_ | refine hw_iF ?_ | refine hw_skip ?_ | refine hw_ret ?_ | refine hw_exit ?_ | refine hx_then_ret ?_ | refine hx_block_ret ?_ | refine hx_then_exit ?_ | refine hx_block_here ?_ | refine hx_far ?_ | refine hx_any ?_ | (apply ha_end; decide +kernel))
  refine hl_alloc (by decide) (fun b13 => ?_)
  repeat' (first | refine hl_a ?_ | refine hq_a ?_ | refine hl_nil ?_ | refine hq_nil ?_ | refine hq_ga ?_ | refine hq_sk ?_ | refine hq_su ?_ | refine hq_gT ?_ | refine hq_gF ?_ | refine hq_gd (fun h => ?_) (fun h => ?_) | refine hl_ga ?_ | refine hl_sk ?_ | refine hl_su ?_ | refine hl_gT ?_ | refine hl_gF ?_ | refine hl_gd (fun h => ?_) (fun h => ?_) | refine hx_next ?_ | refine hw_seq ?_ | refine hw_region ?_ | refine hw_dr ?_ | refine hw_block ?_ | refine hx_block ?_ | refine hw_tt ?_ | refine hw_ff ?_ | refine hw_iT ?_ | refine hw_iF ?_ | refine hw_skip ?_ | refine hw_ret ?_ | refine hw_exit ?_ | refine hx_then_ret ?_ | refine hx_block_ret ?_ | refine hx_then_exit ?_ | refine hx_block_here ?_ | refine hx_far ?_ | refine hx_any ?_ | (apply ha_end; decide +kernel))
  refine hl_storeA 3 rfl rfl rfl rfl rfl (chV_one hu12) ?_
  repeat' (first | refine hl_a ?_ | refine hq_a ?_ | refine hl_nil ?_ | refine hq_nil ?_ | refine hq_ga ?_ | refine hq_sk ?_ | refine hq_su ?_ | refine hq_gT ?_ | refine hq_gF ?_ | refine hq_gd (fun h => ?_) (fun h => ?_) | refine hl_ga ?_ | refine hl_sk ?_ | refine hl_su ?_ | refine hl_gT ?_ | refine hl_gF ?_ | refine hl_gd (fun h => ?_) (fun h => ?_) | refine hx_next ?_ | refine hw_seq ?_ | refine hw_region ?_ | refine hw_block ?_ | refine hx_block ?_ | refine hw_tt ?_ | refine hw_ff ?_ | refine hw_iT ?_ | refine hw_iF ?_ | refine hw_skip ?_ | refine hw_ret ?_ | refine hw_exit ?_ | refine hx_then_ret ?_ | refine hx_block_ret ?_ | refine hx_then_exit ?_ | refine hx_block_here ?_ | refine hx_far ?_ | refine hx_any ?_ | (apply ha_end; decide +kernel) | (apply hl_q; decide; (first | exact q_call (fun w hm => implStepByDraw_c st0 tot0 u9 xss0 _ a1 a2 w (hm.rdS 2 rfl hl11 _) ha1 ha2) rfl)) | (apply hq_q; decide; (first | exact q_call (fun w hm => implStepByDraw_c st0 tot0 u9 xss0 _ a1 a2 w (hm.rdS 2 rfl hl11 _) ha1 ha2) rfl)) | (apply hq_g; rfl; rfl; decide; (first | exact q_call (fun w hm => implStepByDraw_c st0 tot0 u9 xss0 _ a1 a2 w (hm.rdS 2 rfl hl11 _) ha1 ha2) rfl)) | (apply hl_g; rfl; rfl; decide; (first | exact q_call (fun w hm => implStepByDraw_c st0 tot0 u9 xss0 _ a1 a2 w (hm.rdS 2 rfl hl11 _) ha1 ha2) rfl)))
  refine hw_heldE (σ := Unit) [rBlk b3 (chV st0 tot0 v0).cells 24, rRows 34 2 (Value.int .i64) u5 vs6 xss0, rRows 34 2 (Value.int .i64) u9 vs10 xss0, rBlk b13 #[.int .i64 st0, .int .i64 tot0, u9] 28] (fun _ => [(47, .bool false)]) (fun _ => [rBlk b3 (chV st0 tot0 v0).cells 24, rRows 34 2 (Value.int .i64) u5 vs6 xss0, rRows 34 2 (Value.int .i64) u9 vs10 xss0, rBlk b13 #[.int .i64 st0, .int .i64 tot0, u9] 28]) (fun _ => True) (by kernel_rfl) ?_ ?_
  · skip
    refine hb_take 0 rfl (by decide) (by decide +kernel) (by decide +kernel) (by decide +kernel) (fun _ _ _ h => h) (fun w hm => Mem.keep _ hm) (qv_q rfl (q_loadB 3 rfl rfl rfl)) ?_
    refine hb_take 1 rfl (by decide) (by decide +kernel) (by decide +kernel) (by decide +kernel) (fun _ _ _ h => h) (fun w hm => Mem.keep _ hm) (qv_q rfl (q_loadB 0 rfl rfl rfl)) ?_
    refine hb_1 2 (by decide +kernel) rfl ?_
    refine hl_call (by decide) (fun w hm => toChain_c st0 tot0 v0 xss0 _ w (hr0.up hm.below) hsmr4) rfl ?_
    rintro _ _ ⟨u18, vs19, rfl, rfl, hl20, hu21⟩
    refine hl_nil ?_
    refine hx_hb (fun w hm => Mem.keep _ hm) ?_
    refine hb_1 3 (by decide +kernel) rfl ?_
    refine hl_q (by decide) (q_call (fun w hm => (eqChain_c st0 tot0 st0 tot0 _ _ _ _ _ _ w (hm.rdS 2 rfl hl11 _) (hm.rdS 4 rfl hl20 _)).tt ⟨rfl, rfl, rfl⟩) rfl) ?_
    refine hl_nil ?_
    refine hx_hb (fun w hm => Mem.keep _ hm) ?_
    refine hb_take 4 rfl (by decide) (by decide +kernel) (by decide +kernel) (by decide +kernel) (fun _ _ _ h => h) (fun w hm => Mem.keep _ hm) (qv_q rfl (q_not rfl)) ?_
    refine hb_end (by decide +kernel) ?_
    exact hx_joinE () trivial (by simp [Env.le, Env.at]) (fun w hm => Mem.keep _ hm)
  intro _ _
  repeat' (first | refine hl_a ?_ | refine hq_a ?_ | refine hl_nil ?_ | refine hq_nil ?_ | refine hq_ga ?_ | refine hq_sk ?_ | refine hq_su ?_ | refine hq_gT ?_ | refine hq_gF ?_ | refine hq_gd (fun h => ?_) (fun h => ?_) | refine hl_ga ?_ | refine hl_sk ?_ | refine hl_su ?_ | refine hl_gT ?_ | refine hl_gF ?_ | refine hl_gd (fun h => ?_) (fun h => ?_) | refine hx_next ?_ | refine hw_seq ?_ | refine hw_region ?_ | refine hw_dr ?_ | refine hw_block ?_ | refine hx_block ?_ | refine hw_tt ?_ | refine hw_ff ?_ | refine hw_iT ?_ | refine hw_iF ?_ | refine hw_skip ?_ | refine hw_ret ?_ | refine hw_exit ?_ | refine hx_then_ret ?_ | refine hx_block_ret ?_ | refine hx_then_exit ?_ | refine hx_block_here ?_ | refine hx_far ?_ | refine hx_any ?_ | (apply ha_end; decide +kernel))
  exact hx_ret1 rfl rfl (fun w hm => ⟨rfl, hm.none⟩)

set_option maxRecDepth 100000 in
theorem lifted (os : Os) (started : os.Started) (H : Type) (enc : TypeId × Value → H) : ReturnsInHanded {} Try.checked os 3 .any (Rows.fnExactStepByDrawSpec.pre6 enc Try.prog Try.f3 Rows.fnExactStepByDrawRow.domain false) (Rows.fnExactStepByDrawSpec.post enc Try.prog Try.f3 false true false false) := by
  refine returnsInHanded_of_change (C := Try.checked) own started (by kernel_rfl) Try.func3 (ChangeSpec.witness6 (enc := enc) (C := Try.checked) false ⟨#[], #[.agg #[.int .i64 0, .int .i64 0, .slice none 0 0], .int .i64 0, .int .i64 0], []⟩ 8 (by kernel_rfl) (by kernel_rfl) (by kernel_rfl) (by kernel_rfl)) ?_
  intro W base args ds gs before hval0 hW hcnd _
  have hval : ∀ (j : Nat) t v, Try.f3.params[j]? = some t → args[j]? = some v → Value.okWide Try.prog W .any base t v := hval0
  have hW' := hW
  obtain ⟨p, q, hA0, hV, rfl, hfz, hnd⟩ := hW
  have hA : DataW.TrodAll enc Try.prog W 0 (fun _ => true) true Try.f3.params.toList args.toList ds p := hA0
  rw [Try.params3] at hA hval
  obtain ⟨v0, vs0, d0, ds0, p0, q0, hargs, rfl, rfl, h0, r0⟩ := trodAll_cons hA
  obtain ⟨v1, vs1, d1, ds1, p1, q1, rfl, rfl, rfl, h1, r1⟩ := trodAll_cons r0
  obtain ⟨v2, vs2, d2, ds2, p2, q2, rfl, rfl, rfl, h2, r2⟩ := trodAll_cons r1
  obtain ⟨rfl, rfl, rfl⟩ := trodAll_nil r2
  obtain rfl : args = #[v0, v1, v2] := by cases args; simp_all
  obtain ⟨st0, tot0, u0, xss0, row0, rfl, hst0, htot0, hr0, _⟩ := rd_chain Try.underlying24 (by kernel_rfl) (by kernel_rfl) Try.underlying2 Try.underlying2 Try.underlying22 (by kernel_rfl) Try.underlying34 (by kernel_rfl) Try.underlying2 (hval 0 24 v0 rfl rfl) h0
  obtain ⟨a1, rfl, _, _, ha1⟩ := open_int Try.underlying2 (hval 1 2 v1 rfl rfl) h1
  have ha1 : I64 a1 := by simpa [I64, Lit.wf, IntKind.min, IntKind.max, IntKind.signed, IntKind.bits] using ha1
  obtain ⟨a2, rfl, _, _, ha2⟩ := open_int Try.underlying2 (hval 2 2 v2 rfl rfl) h2
  have ha2 : I64 a2 := by simpa [I64, Lit.wf, IntKind.min, IntKind.max, IntKind.signed, IntKind.bits] using ha2
  refine (walk st0 tot0 u0 xss0 row0 a1 a2 W hr0 ha1 ha2).mono fun e W' ⟨he, hm⟩ => ⟨_, he, ?_⟩
  exact law_post laid (by rw [Try.params3]; intro t ht; simp at ht; rcases ht with rfl | rfl <;> exact ⟨by kernel_rfl, by decide +kernel⟩) hW' rfl rfl Try.underlying4 rfl hm.below

theorem over : Rows.fnExactStepByDrawRow.holds Try.pinned (OpenSpec.ofChange Rows.fnExactStepByDrawSpec) := OpenClaim.holds_of_wide 3 Try.f3 rfl rfl rfl rfl rfl rfl rfl ⟨rfl, rfl, rfl, rfl, rfl⟩ rfl rfl rfl rfl rfl (by kernel_rfl) Try.func3 (by kernel_rfl) (of_decide_eq_true (by kernel_rfl)) (by unfold Func.isWrapper; first | (rw [if_pos (by decide +kernel)]; kernel_rfl) | (rw [if_neg (by decide +kernel)]; exact ⟨rfl, rfl⟩)) (fun os started H enc _ => lifted os started H enc)

theorem proved : Rows.FnExactStepByDrawSaid := over
#print axioms proved
end Go.Proofs.Ytkcjinibfkkboaa.stepByDraw
