/- FnExactValidMaps: the program's ValidMaps answers as the reference's does, for all arguments; it leaves its arguments as they were. No condition. -/
import Derived.Test.YtcbdihlmnhaaiaaF8
import Derived.Test.YtcbdihlmnhaaiaaLibQ
import Derived.Test.YtcbdihlmnhaaiaaOpenM
namespace Go.Proofs.Ytcbdihlmnhaaiaa.validMaps
open Go.Eng Go.RowKit Go.ChangeShapes Go.WideShapes Go.ChangeAt
set_option linter.unusedVariables false

theorem own : ownKnob Try.prog.godebug = none := by kernel_rfl
theorem laid : laidOutB Try.prog = true := by kernel_rfl

set_option maxHeartbeats 4000000 in
theorem walk (st0 tot0 : Int) (v0 : Value) (ks0 : List Int) (xss0 : List (List Int)) (row0 : Nat → Value) (w : World) (hr0 : RdM w v0 ks0 xss0 row0) :
    Ret Try.prog 11 [chV st0 tot0 v0] w (.bool true) := by
  refine calls_hw Try.func11 Try.ntmps11 rfl rfl ?_
  have ne1 : ¬ ((decide (ValidM st0 tot0 ks0 xss0)) ≠ (decide (ValidM st0 tot0 ks0 xss0))) := fun h => h rfl
  repeat' (first | refine hl_a ?_ | refine hq_a ?_ | refine hl_nil ?_ | refine hq_nil ?_ | refine hq_ga ?_ | refine hq_sk ?_ | refine hq_su ?_ | refine hq_gT ?_ | refine hq_gF ?_ | refine hq_gd (fun h => ?_) (fun h => ?_) | refine hl_ga ?_ | refine hl_sk ?_ | refine hl_su ?_ | refine hl_gT ?_ | refine hl_gF ?_ | refine hl_gd (fun h => ?_) (fun h => ?_) | refine hx_next ?_ | refine hw_seq ?_ | refine hw_region ?_ | refine hw_dr ?_ | refine hw_block ?_ | refine hx_block ?_ | refine hw_tt ?_ | refine hw_ff ?_ | refine hw_iT ?_ | refine hw_iF ?_ | refine hw_skip ?_ | refine hw_ret ?_ | refine hw_exit ?_ | refine hx_then_ret ?_ | refine hx_block_ret ?_ | refine hx_then_exit ?_ | refine hx_block_here ?_ | refine hx_far ?_ | refine hx_any ?_ | (apply ha_end; decide +kernel))
  refine hl_box (by decide) rfl (fun b2 => ?_)
  repeat' (first | refine hl_a ?_ | refine hq_a ?_ | refine hl_nil ?_ | refine hq_nil ?_ | refine hq_ga ?_ | refine hq_sk ?_ | refine hq_su ?_ | refine hq_gT ?_ | refine hq_gF ?_ | refine hq_gd (fun h => ?_) (fun h => ?_) | refine hl_ga ?_ | refine hl_sk ?_ | refine hl_su ?_ | refine hl_gT ?_ | refine hl_gF ?_ | refine hl_gd (fun h => ?_) (fun h => ?_) | refine hx_next ?_ | refine hw_seq ?_ | refine hw_region ?_ | refine hw_dr ?_ | refine hw_block ?_ | refine hx_block ?_ | refine hw_tt ?_ | refine hw_ff ?_ | refine hw_iT ?_ | refine hw_iF ?_ | refine hw_skip ?_ | refine hw_ret ?_ | refine hw_exit ?_ | refine hx_then_ret ?_ | refine hx_block_ret ?_ | refine hx_then_exit ?_ | refine hx_block_here ?_ | refine hx_far ?_ | refine hx_any ?_ | (apply ha_end; decide +kernel))
  refine hl_call (by decide) (fun w hm => szMaps_c st0 tot0 1048576 (by decide) (by decide) v0 ks0 xss0 _ w (hr0.up hm.below)) rfl ?_
  rintro _ _ ⟨rfl, r3, rfl, hszr3⟩
  repeat' (first | refine hl_a ?_ | refine hq_a ?_ | refine hl_nil ?_ | refine hq_nil ?_ | refine hq_ga ?_ | refine hq_sk ?_ | refine hq_su ?_ | refine hq_gT ?_ | refine hq_gF ?_ | refine hq_gd (fun h => ?_) (fun h => ?_) | refine hl_ga ?_ | refine hl_sk ?_ | refine hl_su ?_ | refine hl_gT ?_ | refine hl_gF ?_ | refine hl_gd (fun h => ?_) (fun h => ?_) | refine hx_next ?_ | refine hw_seq ?_ | refine hw_region ?_ | refine hw_dr ?_ | refine hw_block ?_ | refine hx_block ?_ | refine hw_tt ?_ | refine hw_ff ?_ | refine hw_iT ?_ | refine hw_iF ?_ | refine hw_skip ?_ | refine hw_ret ?_ | refine hw_exit ?_ | refine hx_then_ret ?_ | refine hx_block_ret ?_ | refine hx_then_exit ?_ | refine hx_block_here ?_ | refine hx_far ?_ | refine hx_any ?_ | (apply ha_end; decide +kernel))
  refine hw_if rfl (fun h => ?_) (fun h => ?_)
  · repeat' (first | refine hl_a ?_ | refine hq_a ?_ | refine hl_nil ?_ | refine hq_nil ?_ | refine hq_ga ?_ | refine hq_sk ?_ | refine hq_su ?_ | refine hq_gT ?_ | refine hq_gF ?_ | refine hq_gd (fun h => ?_) (fun h => ?_) | refine hl_ga ?_ | refine hl_sk ?_ | refine hl_su ?_ | refine hl_gT ?_ | refine hl_gF ?_ | refine hl_gd (fun h => ?_) (fun h => ?_) | refine hx_next ?_ | refine hw_seq ?_ | refine hw_region ?_ | refine hw_dr ?_ | refine hw_block ?_ | refine hx_block ?_ | refine hw_tt ?_ | refine hw_ff ?_ | refine hw_iT ?_ | refine hw_iF ?_ | refine hw_skip ?_ | refine hw_ret ?_ | refine hw_exit ?_ | refine hx_then_ret ?_ | refine hx_block_ret ?_ | refine hx_then_exit ?_ | refine hx_block_here ?_ | refine hx_far ?_ | refine hx_any ?_ | (apply ha_end; decide +kernel))
    exact hx_ret1 rfl rfl (fun w hm => ⟨rfl, hm.none⟩)
  obtain ⟨har3, hbr3, hsmr3⟩ := hszr3.resolve_left (by omega)
  repeat' (first | refine hl_a ?_ | refine hq_a ?_ | refine hl_nil ?_ | refine hq_nil ?_ | refine hq_ga ?_ | refine hq_sk ?_ | refine hq_su ?_ | refine hq_gT ?_ | refine hq_gF ?_ | refine hq_gd (fun h => ?_) (fun h => ?_) | refine hl_ga ?_ | refine hl_sk ?_ | refine hl_su ?_ | refine hl_gT ?_ | refine hl_gF ?_ | refine hl_gd (fun h => ?_) (fun h => ?_) | refine hx_next ?_ | refine hw_seq ?_ | refine hw_region ?_ | refine hw_dr ?_ | refine hw_block ?_ | refine hx_block ?_ | refine hw_tt ?_ | refine hw_ff ?_ | refine hw_iT ?_ | refine hw_iF ?_ | refine hw_skip ?_ | refine hw_ret ?_ | refine hw_exit ?_ | refine hx_then_ret ?_ | refine hx_block_ret ?_ | refine hx_then_exit ?_ | refine hx_block_here ?_ | refine hx_far ?_ | refine hx_any ?_ | (apply ha_end; decide +kernel))
  refine hl_call (by decide) (fun w hm => toMaps_c st0 tot0 v0 ks0 xss0 _ w (hr0.up hm.below) hsmr3) rfl ?_
  rintro _ _ ⟨u4, vs5, rfl, rfl, hl6, hu7⟩
  repeat' (first | refine hl_a ?_ | refine hq_a ?_ | refine hl_nil ?_ | refine hq_nil ?_ | refine hq_ga ?_ | refine hq_sk ?_ | refine hq_su ?_ | refine hq_gT ?_ | refine hq_gF ?_ | refine hq_gd (fun h => ?_) (fun h => ?_) | refine hl_ga ?_ | refine hl_sk ?_ | refine hl_su ?_ | refine hl_gT ?_ | refine hl_gF ?_ | refine hl_gd (fun h => ?_) (fun h => ?_) | refine hx_next ?_ | refine hw_seq ?_ | refine hw_region ?_ | refine hw_dr ?_ | refine hw_block ?_ | refine hx_block ?_ | refine hw_tt ?_ | refine hw_ff ?_ | refine hw_iT ?_ | refine hw_iF ?_ | refine hw_skip ?_ | refine hw_ret ?_ | refine hw_exit ?_ | refine hx_then_ret ?_ | refine hx_block_ret ?_ | refine hx_then_exit ?_ | refine hx_block_here ?_ | refine hx_far ?_ | refine hx_any ?_ | (apply ha_end; decide +kernel) | (apply hl_q; decide; (first | exact q_call (fun w hm => specValidMaps_c st0 tot0 u4 ks0 xss0 _ w (hm.rdM 1 rfl hl6 hr0.len)) rfl)) | (apply hq_q; decide; (first | exact q_call (fun w hm => specValidMaps_c st0 tot0 u4 ks0 xss0 _ w (hm.rdM 1 rfl hl6 hr0.len)) rfl)) | (apply hq_g; rfl; rfl; decide; (first | exact q_call (fun w hm => specValidMaps_c st0 tot0 u4 ks0 xss0 _ w (hm.rdM 1 rfl hl6 hr0.len)) rfl)) | (apply hl_g; rfl; rfl; decide; (first | exact q_call (fun w hm => specValidMaps_c st0 tot0 u4 ks0 xss0 _ w (hm.rdM 1 rfl hl6 hr0.len)) rfl)))
  refine hl_call (by decide) (fun w hm => toMaps_c st0 tot0 v0 ks0 xss0 _ w (hr0.up hm.below) hsmr3) rfl ?_
  rintro _ _ ⟨u8, vs9, rfl, rfl, hl10, hu11⟩
  repeat' (first | refine hl_a ?_ | refine hq_a ?_ | refine hl_nil ?_ | refine hq_nil ?_ | refine hq_ga ?_ | refine hq_sk ?_ | refine hq_su ?_ | refine hq_gT ?_ | refine hq_gF ?_ | refine hq_gd (fun h => ?_) (fun h => ?_) | refine hl_ga ?_ | refine hl_sk ?_ | refine hl_su ?_ | refine hl_gT ?_ | refine hl_gF ?_ | refine hl_gd (fun h => ?_) (fun h => ?_) | refine hx_next ?_ | refine hw_seq ?_ | refine hw_region ?_ | refine hw_dr ?_ | refine hw_block ?_ | refine hx_block ?_ | refine hw_tt ?_ | refine hw_ff ?_ | refine hw_iT ?_ | refine hw_iF ?_ | refine hw_skip ?_ | refine hw_ret ?_ | refine hw_exit ?_ | refine hx_then_ret ?_ | refine hx_block_ret ?_ | refine hx_then_exit ?_ | refine hx_block_here ?_ | refine hx_far ?_ | refine hx_any ?_ | (apply ha_end; decide +kernel))
  refine hl_alloc (by decide) (fun b12 => ?_)
  repeat' (first | refine hl_a ?_ | refine hq_a ?_ | refine hl_nil ?_ | refine hq_nil ?_ | refine hq_ga ?_ | refine hq_sk ?_ | refine hq_su ?_ | refine hq_gT ?_ | refine hq_gF ?_ | refine hq_gd (fun h => ?_) (fun h => ?_) | refine hl_ga ?_ | refine hl_sk ?_ | refine hl_su ?_ | refine hl_gT ?_ | refine hl_gF ?_ | refine hl_gd (fun h => ?_) (fun h => ?_) | refine hx_next ?_ | refine hw_seq ?_ | refine hw_region ?_ | refine hw_dr ?_ | refine hw_block ?_ | refine hx_block ?_ | refine hw_tt ?_ | refine hw_ff ?_ | refine hw_iT ?_ | refine hw_iF ?_ | refine hw_skip ?_ | refine hw_ret ?_ | refine hw_exit ?_ | refine hx_then_ret ?_ | refine hx_block_ret ?_ | refine hx_then_exit ?_ | refine hx_block_here ?_ | refine hx_far ?_ | refine hx_any ?_ | (apply ha_end; decide +kernel))
  refine hl_storeA 3 rfl rfl rfl rfl rfl (chV_one hu11) ?_
  repeat' (first | refine hl_a ?_ | refine hq_a ?_ | refine hl_nil ?_ | refine hq_nil ?_ | refine hq_ga ?_ | refine hq_sk ?_ | refine hq_su ?_ | refine hq_gT ?_ | refine hq_gF ?_ | refine hq_gd (fun h => ?_) (fun h => ?_) | refine hl_ga ?_ | refine hl_sk ?_ | refine hl_su ?_ | refine hl_gT ?_ | refine hl_gF ?_ | refine hl_gd (fun h => ?_) (fun h => ?_) | refine hx_next ?_ | refine hw_seq ?_ | refine hw_region ?_ | refine hw_block ?_ | refine hx_block ?_ | refine hw_tt ?_ | refine hw_ff ?_ | refine hw_iT ?_ | refine hw_iF ?_ | refine hw_skip ?_ | refine hw_ret ?_ | refine hw_exit ?_ | refine hx_then_ret ?_ | refine hx_block_ret ?_ | refine hx_then_exit ?_ | refine hx_block_here ?_ | refine hx_far ?_ | refine hx_any ?_ | (apply ha_end; decide +kernel) | (apply hl_q; decide; (first | exact q_call (fun w hm => implValidMaps_c st0 tot0 u8 ks0 xss0 _ w (hm.rdM 2 rfl hl10 hr0.len)) rfl)) | (apply hq_q; decide; (first | exact q_call (fun w hm => implValidMaps_c st0 tot0 u8 ks0 xss0 _ w (hm.rdM 2 rfl hl10 hr0.len)) rfl)) | (apply hq_g; rfl; rfl; decide; (first | exact q_call (fun w hm => implValidMaps_c st0 tot0 u8 ks0 xss0 _ w (hm.rdM 2 rfl hl10 hr0.len)) rfl)) | (apply hl_g; rfl; rfl; decide; (first | exact q_call (fun w hm => implValidMaps_c st0 tot0 u8 ks0 xss0 _ w (hm.rdM 2 rfl hl10 hr0.len)) rfl)))
  refine hw_heldE (σ := Unit) [rBlk b2 (chV st0 tot0 v0).cells 56, rMaps 98 2 u4 vs5 ks0 xss0, rMaps 98 2 u8 vs9 ks0 xss0, rBlk b12 #[.int .i64 st0, .int .i64 tot0, u8] 61] (fun _ => [(26, .bool false)]) (fun _ => [rBlk b2 (chV st0 tot0 v0).cells 56, rMaps 98 2 u4 vs5 ks0 xss0, rMaps 98 2 u8 vs9 ks0 xss0, rBlk b12 #[.int .i64 st0, .int .i64 tot0, u8] 61]) (fun _ => True) (by kernel_rfl) ?_ ?_
  · skip
    refine hb_take 0 rfl (by decide) (by decide +kernel) (by decide +kernel) (by decide +kernel) (fun _ _ _ h => h) (fun w hm => Mem.keep _ hm) (qv_q rfl (q_loadB 3 rfl rfl rfl)) ?_
    refine hb_take 1 rfl (by decide) (by decide +kernel) (by decide +kernel) (by decide +kernel) (fun _ _ _ h => h) (fun w hm => Mem.keep _ hm) (qv_q rfl (q_loadB 0 rfl rfl rfl)) ?_
    refine hb_1 2 (by decide +kernel) rfl ?_
    refine hl_call (by decide) (fun w hm => toMaps_c st0 tot0 v0 ks0 xss0 _ w (hr0.up hm.below) hsmr3) rfl ?_
    rintro _ _ ⟨u17, vs18, rfl, rfl, hl19, hu20⟩
    refine hl_nil ?_
    refine hx_hb (fun w hm => Mem.keep _ hm) ?_
    refine hb_1 3 (by decide +kernel) rfl ?_
    refine hl_q (by decide) (q_call (fun w hm => (eqMaps_c st0 tot0 st0 tot0 _ _ _ _ _ _ _ _ w (hm.rdM 2 rfl hl10 hr0.len) (hm.rdM 4 rfl hl19 hr0.len)).tt ⟨rfl, rfl, rfl, rfl⟩) rfl) ?_
    refine hl_nil ?_
    refine hx_hb (fun w hm => Mem.keep _ hm) ?_
    refine hb_take 4 rfl (by decide) (by decide +kernel) (by decide +kernel) (by decide +kernel) (fun _ _ _ h => h) (fun w hm => Mem.keep _ hm) (qv_q rfl (q_not rfl)) ?_
    refine hb_end (by decide +kernel) ?_
    exact hx_joinE () trivial (by simp [Env.le, Env.at]) (fun w hm => Mem.keep _ hm)
  intro _ _
  repeat' (first | refine hl_a ?_ | refine hq_a ?_ | refine hl_nil ?_ | refine hq_nil ?_ | refine hq_ga ?_ | refine hq_sk ?_ | refine hq_su ?_ | refine hq_gT ?_ | refine hq_gF ?_ | refine hq_gd (fun h => ?_) (fun h => ?_) | refine hl_ga ?_ | refine hl_sk ?_ | refine hl_su ?_ | refine hl_gT ?_ | refine hl_gF ?_ | refine hl_gd (fun h => ?_) (fun h => ?_) | refine hx_next ?_ | refine hw_seq ?_ | refine hw_region ?_ | refine hw_dr ?_ | refine hw_block ?_ | refine hx_block ?_ | refine hw_tt ?_ | refine hw_ff ?_ | refine hw_iT ?_ | refine hw_iF ?_ | refine hw_skip ?_ | refine hw_ret ?_ | refine hw_exit ?_ | refine hx_then_ret ?_ | refine hx_block_ret ?_ | refine hx_then_exit ?_ | refine hx_block_here ?_ | refine hx_far ?_ | refine hx_any ?_ | (apply ha_end; decide +kernel))
  exact hx_ret1 rfl rfl (fun w hm => ⟨rfl, hm.none⟩)

set_option maxRecDepth 100000 in
theorem lifted (os : Os) (started : os.Started) (H : Type) (enc : TypeId × Value → H) : ReturnsInHanded {} Try.checked os 11 .any (Rows.fnExactValidMapsSpec.pre6 enc Try.prog Try.f11 Rows.fnExactValidMapsRow.domain false) (Rows.fnExactValidMapsSpec.post enc Try.prog Try.f11 false true false false) := by
  refine returnsInHanded_of_change (C := Try.checked) own started (by kernel_rfl) Try.func11 (ChangeSpec.witness6 (enc := enc) (C := Try.checked) false ⟨#[], #[.agg #[.int .i64 0, .int .i64 0, .slice none 0 0]], []⟩ 8 (by kernel_rfl) (by kernel_rfl) (by kernel_rfl) (by kernel_rfl)) ?_
  intro W base args ds gs before hval0 hW hcnd _
  have hval : ∀ (j : Nat) t v, Try.f11.params[j]? = some t → args[j]? = some v → Value.okWide Try.prog W .any base t v := hval0
  have hW' := hW
  obtain ⟨p, q, hA0, hV, rfl, hfz, hnd⟩ := hW
  have hA : DataW.TrodAll enc Try.prog W 0 (fun _ => true) true Try.f11.params.toList args.toList ds p := hA0
  rw [Try.params11] at hA hval
  obtain ⟨v0, vs0, d0, ds0, p0, q0, hargs, rfl, rfl, h0, r0⟩ := trodAll_cons hA
  obtain ⟨rfl, rfl, rfl⟩ := trodAll_nil r0
  obtain rfl : args = #[v0] := by cases args; simp_all
  obtain ⟨st0, tot0, u0, ks0, xss0, row0, rfl, hst0, htot0, hr0, _⟩ := rd_maps Try.underlying56 (by kernel_rfl) (by kernel_rfl) Try.underlying2 Try.underlying2 Try.underlying54 Try.underlying112 (by kernel_rfl) rfl rfl (by kernel_rfl) (by kernel_rfl) Try.underlying2 Try.underlying81 (by kernel_rfl) Try.underlying2 (hval 0 56 v0 rfl rfl) h0
  refine (walk st0 tot0 u0 ks0 xss0 row0 W hr0).mono fun e W' ⟨he, hm⟩ => ⟨_, he, ?_⟩
  exact law_post laid (by rw [Try.params11]; intro t ht; simp at ht; subst ht <;> exact ⟨by kernel_rfl, by decide +kernel⟩) hW' rfl rfl Try.underlying4 rfl hm.below

theorem over : Rows.fnExactValidMapsRow.holds Try.pinned (OpenSpec.ofChange Rows.fnExactValidMapsSpec) := OpenClaim.holds_of_wide 11 Try.f11 rfl rfl rfl rfl rfl rfl rfl ⟨rfl, rfl, rfl, rfl, rfl⟩ rfl rfl rfl rfl rfl (by kernel_rfl) Try.func11 (by kernel_rfl) (of_decide_eq_true (by kernel_rfl)) (by unfold Func.isWrapper; first | (rw [if_pos (by decide +kernel)]; kernel_rfl) | (rw [if_neg (by decide +kernel)]; exact ⟨rfl, rfl⟩)) (fun os started H enc _ => lifted os started H enc)

theorem proved : Rows.FnExactValidMapsSaid := over
#print axioms proved
end Go.Proofs.Ytcbdihlmnhaaiaa.validMaps
