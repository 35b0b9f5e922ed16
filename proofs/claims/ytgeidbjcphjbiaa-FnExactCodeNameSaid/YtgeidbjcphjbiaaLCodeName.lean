/- FnExactCodeName: the program's CodeName answers as the reference's does, for all arguments; it leaves its arguments as they were. No condition. -/
import Derived.Test.YtgeidbjcphjbiaaF50
import Derived.Test.YtgeidbjcphjbiaaOpen
namespace Go.Proofs.Ytgeidbjcphjbiaa.codeName
open Go.Eng Go.RowKit Go.ChangeShapes Go.WideShapes Go.ChangeAt
set_option linter.unusedVariables false

theorem own : ownKnob Try.prog.godebug = none := by kernel_rfl
theorem laid : laidOutB Try.prog = true := by kernel_rfl

set_option maxHeartbeats 4000000 in
theorem walk (a0 : Int) (w : World) (ha0 : I64 a0) :
    Ret Try.prog 3 [.int .i64 a0] w (.bool true) := by
  refine calls_hw Try.func3 Try.ntmps3 rfl rfl ?_
  have ne1 : ¬ ((codeN a0) ≠ (codeN a0)) := fun h => h rfl
  repeat' (first | refine hl_a ?_ | refine hq_a ?_ | refine hl_nil ?_ | refine hq_nil ?_ | refine hq_ga ?_ | refine hq_sk ?_ | refine hq_su ?_ | refine hq_gT ?_ | refine hq_gF ?_ | refine hq_gd (fun h => ?_) (fun h => ?_) | refine hl_ga ?_ | refine hl_sk ?_ | refine hl_su ?_ | refine hl_gT ?_ | refine hl_gF ?_ | refine hl_gd (fun h => ?_) (fun h => ?_) | refine hx_next ?_ | refine hw_seq ?_ | refine hw_region ?_ | refine hw_dr ?_ | refine hw_block ?_ | refine hx_block ?_ | refine hw_tt ?_ | refine hw_ff ?_ | refine hw_iT ?_ | refine hw_iF ?_ | refine hw_skip ?_ | refine hw_ret ?_ | refine hw_exit ?_ | refine hx_then_ret ?_ | refine hx_block_ret ?_ | refine hx_then_exit ?_ | refine hx_block_here ?_ | refine hx_far ?_ | refine hx_any ?_ | (apply ha_end; decide +kernel) | (apply hl_q; decide; (first | exact q_call (fun w hm => specCodeName_c a0 w ha0) rfl | exact q_call (fun w hm => implCodeName_c a0 w ha0) rfl | (apply q_neS; rfl; rfl))) | (apply hq_q; decide; (first | exact q_call (fun w hm => specCodeName_c a0 w ha0) rfl | exact q_call (fun w hm => implCodeName_c a0 w ha0) rfl | (apply q_neS; rfl; rfl))) | (apply hq_g; rfl; rfl; decide; (first | exact q_call (fun w hm => specCodeName_c a0 w ha0) rfl | exact q_call (fun w hm => implCodeName_c a0 w ha0) rfl | (apply q_neS; rfl; rfl))) | (apply hl_g; rfl; rfl; decide; (first | exact q_call (fun w hm => specCodeName_c a0 w ha0) rfl | exact q_call (fun w hm => implCodeName_c a0 w ha0) rfl | (apply q_neS; rfl; rfl))))
  exact hx_ret1 rfl rfl (fun w hm => ⟨rfl, hm.none⟩)

set_option maxRecDepth 100000 in
theorem lifted (os : Os) (started : os.Started) (H : Type) (enc : TypeId × Value → H) : ReturnsInHanded {} Try.checked os 3 .any (Rows.fnExactCodeNameSpec.pre6 enc Try.prog Try.f3 Rows.fnExactCodeNameRow.domain false) (Rows.fnExactCodeNameSpec.post enc Try.prog Try.f3 false true false false) := by
  refine returnsInHanded_of_change (C := Try.checked) own started (by kernel_rfl) Try.func3 (ChangeSpec.witness6 (enc := enc) (C := Try.checked) false ⟨#[], #[.int .i64 0], []⟩ 8 (by kernel_rfl) (by kernel_rfl) (by kernel_rfl) (by kernel_rfl)) ?_
  intro W base args ds gs before hval0 hW hcnd _
  have hval : ∀ (j : Nat) t v, Try.f3.params[j]? = some t → args[j]? = some v → Value.okWide Try.prog W .any base t v := hval0
  have hW' := hW
  obtain ⟨p, q, hA0, hV, rfl, hfz, hnd⟩ := hW
  have hA : DataW.TrodAll enc Try.prog W 0 (fun _ => true) true Try.f3.params.toList args.toList ds p := hA0
  rw [Try.params3] at hA hval
  obtain ⟨v0, vs0, d0, ds0, p0, q0, hargs, rfl, rfl, h0, r0⟩ := trodAll_cons hA
  obtain ⟨rfl, rfl, rfl⟩ := trodAll_nil r0
  obtain rfl : args = #[v0] := by cases args; simp_all
  obtain ⟨a0, rfl, _, _, ha0⟩ := open_int Try.underlying2 (hval 0 2 v0 rfl rfl) h0
  have ha0 : I64 a0 := by simpa [I64, Lit.wf, IntKind.min, IntKind.max, IntKind.signed, IntKind.bits] using ha0
  refine (walk a0 W ha0).mono fun e W' ⟨he, hm⟩ => ⟨_, he, ?_⟩
  exact law_post laid (by rw [Try.params3]; intro t ht; simp at ht; subst ht <;> exact ⟨by kernel_rfl, by decide +kernel⟩) hW' rfl rfl Try.underlying4 rfl hm.below

theorem over : Rows.fnExactCodeNameRow.holds Try.pinned (OpenSpec.ofChange Rows.fnExactCodeNameSpec) := OpenClaim.holds_of_wide 3 Try.f3 rfl rfl rfl rfl rfl rfl rfl ⟨rfl, rfl, rfl, rfl, rfl⟩ rfl rfl rfl rfl rfl (by kernel_rfl) Try.func3 (by kernel_rfl) (of_decide_eq_true (by kernel_rfl)) (by unfold Func.isWrapper; first | (rw [if_pos (by decide +kernel)]; kernel_rfl) | (rw [if_neg (by decide +kernel)]; exact ⟨rfl, rfl⟩)) (fun os started H enc _ => lifted os started H enc)

theorem proved : Rows.FnExactCodeNameSaid := over
#print axioms proved
end Go.Proofs.Ytgeidbjcphjbiaa.codeName
