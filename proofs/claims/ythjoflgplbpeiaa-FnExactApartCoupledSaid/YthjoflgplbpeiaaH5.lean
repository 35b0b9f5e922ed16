/- The laws' text: marks in chains; what functions hand back. -/
import Derived.Test.YthjoflgplbpeiaaH3
import Derived.Test.YthjoflgplbpeiaaLibJ
namespace Go.Proofs.Ythjoflgplbpeiaa
open Go.Eng Go.RowKit
set_option linter.unusedVariables false

/-- A chain (or a coupled chain) with a code. -/
structure ChM where
  st : Int
  tot : Int
  xss : List (List Int)
  code : Int
def ChOut (e1 e2 : TypeId) (m : ChM) (v : Value) (rs : List Res) : Prop :=
  ∃ (u : Value) (vs : List Value), v = .tuple #[chV m.st m.tot u, .int .i64 m.code] ∧ rs = [rRows e1 e2 (Value.int .i64) u vs m.xss] ∧ vs.length = m.xss.length ∧ SlOk u m.xss.length
/-- Numbers with a code. -/
def LsOut (e : TypeId) (xs : List Int) (code : Int) (v : Value) (rs : List Res) : Prop :=
  ∃ u : Value, v = .tuple #[u, .int .i64 code] ∧ rs = [rE e (Value.int .i64) u xs] ∧ SlOk u xs.length
/-- Lists of numbers with a code. -/
def L2Out (e1 e2 : TypeId) (xss : List (List Int)) (code : Int) (v : Value) (rs : List Res) : Prop :=
  ∃ (u : Value) (vs : List Value), v = .tuple #[u, .int .i64 code] ∧ rs = [rRows e1 e2 (Value.int .i64) u vs xss] ∧ vs.length = xss.length ∧ SlOk u xss.length

theorem lens_small {α : Type} {xss : List (List α)} (h : Small xss) : lens xss ≤ 1099511627776 := by
  have h1 := lens_le 1048576 xss h.2 xss.length (Nat.le_refl _)
  rw [List.take_length] at h1
  have h2 := Nat.mul_le_mul_left 1048576 h.1
  omega

theorem markChain_c (st tot : Int) (v : Value) (vs : List Value) (xss : List (List Int)) (k : Int) (h0 : 0 ≤ k) (h1 : k ≤ 1152921504606846976) (hsm : Small xss) (hl : vs.length = xss.length) :
    Mut Try.prog 31 [chV st tot v, .int .i64 k] (rRows 73 2 (Value.int .i64) v vs xss) fun v' r' => v' = .int .i64 (k + lens xss) ∧ r' = rRows 73 2 (Value.int .i64) v vs (mkS (fun k : Int => k) k xss) := by
  refine mut_hw Try.func31 Try.ntmps31 rfl rfl (fun w0 F => ?_)
  repeat' (first | refine hl_a ?_ | refine hq_a ?_ | refine hl_nil ?_ | refine hq_nil ?_ | refine hq_ga ?_ | refine hq_sk ?_ | refine hq_su ?_ | refine hq_gT ?_ | refine hq_gF ?_ | refine hq_gd (fun h => ?_) (fun h => ?_) | refine hl_ga ?_ | refine hl_sk ?_ | refine hl_su ?_ | refine hl_gT ?_ | refine hl_gF ?_ | refine hl_gd (fun h => ?_) (fun h => ?_) | refine hx_next ?_ | refine hw_seq ?_ | refine hw_region ?_ | refine hw_dr ?_ | refine hw_block ?_ | refine hx_block ?_ | refine hw_tt ?_ | refine hw_ff ?_ | refine hw_iT ?_ | refine hw_iF ?_ | refine hw_skip ?_ | refine hw_ret ?_ | refine hw_exit ?_ | refine hx_then_ret ?_ | refine hx_block_ret ?_ | refine hx_then_exit ?_ | refine hx_block_here ?_ | refine hx_far ?_ | refine hx_any ?_ | (apply ha_end; decide +kernel))
  refine hl_box (by decide) rfl (fun b => ?_)
  repeat' (first | refine hl_a ?_ | refine hq_a ?_ | refine hl_nil ?_ | refine hq_nil ?_ | refine hq_ga ?_ | refine hq_sk ?_ | refine hq_su ?_ | refine hq_gT ?_ | refine hq_gF ?_ | refine hq_gd (fun h => ?_) (fun h => ?_) | refine hl_ga ?_ | refine hl_sk ?_ | refine hl_su ?_ | refine hl_gT ?_ | refine hl_gF ?_ | refine hl_gd (fun h => ?_) (fun h => ?_) | refine hx_next ?_ | refine hw_seq ?_ | refine hw_region ?_ | refine hw_dr ?_ | refine hw_block ?_ | refine hx_block ?_ | refine hw_tt ?_ | refine hw_ff ?_ | refine hw_iT ?_ | refine hw_iF ?_ | refine hw_skip ?_ | refine hw_ret ?_ | refine hw_exit ?_ | refine hx_then_ret ?_ | refine hx_block_ret ?_ | refine hx_then_exit ?_ | refine hx_block_here ?_ | refine hx_far ?_ | refine hx_any ?_ | (apply ha_end; decide +kernel))
  refine hl_mut 0 rfl (by decide) (markInt64SS_c v vs xss k h0 h1 hsm.1 hsm.2 hl) rfl ?_
  rintro _ _ ⟨rfl, rfl⟩
  repeat' (first | refine hl_a ?_ | refine hq_a ?_ | refine hl_nil ?_ | refine hq_nil ?_ | refine hq_ga ?_ | refine hq_sk ?_ | refine hq_su ?_ | refine hq_gT ?_ | refine hq_gF ?_ | refine hq_gd (fun h => ?_) (fun h => ?_) | refine hl_ga ?_ | refine hl_sk ?_ | refine hl_su ?_ | refine hl_gT ?_ | refine hl_gF ?_ | refine hl_gd (fun h => ?_) (fun h => ?_) | refine hx_next ?_ | refine hw_seq ?_ | refine hw_region ?_ | refine hw_dr ?_ | refine hw_block ?_ | refine hx_block ?_ | refine hw_tt ?_ | refine hw_ff ?_ | refine hw_iT ?_ | refine hw_iF ?_ | refine hw_skip ?_ | refine hw_ret ?_ | refine hw_exit ?_ | refine hx_then_ret ?_ | refine hx_block_ret ?_ | refine hx_then_exit ?_ | refine hx_block_here ?_ | refine hx_far ?_ | refine hx_any ?_ | (apply ha_end; decide +kernel))
  exact hx_ret1 rfl rfl (fun w hm => ⟨_, _, rfl, ⟨rfl, rfl⟩, Mem.keep [_, _] hm⟩)
theorem markCoupled_c (st tot : Int) (v : Value) (vs : List Value) (xss : List (List Int)) (k : Int) (h0 : 0 ≤ k) (h1 : k ≤ 1152921504606846976) (hsm : Small xss) (hl : vs.length = xss.length) :
    Mut Try.prog 32 [chV st tot v, .int .i64 k] (rRows 73 2 (Value.int .i64) v vs xss) fun v' r' => v' = .int .i64 (k + lens xss) ∧ r' = rRows 73 2 (Value.int .i64) v vs (mkS (fun k : Int => k) k xss) := by
  refine mut_hw Try.func32 Try.ntmps32 rfl rfl (fun w0 F => ?_)
  repeat' (first | refine hl_a ?_ | refine hq_a ?_ | refine hl_nil ?_ | refine hq_nil ?_ | refine hq_ga ?_ | refine hq_sk ?_ | refine hq_su ?_ | refine hq_gT ?_ | refine hq_gF ?_ | refine hq_gd (fun h => ?_) (fun h => ?_) | refine hl_ga ?_ | refine hl_sk ?_ | refine hl_su ?_ | refine hl_gT ?_ | refine hl_gF ?_ | refine hl_gd (fun h => ?_) (fun h => ?_) | refine hx_next ?_ | refine hw_seq ?_ | refine hw_region ?_ | refine hw_dr ?_ | refine hw_block ?_ | refine hx_block ?_ | refine hw_tt ?_ | refine hw_ff ?_ | refine hw_iT ?_ | refine hw_iF ?_ | refine hw_skip ?_ | refine hw_ret ?_ | refine hw_exit ?_ | refine hx_then_ret ?_ | refine hx_block_ret ?_ | refine hx_then_exit ?_ | refine hx_block_here ?_ | refine hx_far ?_ | refine hx_any ?_ | (apply ha_end; decide +kernel))
  refine hl_box (by decide) rfl (fun b => ?_)
  repeat' (first | refine hl_a ?_ | refine hq_a ?_ | refine hl_nil ?_ | refine hq_nil ?_ | refine hq_ga ?_ | refine hq_sk ?_ | refine hq_su ?_ | refine hq_gT ?_ | refine hq_gF ?_ | refine hq_gd (fun h => ?_) (fun h => ?_) | refine hl_ga ?_ | refine hl_sk ?_ | refine hl_su ?_ | refine hl_gT ?_ | refine hl_gF ?_ | refine hl_gd (fun h => ?_) (fun h => ?_) | refine hx_next ?_ | refine hw_seq ?_ | refine hw_region ?_ | refine hw_dr ?_ | refine hw_block ?_ | refine hx_block ?_ | refine hw_tt ?_ | refine hw_ff ?_ | refine hw_iT ?_ | refine hw_iF ?_ | refine hw_skip ?_ | refine hw_ret ?_ | refine hw_exit ?_ | refine hx_then_ret ?_ | refine hx_block_ret ?_ | refine hx_then_exit ?_ | refine hx_block_here ?_ | refine hx_far ?_ | refine hx_any ?_ | (apply ha_end; decide +kernel))
  refine hl_mut 0 rfl (by decide) (markInt64SS_c v vs xss k h0 h1 hsm.1 hsm.2 hl) rfl ?_
  rintro _ _ ⟨rfl, rfl⟩
  repeat' (first | refine hl_a ?_ | refine hq_a ?_ | refine hl_nil ?_ | refine hq_nil ?_ | refine hq_ga ?_ | refine hq_sk ?_ | refine hq_su ?_ | refine hq_gT ?_ | refine hq_gF ?_ | refine hq_gd (fun h => ?_) (fun h => ?_) | refine hl_ga ?_ | refine hl_sk ?_ | refine hl_su ?_ | refine hl_gT ?_ | refine hl_gF ?_ | refine hl_gd (fun h => ?_) (fun h => ?_) | refine hx_next ?_ | refine hw_seq ?_ | refine hw_region ?_ | refine hw_dr ?_ | refine hw_block ?_ | refine hx_block ?_ | refine hw_tt ?_ | refine hw_ff ?_ | refine hw_iT ?_ | refine hw_iF ?_ | refine hw_skip ?_ | refine hw_ret ?_ | refine hw_exit ?_ | refine hx_then_ret ?_ | refine hx_block_ret ?_ | refine hx_then_exit ?_ | refine hx_block_here ?_ | refine hx_far ?_ | refine hx_any ?_ | (apply ha_end; decide +kernel))
  exact hx_ret1 rfl rfl (fun w hm => ⟨_, _, rfl, ⟨rfl, rfl⟩, Mem.keep [_, _] hm⟩)
theorem heldCoupled_c (st tot : Int) (v : Value) (xss : List (List Int)) (row : Nat → Value) (k : Int) (h0 : 0 ≤ k) (h1 : k ≤ 1152921504606846976) (hsm : Small xss) (w : World) (hx : RdS (Value.int .i64) 0 w v (mkS (fun k : Int => k) k xss) row) :
    Ret Try.prog 33 [chV st tot v, .int .i64 k] w (.int .i64 (k + lens xss)) := by
  refine calls_hw Try.func33 Try.ntmps33 rfl rfl ?_
  have hk := lens_small hsm
  repeat' (first | refine hl_a ?_ | refine hq_a ?_ | refine hl_nil ?_ | refine hq_nil ?_ | refine hq_ga ?_ | refine hq_sk ?_ | refine hq_su ?_ | refine hq_gT ?_ | refine hq_gF ?_ | refine hq_gd (fun h => ?_) (fun h => ?_) | refine hl_ga ?_ | refine hl_sk ?_ | refine hl_su ?_ | refine hl_gT ?_ | refine hl_gF ?_ | refine hl_gd (fun h => ?_) (fun h => ?_) | refine hx_next ?_ | refine hw_seq ?_ | refine hw_region ?_ | refine hw_dr ?_ | refine hw_block ?_ | refine hx_block ?_ | refine hw_tt ?_ | refine hw_ff ?_ | refine hw_iT ?_ | refine hw_iF ?_ | refine hw_skip ?_ | refine hw_ret ?_ | refine hw_exit ?_ | refine hx_then_ret ?_ | refine hx_block_ret ?_ | refine hx_then_exit ?_ | refine hx_block_here ?_ | refine hx_far ?_ | refine hx_any ?_ | (apply ha_end; decide +kernel))
  refine hl_box (by decide) rfl (fun b => ?_)
  repeat' (first | refine hl_a ?_ | refine hq_a ?_ | refine hl_nil ?_ | refine hq_nil ?_ | refine hq_ga ?_ | refine hq_sk ?_ | refine hq_su ?_ | refine hq_gT ?_ | refine hq_gF ?_ | refine hq_gd (fun h => ?_) (fun h => ?_) | refine hl_ga ?_ | refine hl_sk ?_ | refine hl_su ?_ | refine hl_gT ?_ | refine hl_gF ?_ | refine hl_gd (fun h => ?_) (fun h => ?_) | refine hx_next ?_ | refine hw_seq ?_ | refine hw_region ?_ | refine hw_dr ?_ | refine hw_block ?_ | refine hx_block ?_ | refine hw_tt ?_ | refine hw_ff ?_ | refine hw_iT ?_ | refine hw_iF ?_ | refine hw_skip ?_ | refine hw_ret ?_ | refine hw_exit ?_ | refine hx_then_ret ?_ | refine hx_block_ret ?_ | refine hx_then_exit ?_ | refine hx_block_here ?_ | refine hx_far ?_ | refine hx_any ?_ | (apply ha_end; decide +kernel) | (apply hl_q; decide; exact q_call (fun w hm => heldInt64SS_c v xss row k h0 h1 hsm.1 hsm.2 w (hx.up hm.below)) rfl) | (apply hq_q; decide; exact q_call (fun w hm => heldInt64SS_c v xss row k h0 h1 hsm.1 hsm.2 w (hx.up hm.below)) rfl) | (apply hq_g; rfl; rfl; decide; exact q_call (fun w hm => heldInt64SS_c v xss row k h0 h1 hsm.1 hsm.2 w (hx.up hm.below)) rfl) | (apply hl_g; rfl; rfl; decide; exact q_call (fun w hm => heldInt64SS_c v xss row k h0 h1 hsm.1 hsm.2 w (hx.up hm.below)) rfl))
  refine hw_if rfl (fun h => by omega) (fun h => ?_)
  repeat' (first | refine hl_a ?_ | refine hq_a ?_ | refine hl_nil ?_ | refine hq_nil ?_ | refine hq_ga ?_ | refine hq_sk ?_ | refine hq_su ?_ | refine hq_gT ?_ | refine hq_gF ?_ | refine hq_gd (fun h => ?_) (fun h => ?_) | refine hl_ga ?_ | refine hl_sk ?_ | refine hl_su ?_ | refine hl_gT ?_ | refine hl_gF ?_ | refine hl_gd (fun h => ?_) (fun h => ?_) | refine hx_next ?_ | refine hw_seq ?_ | refine hw_region ?_ | refine hw_dr ?_ | refine hw_block ?_ | refine hx_block ?_ | refine hw_tt ?_ | refine hw_ff ?_ | refine hw_iT ?_ | refine hw_iF ?_ | refine hw_skip ?_ | refine hw_ret ?_ | refine hw_exit ?_ | refine hx_then_ret ?_ | refine hx_block_ret ?_ | refine hx_then_exit ?_ | refine hx_block_here ?_ | refine hx_far ?_ | refine hx_any ?_ | (apply ha_end; decide +kernel))
  exact hx_ret1 rfl rfl (fun w hm => ⟨rfl, hm.none⟩)
end Go.Proofs.Ythjoflgplbpeiaa
