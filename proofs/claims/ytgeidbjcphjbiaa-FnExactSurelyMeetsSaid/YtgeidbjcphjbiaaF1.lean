/- Contracts of the program's and the reference's functions: ranges, the order of numbers. -/
import Derived.Test.YtgeidbjcphjbiaaH2
namespace Go.Proofs.Ytgeidbjcphjbiaa
open Go.Eng Go.RowKit
set_option linter.unusedVariables false

theorem l00In_c (n lo hi : Int) (w : World) : Ret Try.prog 54 [.int .i64 n, .int .i64 lo, .int .i64 hi] w (.bool (decide (lo ≤ n ∧ n ≤ hi))) := by
  refine calls_hw Try.func54 Try.ntmps54 rfl rfl ?_
  repeat' (first | refine hl_a ?_ | refine hq_a ?_ | refine hl_nil ?_ | refine hq_nil ?_ | refine hq_ga ?_ | refine hq_sk ?_ | refine hq_su ?_ | refine hq_gT ?_ | refine hq_gF ?_ | refine hq_gd (fun h => ?_) (fun h => ?_) | refine hl_ga ?_ | refine hl_sk ?_ | refine hl_su ?_ | refine hl_gT ?_ | refine hl_gF ?_ | refine hl_gd (fun h => ?_) (fun h => ?_) | refine hx_next ?_ | refine hw_seq ?_ | refine hw_region ?_ | refine hw_dr ?_ | refine hw_block ?_ | refine hx_block ?_ | refine hw_tt ?_ | refine hw_ff ?_ | refine hw_iT ?_ | refine hw_iF ?_ | refine hw_skip ?_ | refine hw_ret ?_ | refine hw_exit ?_ | refine hx_then_ret ?_ | refine hx_block_ret ?_ | refine hx_then_exit ?_ | refine hx_block_here ?_ | refine hx_far ?_ | refine hx_any ?_ | (apply ha_end; decide +kernel))
  all_goals refine hx_ret1 rfl rfl (fun w hm => ⟨?_, hm.none⟩)
  all_goals simp [*]
theorem inRange_c (n lo hi : Int) (w : World) : Ret Try.prog 100 [.int .i64 n, .int .i64 lo, .int .i64 hi] w (.bool (decide (lo ≤ n ∧ n ≤ hi))) := by
  refine calls_hw Try.func100 Try.ntmps100 rfl rfl ?_
  repeat' (first | refine hl_a ?_ | refine hq_a ?_ | refine hl_nil ?_ | refine hq_nil ?_ | refine hq_ga ?_ | refine hq_sk ?_ | refine hq_su ?_ | refine hq_gT ?_ | refine hq_gF ?_ | refine hq_gd (fun h => ?_) (fun h => ?_) | refine hl_ga ?_ | refine hl_sk ?_ | refine hl_su ?_ | refine hl_gT ?_ | refine hl_gF ?_ | refine hl_gd (fun h => ?_) (fun h => ?_) | refine hx_next ?_ | refine hw_seq ?_ | refine hw_region ?_ | refine hw_dr ?_ | refine hw_block ?_ | refine hx_block ?_ | refine hw_tt ?_ | refine hw_ff ?_ | refine hw_iT ?_ | refine hw_iF ?_ | refine hw_skip ?_ | refine hw_ret ?_ | refine hw_exit ?_ | refine hx_then_ret ?_ | refine hx_block_ret ?_ | refine hx_then_exit ?_ | refine hx_block_here ?_ | refine hx_far ?_ | refine hx_any ?_ | (apply ha_end; decide +kernel))
  all_goals refine hx_ret1 rfl rfl (fun w hm => ⟨?_, hm.none⟩)
  all_goals simp [*]

/-- The order of numbers below n. -/
def lineL (n : Nat) : List (List Bool) := tab n fun s => tab n fun t => decide ((s : Int) ≤ (t : Int))

/-- What LineOrder hands back. -/
def LineOut (st : Int) (e1 e2 : TypeId) (v : Value) (rs : List Res) : Prop :=
  ∃ (u : Value) (vs : List Value) (xss : List (List Bool)) (c : Int), v = .tuple #[u, .int .i64 c] ∧ rs = [rRows e1 e2 Value.bool u vs xss] ∧ vs.length = xss.length ∧ SlOk u xss.length ∧
    (if 1 ≤ st ∧ st ≤ 6 then c = 0 ∧ xss = lineL st.toNat else c = 2 ∧ xss = [])
end Go.Proofs.Ytgeidbjcphjbiaa
