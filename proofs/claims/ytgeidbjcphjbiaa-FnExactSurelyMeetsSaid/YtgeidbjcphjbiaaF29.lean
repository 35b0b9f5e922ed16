/- Contracts: picks of maps; states led on by maps; runs. -/
import Derived.Test.YtgeidbjcphjbiaaF24
import Derived.Test.YtgeidbjcphjbiaaF6
import Derived.Test.YtgeidbjcphjbiaaPureM
import Derived.Test.YtgeidbjcphjbiaaLibP
namespace Go.Eng
open Go.RowKit
section
variable {P : Program} {N : Nat} {env : Env} {w0 : World} {rs : List Res} {dst : Option Nat} {ty : TypeId} {pos : String} {after : Array Edge} {gd : Option (Nat × Bool)} {x y : Operand} {m n : Int}
theorem q_min {ts : Array TypeId} (r : Int) (hx : env.ev x = some (.int .i64 m)) (hy : env.ev y = some (.int .i64 n)) (hr : (if n < m then n else m) = r) : QO P N env w0 rs ⟨dst, .call { callee := .builtin .min, args := #[x, y], argTypes := ts }, ty, pos, after, gd⟩ (.int .i64 r) := qo_val fun a hs w _ => by
  simp [execOp, resolve, invoke, builtin, hs.ev hx, hs.ev hy, run_min_int2, ← hr]
end
/-- The first resource and the last. -/
theorem Mem.ends {w0 w : World} {a x : Res} {r : List Res} (h : Mem w0 (a :: (r ++ [x])) w) : Mem w0 [a, x] w :=
  h.pick (rs' := [a, x]) [0, r.length + 1] (by simp) (by simp)
theorem Mem.tail1 {w0 w : World} {x : Res} {r : List Res} (h : Mem w0 (r ++ [x]) w) : Mem w0 [x] w :=
  h.pick (rs' := [x]) [r.length] (by simp) (by simp)
end Go.Eng
namespace Go.Proofs.Ytgeidbjcphjbiaa
open Go.Eng Go.RowKit
set_option linter.unusedVariables false

theorem l00Own_w (v : Value) (xs : List Int) (hn : xs.length ≤ 1000) (h0 : xs.length ≠ 0) (w : World) (hx : RdE (Value.int .i64) 0 w v xs) : Gives Try.prog 96 [v] w (OutE 2 (Value.int .i64) xs) := by
  have hs := hx.sl
  unfold SlOk at hs
  obtain ⟨a, c, rfl, _, _, h3⟩ := hs
  obtain ⟨a, rfl⟩ := Option.isSome_iff_exists.1 (h3 h0)
  exact l00Own_c a c xs hn w hx
theorem nat_of {a : Int} (h : 0 ≤ a) : ∃ n : Nat, a = (n : Int) := ⟨a.toNat, by omega⟩
theorem hasIndex_c (k : Int) (n : Nat) (hn : n ≤ maxLen) (w : World) : Ret Try.prog 55 [.int .i64 k, .int .i64 (n : Int)] w (.bool (decide (0 ≤ k ∧ k ≤ (n : Int) - 1))) := by
  refine calls_hw Try.func55 Try.ntmps55 rfl rfl ?_
  unfold maxLen at hn
  repeat' (first | refine hl_a ?_ | refine hq_a ?_ | refine hl_nil ?_ | refine hq_nil ?_ | refine hq_ga ?_ | refine hq_sk ?_ | refine hq_su ?_ | refine hq_gT ?_ | refine hq_gF ?_ | refine hq_gd (fun h => ?_) (fun h => ?_) | refine hl_ga ?_ | refine hl_sk ?_ | refine hl_su ?_ | refine hl_gT ?_ | refine hl_gF ?_ | refine hl_gd (fun h => ?_) (fun h => ?_) | refine hx_next ?_ | refine hw_seq ?_ | refine hw_region ?_ | refine hw_dr ?_ | refine hw_block ?_ | refine hx_block ?_ | refine hw_tt ?_ | refine hw_ff ?_ | refine hw_iT ?_ | refine hw_iF ?_ | refine hw_skip ?_ | refine hw_ret ?_ | refine hw_exit ?_ | refine hx_then_ret ?_ | refine hx_block_ret ?_ | refine hx_then_exit ?_ | refine hx_block_here ?_ | refine hx_far ?_ | refine hx_any ?_ | (apply ha_end; decide +kernel))
  first | refine hl_q (by decide) (q_call (fun w hm => inRange_c _ _ _ _) rfl) ?_ | refine hq_q (by decide) (q_call (fun w hm => inRange_c _ _ _ _) rfl) ?_ | refine hl_g _ _ rfl rfl (by decide) (q_call (fun w hm => inRange_c _ _ _ _) rfl) ?_ | refine hq_g _ _ rfl rfl (by decide) (q_call (fun w hm => inRange_c _ _ _ _) rfl) ?_
  repeat' (first | refine hl_a ?_ | refine hq_a ?_ | refine hl_nil ?_ | refine hq_nil ?_ | refine hq_ga ?_ | refine hq_sk ?_ | refine hq_su ?_ | refine hq_gT ?_ | refine hq_gF ?_ | refine hq_gd (fun h => ?_) (fun h => ?_) | refine hl_ga ?_ | refine hl_sk ?_ | refine hl_su ?_ | refine hl_gT ?_ | refine hl_gF ?_ | refine hl_gd (fun h => ?_) (fun h => ?_) | refine hx_next ?_ | refine hw_seq ?_ | refine hw_region ?_ | refine hw_dr ?_ | refine hw_block ?_ | refine hx_block ?_ | refine hw_tt ?_ | refine hw_ff ?_ | refine hw_iT ?_ | refine hw_iF ?_ | refine hw_skip ?_ | refine hw_ret ?_ | refine hw_exit ?_ | refine hx_then_ret ?_ | refine hx_block_ret ?_ | refine hx_then_exit ?_ | refine hx_block_here ?_ | refine hx_far ?_ | refine hx_any ?_ | (apply ha_end; decide +kernel))
  exact hx_ret1 rfl rfl (fun w hm => ⟨rfl, hm.none⟩)
theorem picksOk_iff {n : Nat} {ds : List Int} (hl : ds.length ≤ 200) : (∃ x ∈ ds, (fun d : Int => decide (¬ (0 ≤ d ∧ d ≤ (n : Int) - 1))) x = true) ↔ ¬ PicksOk n ds := by
  refine ⟨fun ⟨x, hx1, hx2⟩ e => ?_, fun e => Classical.byContradiction fun e2 => e ⟨hl, fun i hi => Classical.byContradiction fun e3 => e2 ⟨_, getD_mem hi, decide_eq_true e3⟩⟩⟩
  obtain ⟨i, hi, rfl⟩ := mem_getD hx1
  exact (of_decide_eq_true hx2) (e.all i hi)
end Go.Proofs.Ytgeidbjcphjbiaa
