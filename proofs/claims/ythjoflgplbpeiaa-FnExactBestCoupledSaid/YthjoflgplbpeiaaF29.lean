/- Contracts: picks of maps; states led on by maps; runs. -/
import Derived.Test.YthjoflgplbpeiaaF24
import Derived.Test.YthjoflgplbpeiaaF6
import Derived.Test.YthjoflgplbpeiaaPureM
import Derived.Test.YthjoflgplbpeiaaLibP
namespace Go.Eng
open Go.RowKit
section
variable {P : Program} {N : Nat} {env : Env} {w0 : World} {rs : List Res} {dst : Option Nat} {ty : TypeId} {pos : String} {after : Array Edge} {gd : Option (Nat × Bool)} {x y : Operand} {m n : Int}
theorem q_min {ts : Array TypeId} (r : Int) (hx : env.ev x = some (.int .i64 m)) (hy : env.ev y = some (.int .i64 n)) (hr : (if n < m then n else m) = r) : QO P N env w0 rs ⟨dst, .call { callee := .builtin .min, args := #[x, y], argTypes := ts }, ty, pos, after, gd⟩ (.int .i64 r) := qo_val fun a hs w _ => by
  simp [execOp, resolve, invoke, builtin, hs.ev hx, hs.ev hy, run_min_int2, ← hr]
end
/-- The first resource and the last. -/
theorem Mem.ends {w0 w : World} {a x : Res} {r : List Res} (h : Mem w0 (a :: (r ++ [x])) w) : Mem w0 [a, x] w :=
  h.pick (rs' := [a, x]) [0, r.length + 1] (by simp) (by simp)
theorem Mem.tail1 {w0 w : World} {x : Res} {r : List Res} (h : Mem w0 (r ++ [x]) w) : Mem w0 [x] w :=
  h.pick (rs' := [x]) [r.length] (by simp) (by simp)
end Go.Eng
namespace Go.Proofs.Ythjoflgplbpeiaa
open Go.Eng Go.RowKit
set_option linter.unusedVariables false

theorem l00Own_w (v : Value) (xs : List Int) (hn : xs.length ≤ 1000) (h0 : xs.length ≠ 0) (w : World) (hx : RdE (Value.int .i64) 0 w v xs) : Gives Try.prog 77 [v] w (OutE 2 (Value.int .i64) xs) := by
  have hs := hx.sl
  unfold SlOk at hs
  obtain ⟨a, c, rfl, _, _, h3⟩ := hs
  obtain ⟨a, rfl⟩ := Option.isSome_iff_exists.1 (h3 h0)
  exact l00Own_c a c xs hn w hx
theorem nat_of {a : Int} (h : 0 ≤ a) : ∃ n : Nat, a = (n : Int) := ⟨a.toNat, by omega⟩
theorem picksOk_iff {n : Nat} {ds : List Int} (hl : ds.length ≤ 200) : (∃ x ∈ ds, (fun d : Int => decide (¬ (0 ≤ d ∧ d ≤ (n : Int) - 1))) x = true) ↔ ¬ PicksOk n ds := by
  refine ⟨fun ⟨x, hx1, hx2⟩ e => ?_, fun e => Classical.byContradiction fun e2 => e ⟨hl, fun i hi => Classical.byContradiction fun e3 => e2 ⟨_, getD_mem hi, decide_eq_true e3⟩⟩⟩
  obtain ⟨i, hi, rfl⟩ := mem_getD hx1
  exact (of_decide_eq_true hx2) (e.all i hi)
end Go.Proofs.Ythjoflgplbpeiaa
