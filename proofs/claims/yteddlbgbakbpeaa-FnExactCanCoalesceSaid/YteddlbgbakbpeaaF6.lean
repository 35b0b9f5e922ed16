/- Contracts: the ends of an order. -/
import Derived.Test.YteddlbgbakbpeaaF5
namespace Go.Proofs.Yteddlbgbakbpeaa
open Go.Eng Go.RowKit
set_option linter.unusedVariables false

/-- Whether the first k states lie above s; below s. -/
def lowAll (xss : List (List Bool)) (s : Nat) : Nat → Bool
  | 0 => true
  | k + 1 => lowAll xss s k && bAt xss s k
def highAll (xss : List (List Bool)) (s : Nat) : Nat → Bool
  | 0 => true
  | k + 1 => highAll xss s k && bAt xss k s
/-- The last of the first k states that is below, above all. -/
def lowOf (xss : List (List Bool)) : Nat → Int
  | 0 => -1
  | k + 1 => if lowAll xss k xss.length = true then (k : Int) else lowOf xss k
def highOf (xss : List (List Bool)) : Nat → Int
  | 0 => -1
  | k + 1 => if highAll xss k xss.length = true then (k : Int) else highOf xss k
noncomputable def endsV (xss : List (List Bool)) : Value :=
  if OrderP xss.length xss then
    if 0 ≤ lowOf xss xss.length ∧ 0 ≤ highOf xss xss.length then .tuple #[.int .i64 (lowOf xss xss.length), .int .i64 (highOf xss xss.length), .int .i64 0] else .tuple #[.int .i64 0, .int .i64 0, .int .i64 6]
  else .tuple #[.int .i64 0, .int .i64 0, .int .i64 1]

theorem l05Order_c (v : Value) (xss : List (List Bool)) (row : Nat → Value) (w : World) (hr : RdS Value.bool false w v xss row) :
    Ret Try.prog 59 [v] w (.bool (decide (OrderP xss.length xss))) := by
  refine calls_hw Try.func59 Try.ntmps59 rfl rfl ?_
  have hsl := hr.sl
  repeat' (first | refine hl_a ?_ | refine hq_a ?_ | refine hl_nil ?_ | refine hq_nil ?_ | refine hq_ga ?_ | refine hq_sk ?_ | refine hq_su ?_ | refine hq_gT ?_ | refine hq_gF ?_ | refine hq_gd (fun h => ?_) (fun h => ?_) | refine hl_ga ?_ | refine hl_sk ?_ | refine hl_su ?_ | refine hl_gT ?_ | refine hl_gF ?_ | refine hl_gd (fun h => ?_) (fun h => ?_) | refine hx_next ?_ | refine hw_seq ?_ | refine hw_region ?_ | refine hw_dr ?_ | refine hw_block ?_ | refine hx_block ?_ | refine hw_tt ?_ | refine hw_ff ?_ | refine hw_iT ?_ | refine hw_iF ?_ | refine hw_skip ?_ | refine hw_ret ?_ | refine hw_exit ?_ | refine hx_then_ret ?_ | refine hx_block_ret ?_ | refine hx_then_exit ?_ | refine hx_block_here ?_ | refine hx_far ?_ | refine hx_any ?_ | (apply ha_end; decide +kernel) | (apply hl_q; decide; exact q_call (fun w hm => specValidOrder_c _ v xss row w (hr.up hm.below)) rfl) | (apply hq_q; decide; exact q_call (fun w hm => specValidOrder_c _ v xss row w (hr.up hm.below)) rfl) | (apply hq_g; rfl; rfl; decide; exact q_call (fun w hm => specValidOrder_c _ v xss row w (hr.up hm.below)) rfl) | (apply hl_g; rfl; rfl; decide; exact q_call (fun w hm => specValidOrder_c _ v xss row w (hr.up hm.below)) rfl))
  exact hx_ret1 rfl rfl (fun w hm => ⟨rfl, hm.none⟩)
theorem isAnOrder_c (v : Value) (xss : List (List Bool)) (row : Nat → Value) (w : World) (hr : RdS Value.bool false w v xss row) :
    Ret Try.prog 110 [v] w (.bool (decide (OrderP xss.length xss))) := by
  refine calls_hw Try.func110 Try.ntmps110 rfl rfl ?_
  have hsl := hr.sl
  repeat' (first | refine hl_a ?_ | refine hq_a ?_ | refine hl_nil ?_ | refine hq_nil ?_ | refine hq_ga ?_ | refine hq_sk ?_ | refine hq_su ?_ | refine hq_gT ?_ | refine hq_gF ?_ | refine hq_gd (fun h => ?_) (fun h => ?_) | refine hl_ga ?_ | refine hl_sk ?_ | refine hl_su ?_ | refine hl_gT ?_ | refine hl_gF ?_ | refine hl_gd (fun h => ?_) (fun h => ?_) | refine hx_next ?_ | refine hw_seq ?_ | refine hw_region ?_ | refine hw_dr ?_ | refine hw_block ?_ | refine hx_block ?_ | refine hw_tt ?_ | refine hw_ff ?_ | refine hw_iT ?_ | refine hw_iF ?_ | refine hw_skip ?_ | refine hw_ret ?_ | refine hw_exit ?_ | refine hx_then_ret ?_ | refine hx_block_ret ?_ | refine hx_then_exit ?_ | refine hx_block_here ?_ | refine hx_far ?_ | refine hx_any ?_ | (apply ha_end; decide +kernel) | (apply hl_q; decide; exact q_call (fun w hm => implValidOrder_c _ v xss row w (hr.up hm.below)) rfl) | (apply hq_q; decide; exact q_call (fun w hm => implValidOrder_c _ v xss row w (hr.up hm.below)) rfl) | (apply hq_g; rfl; rfl; decide; exact q_call (fun w hm => implValidOrder_c _ v xss row w (hr.up hm.below)) rfl) | (apply hl_g; rfl; rfl; decide; exact q_call (fun w hm => implValidOrder_c _ v xss row w (hr.up hm.below)) rfl))
  exact hx_ret1 rfl rfl (fun w hm => ⟨rfl, hm.none⟩)
set_option maxHeartbeats 2000000 in
theorem l05Ends_c (v : Value) (xss : List (List Bool)) (row : Nat → Value) (w : World) (hr : RdS Value.bool false w v xss row) (hv : OrderP xss.length xss) :
    Ret Try.prog 61 [v] w (.tuple #[.int .i64 (lowOf xss xss.length), .int .i64 (highOf xss xss.length), .bool (decide (0 ≤ lowOf xss xss.length ∧ 0 ≤ highOf xss xss.length))]) := by
  refine calls_hw Try.func61 Try.ntmps61 rfl rfl ?_
  have hsl := hr.sl
  have hle := hsl.le
  have hrl : ∀ s, s < xss.length → (xss.getD s []).length = xss.length := fun s hs => by have := hv.rows s hs; omega
  repeat' (first | refine hl_a ?_ | refine hq_a ?_ | refine hl_nil ?_ | refine hq_nil ?_ | refine hq_ga ?_ | refine hq_sk ?_ | refine hq_su ?_ | refine hq_gT ?_ | refine hq_gF ?_ | refine hq_gd (fun h => ?_) (fun h => ?_) | refine hl_ga ?_ | refine hl_sk ?_ | refine hl_su ?_ | refine hl_gT ?_ | refine hl_gF ?_ | refine hl_gd (fun h => ?_) (fun h => ?_) | refine hx_next ?_ | refine hw_seq ?_ | refine hw_region ?_ | refine hw_dr ?_ | refine hw_block ?_ | refine hx_block ?_ | refine hw_tt ?_ | refine hw_ff ?_ | refine hw_iT ?_ | refine hw_iF ?_ | refine hw_skip ?_ | refine hw_ret ?_ | refine hw_exit ?_ | refine hx_then_ret ?_ | refine hx_block_ret ?_ | refine hx_then_exit ?_ | refine hx_block_here ?_ | refine hx_far ?_ | refine hx_any ?_ | (apply ha_end; decide +kernel))
  refine hw_loop (fun e r m => r = [] ∧ ∃ s : Nat, s ≤ xss.length ∧ m = xss.length - s ∧ e = [(0, v), (5, .int .i64 (lowOf xss s)), (6, .int .i64 (highOf xss s)), (7, .int .i64 s)])
    ⟨rfl, 0, Nat.zero_le _, rfl, rfl⟩ ⟨rfl, rfl, rfl, rfl, trivial⟩ ?_
  rintro _ _ _ ⟨rfl, s, hs, rfl, rfl⟩
  repeat' (first | refine hl_a ?_ | refine hq_a ?_ | refine hl_nil ?_ | refine hq_nil ?_ | refine hq_ga ?_ | refine hq_sk ?_ | refine hq_su ?_ | refine hq_gT ?_ | refine hq_gF ?_ | refine hq_gd (fun h => ?_) (fun h => ?_) | refine hl_ga ?_ | refine hl_sk ?_ | refine hl_su ?_ | refine hl_gT ?_ | refine hl_gF ?_ | refine hl_gd (fun h => ?_) (fun h => ?_) | refine hx_next ?_ | refine hw_seq ?_ | refine hw_region ?_ | refine hw_dr ?_ | refine hw_block ?_ | refine hx_block ?_ | refine hw_tt ?_ | refine hw_ff ?_ | refine hw_iT ?_ | refine hw_iF ?_ | refine hw_skip ?_ | refine hw_ret ?_ | refine hw_exit ?_ | refine hx_then_ret ?_ | refine hx_block_ret ?_ | refine hx_then_exit ?_ | refine hx_block_here ?_ | refine hx_far ?_ | refine hx_any ?_ | (apply ha_end; decide +kernel))
  refine hw_if rfl (fun hlt => ?_) (fun hge => ?_)
  · have hs2 : s < xss.length := by omega
    have cs := hr.get s hs2
    have ss := (hr.row s hs2).sl
    repeat' (first | refine hl_a ?_ | refine hq_a ?_ | refine hl_nil ?_ | refine hq_nil ?_ | refine hq_ga ?_ | refine hq_sk ?_ | refine hq_su ?_ | refine hq_gT ?_ | refine hq_gF ?_ | refine hq_gd (fun h => ?_) (fun h => ?_) | refine hl_ga ?_ | refine hl_sk ?_ | refine hl_su ?_ | refine hl_gT ?_ | refine hl_gF ?_ | refine hl_gd (fun h => ?_) (fun h => ?_) | refine hx_next ?_ | refine hw_seq ?_ | refine hw_region ?_ | refine hw_dr ?_ | refine hw_block ?_ | refine hx_block ?_ | refine hw_tt ?_ | refine hw_ff ?_ | refine hw_iT ?_ | refine hw_iF ?_ | refine hw_skip ?_ | refine hw_ret ?_ | refine hw_exit ?_ | refine hx_then_ret ?_ | refine hx_block_ret ?_ | refine hx_then_exit ?_ | refine hx_block_here ?_ | refine hx_far ?_ | refine hx_any ?_ | (apply ha_end; decide +kernel))
    refine hw_loop (fun e r m => r = [] ∧ ∃ t : Nat, t ≤ xss.length ∧ m = xss.length - t ∧ e = [(0, v), (5, .int .i64 (lowOf xss s)), (6, .int .i64 (highOf xss s)), (7, .int .i64 s), (8, .bool (lowAll xss s t)), (9, .bool (highAll xss s t)), (10, .int .i64 t)])
      ⟨rfl, 0, Nat.zero_le _, rfl, rfl⟩ ⟨rfl, rfl, rfl, rfl, rfl, rfl, rfl, trivial⟩ ?_
    rintro _ _ _ ⟨rfl, t, ht, rfl, rfl⟩
    repeat' (first | refine hl_a ?_ | refine hq_a ?_ | refine hl_nil ?_ | refine hq_nil ?_ | refine hq_ga ?_ | refine hq_sk ?_ | refine hq_su ?_ | refine hq_gT ?_ | refine hq_gF ?_ | refine hq_gd (fun h => ?_) (fun h => ?_) | refine hl_ga ?_ | refine hl_sk ?_ | refine hl_su ?_ | refine hl_gT ?_ | refine hl_gF ?_ | refine hl_gd (fun h => ?_) (fun h => ?_) | refine hx_next ?_ | refine hw_seq ?_ | refine hw_region ?_ | refine hw_dr ?_ | refine hw_block ?_ | refine hx_block ?_ | refine hw_tt ?_ | refine hw_ff ?_ | refine hw_iT ?_ | refine hw_iF ?_ | refine hw_skip ?_ | refine hw_ret ?_ | refine hw_exit ?_ | refine hx_then_ret ?_ | refine hx_block_ret ?_ | refine hx_then_exit ?_ | refine hx_block_here ?_ | refine hx_far ?_ | refine hx_any ?_ | (apply ha_end; decide +kernel))
    refine hw_if rfl (fun hlt2 => ?_) (fun hge2 => ?_)
    · have ht2 : t < xss.length := by omega
      have ct := hr.get t ht2
      have st' := (hr.row t ht2).sl
      have l1 : t < (xss.getD s []).length := by rw [hrl s hs2]; exact ht2
      have l2 : s < (xss.getD t []).length := by rw [hrl t ht2]; exact hs2
      have c1 := hr.bget s t hs2 l1
      have c2 := hr.bget t s ht2 l2
      rcases Bool.eq_false_or_eq_true (lowAll xss s t) with ha | ha <;> rcases Bool.eq_false_or_eq_true (highAll xss s t) with hb | hb <;> rw [ha, hb]
      all_goals
        repeat' (first | refine hl_a ?_ | refine hq_a ?_ | refine hl_nil ?_ | refine hq_nil ?_ | refine hq_ga ?_ | refine hq_sk ?_ | refine hq_su ?_ | refine hq_gT ?_ | refine hq_gF ?_ | refine hq_gd (fun h => ?_) (fun h => ?_) | refine hl_ga ?_ | refine hl_sk ?_ | refine hl_su ?_ | refine hl_gT ?_ | refine hl_gF ?_ | refine hl_gd (fun h => ?_) (fun h => ?_) | refine hx_next ?_ | refine hw_seq ?_ | refine hw_region ?_ | refine hw_dr ?_ | refine hw_block ?_ | refine hx_block ?_ | refine hw_tt ?_ | refine hw_ff ?_ | refine hw_iT ?_ | refine hw_iF ?_ | refine hw_skip ?_ | refine hw_ret ?_ | refine hw_exit ?_ | refine hx_then_ret ?_ | refine hx_block_ret ?_ | refine hx_then_exit ?_ | refine hx_block_here ?_ | refine hx_far ?_ | refine hx_any ?_ | (apply ha_end; decide +kernel))
        refine hx_round ⟨rfl, t + 1, ht2, rfl, rfl⟩ (by omega) ⟨rfl, rfl, rfl, rfl, by simp [Env.at, lowAll, ha], by simp [Env.at, highAll, hb], rfl, trivial⟩
    · have e : t = xss.length := by omega
      subst e
      rcases Bool.eq_false_or_eq_true (lowAll xss s xss.length) with ha | ha <;> rcases Bool.eq_false_or_eq_true (highAll xss s xss.length) with hb | hb <;> rw [ha, hb]
      all_goals
        repeat' (first | refine hl_a ?_ | refine hq_a ?_ | refine hl_nil ?_ | refine hq_nil ?_ | refine hq_ga ?_ | refine hq_sk ?_ | refine hq_su ?_ | refine hq_gT ?_ | refine hq_gF ?_ | refine hq_gd (fun h => ?_) (fun h => ?_) | refine hl_ga ?_ | refine hl_sk ?_ | refine hl_su ?_ | refine hl_gT ?_ | refine hl_gF ?_ | refine hl_gd (fun h => ?_) (fun h => ?_) | refine hx_next ?_ | refine hw_seq ?_ | refine hw_region ?_ | refine hw_dr ?_ | refine hw_block ?_ | refine hx_block ?_ | refine hw_tt ?_ | refine hw_ff ?_ | refine hw_iT ?_ | refine hw_iF ?_ | refine hw_skip ?_ | refine hw_ret ?_ | refine hw_exit ?_ | refine hx_then_ret ?_ | refine hx_block_ret ?_ | refine hx_then_exit ?_ | refine hx_block_here ?_ | refine hx_far ?_ | refine hx_any ?_ | (apply ha_end; decide +kernel))
        refine hx_round ⟨rfl, s + 1, hs2, rfl, rfl⟩ (by omega) ⟨rfl, by simp [Env.at, lowOf, ha], by simp [Env.at, highOf, hb], rfl, trivial⟩
  · have e : s = xss.length := by omega
    subst e
    repeat' (first | refine hl_a ?_ | refine hq_a ?_ | refine hl_nil ?_ | refine hq_nil ?_ | refine hq_ga ?_ | refine hq_sk ?_ | refine hq_su ?_ | refine hq_gT ?_ | refine hq_gF ?_ | refine hq_gd (fun h => ?_) (fun h => ?_) | refine hl_ga ?_ | refine hl_sk ?_ | refine hl_su ?_ | refine hl_gT ?_ | refine hl_gF ?_ | refine hl_gd (fun h => ?_) (fun h => ?_) | refine hx_next ?_ | refine hw_seq ?_ | refine hw_region ?_ | refine hw_dr ?_ | refine hw_block ?_ | refine hx_block ?_ | refine hw_tt ?_ | refine hw_ff ?_ | refine hw_iT ?_ | refine hw_iF ?_ | refine hw_skip ?_ | refine hw_ret ?_ | refine hw_exit ?_ | refine hx_then_ret ?_ | refine hx_block_ret ?_ | refine hx_then_exit ?_ | refine hx_block_here ?_ | refine hx_far ?_ | refine hx_any ?_ | (apply ha_end; decide +kernel))
    all_goals refine hx_ret3 rfl rfl rfl rfl (fun w hm => ⟨?_, hm.none⟩)
    all_goals first | (simp_all; done) | (simp_all; omega)
set_option maxHeartbeats 2000000 in
theorem endsOf_c (v : Value) (xss : List (List Bool)) (row : Nat → Value) (w : World) (hr : RdS Value.bool false w v xss row) (hv : OrderP xss.length xss) :
    Ret Try.prog 68 [v] w (.tuple #[.int .i64 (lowOf xss xss.length), .int .i64 (highOf xss xss.length)]) := by
  refine calls_hw Try.func68 Try.ntmps68 rfl rfl ?_
  have hsl := hr.sl
  have hle := hsl.le
  have hrl : ∀ s, s < xss.length → (xss.getD s []).length = xss.length := fun s hs => by have := hv.rows s hs; omega
  repeat' (first | refine hl_a ?_ | refine hq_a ?_ | refine hl_nil ?_ | refine hq_nil ?_ | refine hq_ga ?_ | refine hq_sk ?_ | refine hq_su ?_ | refine hq_gT ?_ | refine hq_gF ?_ | refine hq_gd (fun h => ?_) (fun h => ?_) | refine hl_ga ?_ | refine hl_sk ?_ | refine hl_su ?_ | refine hl_gT ?_ | refine hl_gF ?_ | refine hl_gd (fun h => ?_) (fun h => ?_) | refine hx_next ?_ | refine hw_seq ?_ | refine hw_region ?_ | refine hw_dr ?_ | refine hw_block ?_ | refine hx_block ?_ | refine hw_tt ?_ | refine hw_ff ?_ | refine hw_iT ?_ | refine hw_iF ?_ | refine hw_skip ?_ | refine hw_ret ?_ | refine hw_exit ?_ | refine hx_then_ret ?_ | refine hx_block_ret ?_ | refine hx_then_exit ?_ | refine hx_block_here ?_ | refine hx_far ?_ | refine hx_any ?_ | (apply ha_end; decide +kernel))
  refine hw_loop (fun e r m => r = [] ∧ ∃ s : Nat, s ≤ xss.length ∧ m = xss.length - s ∧ e = [(0, v), (4, .int .i64 (lowOf xss s)), (5, .int .i64 (highOf xss s)), (11, .int .i64 (xss.length : Int)), (12, .int .i64 s)])
    ⟨rfl, 0, Nat.zero_le _, rfl, rfl⟩ ⟨rfl, rfl, rfl, rfl, rfl, trivial⟩ ?_
  rintro _ _ _ ⟨rfl, s, hs, rfl, rfl⟩
  repeat' (first | refine hl_a ?_ | refine hq_a ?_ | refine hl_nil ?_ | refine hq_nil ?_ | refine hq_ga ?_ | refine hq_sk ?_ | refine hq_su ?_ | refine hq_gT ?_ | refine hq_gF ?_ | refine hq_gd (fun h => ?_) (fun h => ?_) | refine hl_ga ?_ | refine hl_sk ?_ | refine hl_su ?_ | refine hl_gT ?_ | refine hl_gF ?_ | refine hl_gd (fun h => ?_) (fun h => ?_) | refine hx_next ?_ | refine hw_seq ?_ | refine hw_region ?_ | refine hw_dr ?_ | refine hw_block ?_ | refine hx_block ?_ | refine hw_tt ?_ | refine hw_ff ?_ | refine hw_iT ?_ | refine hw_iF ?_ | refine hw_skip ?_ | refine hw_ret ?_ | refine hw_exit ?_ | refine hx_then_ret ?_ | refine hx_block_ret ?_ | refine hx_then_exit ?_ | refine hx_block_here ?_ | refine hx_far ?_ | refine hx_any ?_ | (apply ha_end; decide +kernel))
  refine hw_if rfl (fun hlt => ?_) (fun hge => ?_)
  · have hs2 : s < xss.length := by omega
    have cs := hr.get s hs2
    have ss := (hr.row s hs2).sl
    repeat' (first | refine hl_a ?_ | refine hq_a ?_ | refine hl_nil ?_ | refine hq_nil ?_ | refine hq_ga ?_ | refine hq_sk ?_ | refine hq_su ?_ | refine hq_gT ?_ | refine hq_gF ?_ | refine hq_gd (fun h => ?_) (fun h => ?_) | refine hl_ga ?_ | refine hl_sk ?_ | refine hl_su ?_ | refine hl_gT ?_ | refine hl_gF ?_ | refine hl_gd (fun h => ?_) (fun h => ?_) | refine hx_next ?_ | refine hw_seq ?_ | refine hw_region ?_ | refine hw_dr ?_ | refine hw_block ?_ | refine hx_block ?_ | refine hw_tt ?_ | refine hw_ff ?_ | refine hw_iT ?_ | refine hw_iF ?_ | refine hw_skip ?_ | refine hw_ret ?_ | refine hw_exit ?_ | refine hx_then_ret ?_ | refine hx_block_ret ?_ | refine hx_then_exit ?_ | refine hx_block_here ?_ | refine hx_far ?_ | refine hx_any ?_ | (apply ha_end; decide +kernel))
    refine hw_loop (fun e r m => r = [] ∧ ∃ t : Nat, t ≤ xss.length ∧ m = xss.length - t ∧ e = [(0, v), (4, .int .i64 (lowOf xss s)), (5, .int .i64 (highOf xss s)), (6, .int .i64 s), (7, .bool (lowAll xss s t)), (8, .bool (highAll xss s t)), (11, .int .i64 (xss.length : Int)), (12, .int .i64 s), (16, .int .i64 (xss.length : Int)), (17, .int .i64 t)])
      ⟨rfl, 0, Nat.zero_le _, rfl, rfl⟩ ⟨rfl, rfl, rfl, rfl, rfl, rfl, rfl, rfl, rfl, rfl, trivial⟩ ?_
    rintro _ _ _ ⟨rfl, t, ht, rfl, rfl⟩
    repeat' (first | refine hl_a ?_ | refine hq_a ?_ | refine hl_nil ?_ | refine hq_nil ?_ | refine hq_ga ?_ | refine hq_sk ?_ | refine hq_su ?_ | refine hq_gT ?_ | refine hq_gF ?_ | refine hq_gd (fun h => ?_) (fun h => ?_) | refine hl_ga ?_ | refine hl_sk ?_ | refine hl_su ?_ | refine hl_gT ?_ | refine hl_gF ?_ | refine hl_gd (fun h => ?_) (fun h => ?_) | refine hx_next ?_ | refine hw_seq ?_ | refine hw_region ?_ | refine hw_dr ?_ | refine hw_block ?_ | refine hx_block ?_ | refine hw_tt ?_ | refine hw_ff ?_ | refine hw_iT ?_ | refine hw_iF ?_ | refine hw_skip ?_ | refine hw_ret ?_ | refine hw_exit ?_ | refine hx_then_ret ?_ | refine hx_block_ret ?_ | refine hx_then_exit ?_ | refine hx_block_here ?_ | refine hx_far ?_ | refine hx_any ?_ | (apply ha_end; decide +kernel))
    refine hw_if rfl (fun hlt2 => ?_) (fun hge2 => ?_)
    · have ht2 : t < xss.length := by omega
      have ct := hr.get t ht2
      have st' := (hr.row t ht2).sl
      have l1 : t < (xss.getD s []).length := by rw [hrl s hs2]; exact ht2
      have l2 : s < (xss.getD t []).length := by rw [hrl t ht2]; exact hs2
      have c1 := hr.bget s t hs2 l1
      have c2 := hr.bget t s ht2 l2
      rcases Bool.eq_false_or_eq_true (lowAll xss s t) with ha | ha <;> rcases Bool.eq_false_or_eq_true (highAll xss s t) with hb | hb <;> rw [ha, hb]
      all_goals
        repeat' (first | refine hl_a ?_ | refine hq_a ?_ | refine hl_nil ?_ | refine hq_nil ?_ | refine hq_ga ?_ | refine hq_sk ?_ | refine hq_su ?_ | refine hq_gT ?_ | refine hq_gF ?_ | refine hq_gd (fun h => ?_) (fun h => ?_) | refine hl_ga ?_ | refine hl_sk ?_ | refine hl_su ?_ | refine hl_gT ?_ | refine hl_gF ?_ | refine hl_gd (fun h => ?_) (fun h => ?_) | refine hx_next ?_ | refine hw_seq ?_ | refine hw_region ?_ | refine hw_dr ?_ | refine hw_block ?_ | refine hx_block ?_ | refine hw_tt ?_ | refine hw_ff ?_ | refine hw_iT ?_ | refine hw_iF ?_ | refine hw_skip ?_ | refine hw_ret ?_ | refine hw_exit ?_ | refine hx_then_ret ?_ | refine hx_block_ret ?_ | refine hx_then_exit ?_ | refine hx_block_here ?_ | refine hx_far ?_ | refine hx_any ?_ | (apply ha_end; decide +kernel))
        refine hx_round ⟨rfl, t + 1, ht2, rfl, rfl⟩ (by omega) ⟨rfl, rfl, rfl, rfl, by simp [Env.at, lowAll, ha], by simp [Env.at, highAll, hb], rfl, rfl, rfl, rfl, trivial⟩
    · have e : t = xss.length := by omega
      subst e
      rcases Bool.eq_false_or_eq_true (lowAll xss s xss.length) with ha | ha <;> rcases Bool.eq_false_or_eq_true (highAll xss s xss.length) with hb | hb <;> rw [ha, hb]
      all_goals
        repeat' (first | refine hl_a ?_ | refine hq_a ?_ | refine hl_nil ?_ | refine hq_nil ?_ | refine hq_ga ?_ | refine hq_sk ?_ | refine hq_su ?_ | refine hq_gT ?_ | refine hq_gF ?_ | refine hq_gd (fun h => ?_) (fun h => ?_) | refine hl_ga ?_ | refine hl_sk ?_ | refine hl_su ?_ | refine hl_gT ?_ | refine hl_gF ?_ | refine hl_gd (fun h => ?_) (fun h => ?_) | refine hx_next ?_ | refine hw_seq ?_ | refine hw_region ?_ | refine hw_dr ?_ | refine hw_block ?_ | refine hx_block ?_ | refine hw_tt ?_ | refine hw_ff ?_ | refine hw_iT ?_ | refine hw_iF ?_ | refine hw_skip ?_ | refine hw_ret ?_ | refine hw_exit ?_ | refine hx_then_ret ?_ | refine hx_block_ret ?_ | refine hx_then_exit ?_ | refine hx_block_here ?_ | refine hx_far ?_ | refine hx_any ?_ | (apply ha_end; decide +kernel))
        refine hx_round ⟨rfl, s + 1, hs2, rfl, rfl⟩ (by omega) ⟨rfl, by simp [Env.at, lowOf, ha], by simp [Env.at, highOf, hb], rfl, rfl, trivial⟩
  · have e : s = xss.length := by omega
    subst e
    repeat' (first | refine hl_a ?_ | refine hq_a ?_ | refine hl_nil ?_ | refine hq_nil ?_ | refine hq_ga ?_ | refine hq_sk ?_ | refine hq_su ?_ | refine hq_gT ?_ | refine hq_gF ?_ | refine hq_gd (fun h => ?_) (fun h => ?_) | refine hl_ga ?_ | refine hl_sk ?_ | refine hl_su ?_ | refine hl_gT ?_ | refine hl_gF ?_ | refine hl_gd (fun h => ?_) (fun h => ?_) | refine hx_next ?_ | refine hw_seq ?_ | refine hw_region ?_ | refine hw_dr ?_ | refine hw_block ?_ | refine hx_block ?_ | refine hw_tt ?_ | refine hw_ff ?_ | refine hw_iT ?_ | refine hw_iF ?_ | refine hw_skip ?_ | refine hw_ret ?_ | refine hw_exit ?_ | refine hx_then_ret ?_ | refine hx_block_ret ?_ | refine hx_then_exit ?_ | refine hx_block_here ?_ | refine hx_far ?_ | refine hx_any ?_ | (apply ha_end; decide +kernel))
    exact hx_ret2 rfl rfl rfl (fun w hm => ⟨rfl, hm.none⟩)
end Go.Proofs.Yteddlbgbakbpeaa
