/- Contracts: ApartCoupled, StairCoupled, BestCoupled, by the book. -/
import Derived.Test.YthjoflgplbpeiaaF43
namespace Go.Eng
open Go.RowKit
section
variable {P : Program} {N : Nat} {env : Env} {w0 : World} {rs : List Res} {Q : Exit → Act → World → Prop}
/-- Ways through a piece of code that meet behind it. -/
theorem hw_meet (E : Env) (R : List Res) {c : Code} (h : HW P N env w0 rs c (Exit.then (Joined N E w0 R) Q)) (k : HX N E w0 R (Q .normal)) : HW P N env w0 rs c Q := by
  unfold HW at h ⊢
  unfold HX at k
  intro a w hs hmem
  refine wp_mono (h a w hs hmem) ?_
  intro e a' w' hq
  cases e with
  | normal => exact k a' w' hq.1 hq.2
  | _ => exact hq
end
end Go.Eng
namespace Go.Proofs.Ythjoflgplbpeiaa
open Go.Eng Go.RowKit
set_option linter.unusedVariables false

theorem mem_zer {w0 w : World} {A : List Res} {x : Value} {m : Nat} (h : Mem w0 (A ++ [rOwn 2 1 x m ((tab m fun _ => (0 : Int)).map (Value.int .i64))]) w) : Mem w0 (A ++ [rE 2 (Value.int .i64) x (zer m)]) w := by
  unfold rE
  rw [zer_length]
  exact h
set_option maxHeartbeats 2000000 in
theorem l04Row0_c (p : Addr) (st tot : Int) (v : Value) (xss : List (List Int)) (row : Nat → Value) (s t : Nat) (w : World) (hp : PtC w p st tot v xss row) (hv : Valid st tot xss) (hn : xss.length ≤ 4) (hs : s < xss.length) (ht : t < xss.length) :
    Gives Try.prog 96 [.pointer (some p), .int .i64 (s : Int), .int .i64 (t : Int), .int .i64 0] w (OutE 2 (Value.int .i64) (rowA xss s t)) := by
  refine calls_hw Try.func96 Try.ntmps96 rfl rfl ?_
  obtain ⟨rfl, hn1, hn2⟩ := hv.nat
  obtain ⟨h0, h1, h2, hr⟩ := hp
  have hsl := hr.sl
  have cs := hr.get s hs
  have ct := hr.get t ht
  have rs' := hr.row s hs
  have rt := hr.row t ht
  have ss := rs'.sl
  have st' := rt.sl
  have l1 := hv.rlen s hs
  have l2 := hv.rlen t ht
  have h16 : xss.length * xss.length ≤ 16 := Nat.mul_le_mul hn hn
  have e0 : (0 : Int) = 0 := rfl
  repeat' (first | refine hl_a ?_ | refine hq_a ?_ | refine hl_nil ?_ | refine hq_nil ?_ | refine hq_ga ?_ | refine hq_sk ?_ | refine hq_su ?_ | refine hq_gT ?_ | refine hq_gF ?_ | refine hq_gd (fun h => ?_) (fun h => ?_) | refine hl_ga ?_ | refine hl_sk ?_ | refine hl_su ?_ | refine hl_gT ?_ | refine hl_gF ?_ | refine hl_gd (fun h => ?_) (fun h => ?_) | refine hx_next ?_ | refine hw_seq ?_ | refine hw_region ?_ | refine hw_dr ?_ | refine hw_block ?_ | refine hx_block ?_ | refine hw_tt ?_ | refine hw_ff ?_ | refine hw_iT ?_ | refine hw_iF ?_ | refine hw_skip ?_ | refine hw_ret ?_ | refine hw_exit ?_ | refine hx_then_ret ?_ | refine hx_block_ret ?_ | refine hx_then_exit ?_ | refine hx_block_here ?_ | refine hx_far ?_ | refine hx_any ?_ | (apply ha_end; decide +kernel))
  first | refine hl_q (by decide) (q_mulN (a := xss.length) (b := xss.length) rfl rfl (by omega)) ?_ | refine hq_q (by decide) (q_mulN (a := xss.length) (b := xss.length) rfl rfl (by omega)) ?_ | refine hl_g _ _ rfl rfl (by decide) (q_mulN (a := xss.length) (b := xss.length) rfl rfl (by omega)) ?_ | refine hq_g _ _ rfl rfl (by decide) (q_mulN (a := xss.length) (b := xss.length) rfl rfl (by omega)) ?_
  refine hl_make (by decide) rfl rfl (by omega) (by unfold maxLen; omega) (fun x hx => ?_)
  rw [toList_madeCells1 _ rfl, tab0]
  refine hl_mem (fun w hm => mem_zer (A := []) hm) ?_
  repeat' (first | refine hl_a ?_ | refine hq_a ?_ | refine hl_nil ?_ | refine hq_nil ?_ | refine hq_ga ?_ | refine hq_sk ?_ | refine hq_su ?_ | refine hq_gT ?_ | refine hq_gF ?_ | refine hq_gd (fun h => ?_) (fun h => ?_) | refine hl_ga ?_ | refine hl_sk ?_ | refine hl_su ?_ | refine hl_gT ?_ | refine hl_gF ?_ | refine hl_gd (fun h => ?_) (fun h => ?_) | refine hx_next ?_ | refine hw_seq ?_ | refine hw_region ?_ | refine hw_dr ?_ | refine hw_block ?_ | refine hx_block ?_ | refine hw_tt ?_ | refine hw_ff ?_ | refine hw_iT ?_ | refine hw_iF ?_ | refine hw_skip ?_ | refine hw_ret ?_ | refine hw_exit ?_ | refine hx_then_ret ?_ | refine hx_block_ret ?_ | refine hx_then_exit ?_ | refine hx_block_here ?_ | refine hx_far ?_ | refine hx_any ?_ | (apply ha_end; decide +kernel))
  refine hw_loop (fun e r m => ∃ u : Nat, r = [rE 2 (Value.int .i64) x (apL xss.length (xss.getD s []) (xss.getD t []) (u * xss.length + 0))] ∧ u ≤ xss.length ∧ m = xss.length - u ∧ e = [(9, .int .i64 (xss.length : Int)), (10, row s), (11, row t), (12, x), (13, .int .i64 (u : Int))])
    ⟨0, by rw [show 0 * xss.length + 0 = 0 by simp, apL_0]; rfl, Nat.zero_le _, rfl, rfl⟩ ⟨rfl, rfl, rfl, rfl, rfl, trivial⟩ ?_
  rintro _ _ _ ⟨u, rfl, hu, rfl, rfl⟩
  repeat' (first | refine hl_a ?_ | refine hq_a ?_ | refine hl_nil ?_ | refine hq_nil ?_ | refine hq_ga ?_ | refine hq_sk ?_ | refine hq_su ?_ | refine hq_gT ?_ | refine hq_gF ?_ | refine hq_gd (fun h => ?_) (fun h => ?_) | refine hl_ga ?_ | refine hl_sk ?_ | refine hl_su ?_ | refine hl_gT ?_ | refine hl_gF ?_ | refine hl_gd (fun h => ?_) (fun h => ?_) | refine hx_next ?_ | refine hw_seq ?_ | refine hw_region ?_ | refine hw_dr ?_ | refine hw_block ?_ | refine hx_block ?_ | refine hw_tt ?_ | refine hw_ff ?_ | refine hw_iT ?_ | refine hw_iF ?_ | refine hw_skip ?_ | refine hw_ret ?_ | refine hw_exit ?_ | refine hx_then_ret ?_ | refine hx_block_ret ?_ | refine hx_then_exit ?_ | refine hx_block_here ?_ | refine hx_far ?_ | refine hx_any ?_ | (apply ha_end; decide +kernel))
  refine hw_if rfl (fun hlt => ?_) (fun hge => ?_)
  · have hu2 : u < xss.length := by omega
    have lu : u < (xss.getD s []).length := by omega
    have cu := rs'.get u lu
    have au := hv.bd s hs u
    repeat' (first | refine hl_a ?_ | refine hq_a ?_ | refine hl_nil ?_ | refine hq_nil ?_ | refine hq_ga ?_ | refine hq_sk ?_ | refine hq_su ?_ | refine hq_gT ?_ | refine hq_gF ?_ | refine hq_gd (fun h => ?_) (fun h => ?_) | refine hl_ga ?_ | refine hl_sk ?_ | refine hl_su ?_ | refine hl_gT ?_ | refine hl_gF ?_ | refine hl_gd (fun h => ?_) (fun h => ?_) | refine hx_next ?_ | refine hw_seq ?_ | refine hw_region ?_ | refine hw_dr ?_ | refine hw_block ?_ | refine hx_block ?_ | refine hw_tt ?_ | refine hw_ff ?_ | refine hw_iT ?_ | refine hw_iF ?_ | refine hw_skip ?_ | refine hw_ret ?_ | refine hw_exit ?_ | refine hx_then_ret ?_ | refine hx_block_ret ?_ | refine hx_then_exit ?_ | refine hx_block_here ?_ | refine hx_far ?_ | refine hx_any ?_ | (apply ha_end; decide +kernel))
    refine hw_loop (fun e r m => ∃ q : Nat, r = [rE 2 (Value.int .i64) x (apL xss.length (xss.getD s []) (xss.getD t []) (u * xss.length + q))] ∧ q ≤ xss.length ∧ m = xss.length - q ∧ e = [(9, .int .i64 (xss.length : Int)), (10, row s), (11, row t), (12, x), (13, .int .i64 (u : Int)), (14, .int .i64 (q : Int))])
      ⟨0, rfl, Nat.zero_le _, rfl, rfl⟩ ⟨rfl, rfl, rfl, rfl, rfl, rfl, trivial⟩ ?_
    rintro _ _ _ ⟨q, rfl, hq, rfl, rfl⟩
    repeat' (first | refine hl_a ?_ | refine hq_a ?_ | refine hl_nil ?_ | refine hq_nil ?_ | refine hq_ga ?_ | refine hq_sk ?_ | refine hq_su ?_ | refine hq_gT ?_ | refine hq_gF ?_ | refine hq_gd (fun h => ?_) (fun h => ?_) | refine hl_ga ?_ | refine hl_sk ?_ | refine hl_su ?_ | refine hl_gT ?_ | refine hl_gF ?_ | refine hl_gd (fun h => ?_) (fun h => ?_) | refine hx_next ?_ | refine hw_seq ?_ | refine hw_region ?_ | refine hw_dr ?_ | refine hw_block ?_ | refine hx_block ?_ | refine hw_tt ?_ | refine hw_ff ?_ | refine hw_iT ?_ | refine hw_iF ?_ | refine hw_skip ?_ | refine hw_ret ?_ | refine hw_exit ?_ | refine hx_then_ret ?_ | refine hx_block_ret ?_ | refine hx_then_exit ?_ | refine hx_block_here ?_ | refine hx_far ?_ | refine hx_any ?_ | (apply ha_end; decide +kernel))
    refine hw_if rfl (fun hlt2 => ?_) (fun hge2 => ?_)
    · have hq2 : q < xss.length := by omega
      have lq : q < (xss.getD t []).length := by omega
      have cq := rt.get q lq
      have aq := hv.bd t ht q
      have hi := idx_lt hu2 hq2
      have hal := apL_length xss.length (xss.getD s []) (xss.getD t []) (u * xss.length + q)
      have mm := mul_bd (A := 60) (B := 60) (a := (xss.getD s []).getD u 0) (b := (xss.getD t []).getD q 0) au aq
      repeat' (first | refine hl_a ?_ | refine hq_a ?_ | refine hl_nil ?_ | refine hq_nil ?_ | refine hq_ga ?_ | refine hq_sk ?_ | refine hq_su ?_ | refine hq_gT ?_ | refine hq_gF ?_ | refine hq_gd (fun h => ?_) (fun h => ?_) | refine hl_ga ?_ | refine hl_sk ?_ | refine hl_su ?_ | refine hl_gT ?_ | refine hl_gF ?_ | refine hl_gd (fun h => ?_) (fun h => ?_) | refine hx_next ?_ | refine hw_seq ?_ | refine hw_region ?_ | refine hw_block ?_ | refine hx_block ?_ | refine hw_tt ?_ | refine hw_ff ?_ | refine hw_iT ?_ | refine hw_iF ?_ | refine hw_skip ?_ | refine hw_ret ?_ | refine hw_exit ?_ | refine hx_then_ret ?_ | refine hx_block_ret ?_ | refine hx_then_exit ?_ | refine hx_block_here ?_ | refine hx_far ?_ | refine hx_any ?_ | (apply ha_end; decide +kernel))
      refine hw_g [rE 2 (Value.int .i64) x (apL xss.length (xss.getD s []) (xss.getD t []) (u * xss.length + q))] 16 (by kernel_rfl) ?_
      first | refine hg_t 0 ?_ | refine hg_tn 0 ?_
      first | refine hg_t 1 ?_ | refine hg_tn 1 ?_
      first | refine hg_t 2 ?_ | refine hg_tn 2 ?_
      refine hg_t 3 ?_ (hq := by exact q_mulN (a := u) (b := xss.length) rfl rfl (by omega))
      first | refine hg_t 4 ?_ | refine hg_tn 4 ?_
      refine hg_t 5 ?_ (hq := by exact q_addN (a := u * xss.length) (b := q) rfl rfl (by omega))
      first | refine hg_t 6 ?_ | refine hg_tn 6 ?_
      first | refine hg_t 7 ?_ | refine hg_tn 7 ?_
      first | refine hg_t 8 ?_ | refine hg_tn 8 ?_
      first | refine hg_t 9 ?_ | refine hg_tn 9 ?_
      first | refine hg_t 10 ?_ | refine hg_tn 10 ?_
      first | refine hg_t 11 ?_ | refine hg_tn 11 ?_
      first | refine hg_t 12 ?_ | refine hg_tn 12 ?_
      first | refine hg_t 13 ?_ | refine hg_tn 13 ?_
      first | refine hg_t 14 ?_ | refine hg_tn 14 ?_
      first | refine hg_t 15 ?_ | refine hg_tn 15 ?_
      refine hg_1 16 (by decide +kernel) rfl ?_
      refine hl_storeE 0 (u * xss.length + q) ((xss.getD s []).getD u 0 * (xss.getD t []).getD q 0) rfl rfl (by rw [hal]; exact hi) rfl rfl ?_
      refine hl_nil ?_
      refine hx_hgT rfl ?_
      refine hg_end (by decide +kernel) ?_
      repeat' (first | refine hl_a ?_ | refine hq_a ?_ | refine hl_nil ?_ | refine hq_nil ?_ | refine hq_ga ?_ | refine hq_sk ?_ | refine hq_su ?_ | refine hq_gT ?_ | refine hq_gF ?_ | refine hq_gd (fun h => ?_) (fun h => ?_) | refine hl_ga ?_ | refine hl_sk ?_ | refine hl_su ?_ | refine hl_gT ?_ | refine hl_gF ?_ | refine hl_gd (fun h => ?_) (fun h => ?_) | refine hx_next ?_ | refine hw_seq ?_ | refine hw_region ?_ | refine hw_block ?_ | refine hx_block ?_ | refine hw_tt ?_ | refine hw_ff ?_ | refine hw_iT ?_ | refine hw_iF ?_ | refine hw_skip ?_ | refine hw_ret ?_ | refine hw_exit ?_ | refine hx_then_ret ?_ | refine hx_block_ret ?_ | refine hx_then_exit ?_ | refine hx_block_here ?_ | refine hx_far ?_ | refine hx_any ?_ | (apply ha_end; decide +kernel))
      exact hx_round ⟨q + 1, by rw [← apL_set _ _ _ _ _ hq2 hi]; rfl, hq2, rfl, rfl⟩ (by omega) ⟨rfl, rfl, rfl, rfl, rfl, rfl, trivial⟩
    · have e : q = xss.length := by omega
      subst e
      repeat' (first | refine hl_a ?_ | refine hq_a ?_ | refine hl_nil ?_ | refine hq_nil ?_ | refine hq_ga ?_ | refine hq_sk ?_ | refine hq_su ?_ | refine hq_gT ?_ | refine hq_gF ?_ | refine hq_gd (fun h => ?_) (fun h => ?_) | refine hl_ga ?_ | refine hl_sk ?_ | refine hl_su ?_ | refine hl_gT ?_ | refine hl_gF ?_ | refine hl_gd (fun h => ?_) (fun h => ?_) | refine hx_next ?_ | refine hw_seq ?_ | refine hw_region ?_ | refine hw_dr ?_ | refine hw_block ?_ | refine hx_block ?_ | refine hw_tt ?_ | refine hw_ff ?_ | refine hw_iT ?_ | refine hw_iF ?_ | refine hw_skip ?_ | refine hw_ret ?_ | refine hw_exit ?_ | refine hx_then_ret ?_ | refine hx_block_ret ?_ | refine hx_then_exit ?_ | refine hx_block_here ?_ | refine hx_far ?_ | refine hx_any ?_ | (apply ha_end; decide +kernel))
      have e2 : u * xss.length + xss.length = (u + 1) * xss.length + 0 := by rw [Nat.succ_mul]; rfl
      rw [e2]
      exact hx_round ⟨u + 1, rfl, hu2, rfl, rfl⟩ (by omega) ⟨rfl, rfl, rfl, rfl, rfl, trivial⟩
  · have e : u = xss.length := by omega
    subst e
    repeat' (first | refine hl_a ?_ | refine hq_a ?_ | refine hl_nil ?_ | refine hq_nil ?_ | refine hq_ga ?_ | refine hq_sk ?_ | refine hq_su ?_ | refine hq_gT ?_ | refine hq_gF ?_ | refine hq_gd (fun h => ?_) (fun h => ?_) | refine hl_ga ?_ | refine hl_sk ?_ | refine hl_su ?_ | refine hl_gT ?_ | refine hl_gF ?_ | refine hl_gd (fun h => ?_) (fun h => ?_) | refine hx_next ?_ | refine hw_seq ?_ | refine hw_region ?_ | refine hw_dr ?_ | refine hw_block ?_ | refine hx_block ?_ | refine hw_tt ?_ | refine hw_ff ?_ | refine hw_iT ?_ | refine hw_iF ?_ | refine hw_skip ?_ | refine hw_ret ?_ | refine hw_exit ?_ | refine hx_then_ret ?_ | refine hx_block_ret ?_ | refine hx_then_exit ?_ | refine hx_block_here ?_ | refine hx_far ?_ | refine hx_any ?_ | (apply ha_end; decide +kernel))
    exact hx_ret1 rfl rfl (fun w hm => ⟨_, _, rfl, hm, rfl, by rw [rowA_length]; exact hx⟩)
set_option maxHeartbeats 2000000 in
theorem l04Row1_c (p : Addr) (st tot : Int) (v : Value) (xss : List (List Int)) (row : Nat → Value) (s t : Nat) (w : World) (hp : PtC w p st tot v xss row) (hv : Valid st tot xss) (hn : xss.length ≤ 4) (hs : s < xss.length) (ht : t < xss.length) :
    Gives Try.prog 96 [.pointer (some p), .int .i64 (s : Int), .int .i64 (t : Int), .int .i64 1] w (OutE 2 (Value.int .i64) (rowS xss s t)) := by
  refine calls_hw Try.func96 Try.ntmps96 rfl rfl ?_
  obtain ⟨rfl, hn1, hn2⟩ := hv.nat
  obtain ⟨h0, h1, h2, hr⟩ := hp
  have hsl := hr.sl
  have cs := hr.get s hs
  have ct := hr.get t ht
  have rs' := hr.row s hs
  have rt := hr.row t ht
  have ss := rs'.sl
  have l1 := hv.rlen s hs
  have l2 := hv.rlen t ht
  rw [l1] at ss
  have h16 : xss.length * xss.length ≤ 16 := Nat.mul_le_mul hn hn
  have e0 : ¬ ((1 : Int) = 0) := by decide
  have e1 : ¬ ((1 : Int) = 2) := by decide
  repeat' (first | refine hl_a ?_ | refine hq_a ?_ | refine hl_nil ?_ | refine hq_nil ?_ | refine hq_ga ?_ | refine hq_sk ?_ | refine hq_su ?_ | refine hq_gT ?_ | refine hq_gF ?_ | refine hq_gd (fun h => ?_) (fun h => ?_) | refine hl_ga ?_ | refine hl_sk ?_ | refine hl_su ?_ | refine hl_gT ?_ | refine hl_gF ?_ | refine hl_gd (fun h => ?_) (fun h => ?_) | refine hx_next ?_ | refine hw_seq ?_ | refine hw_region ?_ | refine hw_dr ?_ | refine hw_block ?_ | refine hx_block ?_ | refine hw_tt ?_ | refine hw_ff ?_ | refine hw_iT ?_ | refine hw_iF ?_ | refine hw_skip ?_ | refine hw_ret ?_ | refine hw_exit ?_ | refine hx_then_ret ?_ | refine hx_block_ret ?_ | refine hx_then_exit ?_ | refine hx_block_here ?_ | refine hx_far ?_ | refine hx_any ?_ | (apply ha_end; decide +kernel))
  first | refine hl_q (by decide) (q_mulN (a := xss.length) (b := xss.length) rfl rfl (by omega)) ?_ | refine hq_q (by decide) (q_mulN (a := xss.length) (b := xss.length) rfl rfl (by omega)) ?_ | refine hl_g _ _ rfl rfl (by decide) (q_mulN (a := xss.length) (b := xss.length) rfl rfl (by omega)) ?_ | refine hq_g _ _ rfl rfl (by decide) (q_mulN (a := xss.length) (b := xss.length) rfl rfl (by omega)) ?_
  refine hl_make (by decide) rfl rfl (by omega) (by unfold maxLen; omega) (fun x hx => ?_)
  rw [toList_madeCells1 _ rfl, tab0]
  refine hl_mem (fun w hm => mem_zer (A := []) hm) ?_
  repeat' (first | refine hl_a ?_ | refine hq_a ?_ | refine hl_nil ?_ | refine hq_nil ?_ | refine hq_ga ?_ | refine hq_sk ?_ | refine hq_su ?_ | refine hq_gT ?_ | refine hq_gF ?_ | refine hq_gd (fun h => ?_) (fun h => ?_) | refine hl_ga ?_ | refine hl_sk ?_ | refine hl_su ?_ | refine hl_gT ?_ | refine hl_gF ?_ | refine hl_gd (fun h => ?_) (fun h => ?_) | refine hx_next ?_ | refine hw_seq ?_ | refine hw_region ?_ | refine hw_dr ?_ | refine hw_block ?_ | refine hx_block ?_ | refine hw_tt ?_ | refine hw_ff ?_ | refine hw_iT ?_ | refine hw_iF ?_ | refine hw_skip ?_ | refine hw_ret ?_ | refine hw_exit ?_ | refine hx_then_ret ?_ | refine hx_block_ret ?_ | refine hx_then_exit ?_ | refine hx_block_here ?_ | refine hx_far ?_ | refine hx_any ?_ | (apply ha_end; decide +kernel))
  refine hl_mutF 0 rfl (by decide) (l04Stair_c x xss.length (zer (xss.length * xss.length)) w _ (row s) (row t) (xss.getD s []) (xss.getD t []) (fun w hm => rs'.up hm.below) (fun w hm => rt.up hm.below) l1 l2 hn1 hn (hv.bd s hs) (hv.bd t ht) (zer_length _) (bd_zer _ _ (by decide)) ss) rfl ?_
  rintro _ _ ⟨rfl, rfl⟩
  repeat' (first | refine hl_a ?_ | refine hq_a ?_ | refine hl_nil ?_ | refine hq_nil ?_ | refine hq_ga ?_ | refine hq_sk ?_ | refine hq_su ?_ | refine hq_gT ?_ | refine hq_gF ?_ | refine hq_gd (fun h => ?_) (fun h => ?_) | refine hl_ga ?_ | refine hl_sk ?_ | refine hl_su ?_ | refine hl_gT ?_ | refine hl_gF ?_ | refine hl_gd (fun h => ?_) (fun h => ?_) | refine hx_next ?_ | refine hw_seq ?_ | refine hw_region ?_ | refine hw_dr ?_ | refine hw_block ?_ | refine hx_block ?_ | refine hw_tt ?_ | refine hw_ff ?_ | refine hw_iT ?_ | refine hw_iF ?_ | refine hw_skip ?_ | refine hw_ret ?_ | refine hw_exit ?_ | refine hx_then_ret ?_ | refine hx_block_ret ?_ | refine hx_then_exit ?_ | refine hx_block_here ?_ | refine hx_far ?_ | refine hx_any ?_ | (apply ha_end; decide +kernel))
  exact hx_ret1 rfl rfl (fun w hm => ⟨_, _, rfl, hm, rfl, by rw [rowS_length]; exact hx⟩)
set_option maxHeartbeats 2000000 in
theorem l04Row2_c (p : Addr) (st tot : Int) (v : Value) (xss : List (List Int)) (row : Nat → Value) (s t : Nat) (w : World) (hp : PtC w p st tot v xss row) (hv : Valid st tot xss) (hn : xss.length ≤ 4) (hs : s < xss.length) (ht : t < xss.length) :
    Gives Try.prog 96 [.pointer (some p), .int .i64 (s : Int), .int .i64 (t : Int), .int .i64 2] w (OutE 2 (Value.int .i64) (rowB xss s t)) := by
  refine calls_hw Try.func96 Try.ntmps96 rfl rfl ?_
  obtain ⟨rfl, hn1, hn2⟩ := hv.nat
  obtain ⟨h0, h1, h2, hr⟩ := hp
  have hsl := hr.sl
  have cs := hr.get s hs
  have ct := hr.get t ht
  have rs' := hr.row s hs
  have rt := hr.row t ht
  have l1 := hv.rlen s hs
  have l2 := hv.rlen t ht
  have h16 : xss.length * xss.length ≤ 16 := Nat.mul_le_mul hn hn
  have hok := fun k hk => bsA_ok l1 l2 (hv.bd s hs) (hv.bd t ht) k hk
  have e0 : ¬ ((2 : Int) = 0) := by decide
  have e1 : (2 : Int) = 2 := rfl
  repeat' (first | refine hl_a ?_ | refine hq_a ?_ | refine hl_nil ?_ | refine hq_nil ?_ | refine hq_ga ?_ | refine hq_sk ?_ | refine hq_su ?_ | refine hq_gT ?_ | refine hq_gF ?_ | refine hq_gd (fun h => ?_) (fun h => ?_) | refine hl_ga ?_ | refine hl_sk ?_ | refine hl_su ?_ | refine hl_gT ?_ | refine hl_gF ?_ | refine hl_gd (fun h => ?_) (fun h => ?_) | refine hx_next ?_ | refine hw_seq ?_ | refine hw_region ?_ | refine hw_dr ?_ | refine hw_block ?_ | refine hx_block ?_ | refine hw_tt ?_ | refine hw_ff ?_ | refine hw_iT ?_ | refine hw_iF ?_ | refine hw_skip ?_ | refine hw_ret ?_ | refine hw_exit ?_ | refine hx_then_ret ?_ | refine hx_block_ret ?_ | refine hx_then_exit ?_ | refine hx_block_here ?_ | refine hx_far ?_ | refine hx_any ?_ | (apply ha_end; decide +kernel))
  first | refine hl_q (by decide) (q_mulN (a := xss.length) (b := xss.length) rfl rfl (by omega)) ?_ | refine hq_q (by decide) (q_mulN (a := xss.length) (b := xss.length) rfl rfl (by omega)) ?_ | refine hl_g _ _ rfl rfl (by decide) (q_mulN (a := xss.length) (b := xss.length) rfl rfl (by omega)) ?_ | refine hq_g _ _ rfl rfl (by decide) (q_mulN (a := xss.length) (b := xss.length) rfl rfl (by omega)) ?_
  refine hl_make (by decide) rfl rfl (by omega) (by unfold maxLen; omega) (fun x hx => ?_)
  rw [toList_madeCells1 _ rfl, tab0]
  refine hl_mem (fun w hm => mem_zer (A := []) hm) ?_
  repeat' (first | refine hl_a ?_ | refine hq_a ?_ | refine hl_nil ?_ | refine hq_nil ?_ | refine hq_ga ?_ | refine hq_sk ?_ | refine hq_su ?_ | refine hq_gT ?_ | refine hq_gF ?_ | refine hq_gd (fun h => ?_) (fun h => ?_) | refine hl_ga ?_ | refine hl_sk ?_ | refine hl_su ?_ | refine hl_gT ?_ | refine hl_gF ?_ | refine hl_gd (fun h => ?_) (fun h => ?_) | refine hx_next ?_ | refine hw_seq ?_ | refine hw_region ?_ | refine hw_dr ?_ | refine hw_block ?_ | refine hx_block ?_ | refine hw_tt ?_ | refine hw_ff ?_ | refine hw_iT ?_ | refine hw_iF ?_ | refine hw_skip ?_ | refine hw_ret ?_ | refine hw_exit ?_ | refine hx_then_ret ?_ | refine hx_block_ret ?_ | refine hx_then_exit ?_ | refine hx_block_here ?_ | refine hx_far ?_ | refine hx_any ?_ | (apply ha_end; decide +kernel))
  refine hl_call (by decide) (fun w hm => l00Own_w (row s) (xss.getD s []) (by omega) (by omega) w (rs'.up hm.below)) rfl ?_
  rintro va _ ⟨rfl, hva⟩
  repeat' (first | refine hl_a ?_ | refine hq_a ?_ | refine hl_nil ?_ | refine hq_nil ?_ | refine hq_ga ?_ | refine hq_sk ?_ | refine hq_su ?_ | refine hq_gT ?_ | refine hq_gF ?_ | refine hq_gd (fun h => ?_) (fun h => ?_) | refine hl_ga ?_ | refine hl_sk ?_ | refine hl_su ?_ | refine hl_gT ?_ | refine hl_gF ?_ | refine hl_gd (fun h => ?_) (fun h => ?_) | refine hx_next ?_ | refine hw_seq ?_ | refine hw_region ?_ | refine hw_dr ?_ | refine hw_block ?_ | refine hx_block ?_ | refine hw_tt ?_ | refine hw_ff ?_ | refine hw_iT ?_ | refine hw_iF ?_ | refine hw_skip ?_ | refine hw_ret ?_ | refine hw_exit ?_ | refine hx_then_ret ?_ | refine hx_block_ret ?_ | refine hx_then_exit ?_ | refine hx_block_here ?_ | refine hx_far ?_ | refine hx_any ?_ | (apply ha_end; decide +kernel))
  refine hl_call (by decide) (fun w hm => l00Own_w (row t) (xss.getD t []) (by omega) (by omega) w (rt.up hm.below)) rfl ?_
  rintro vb _ ⟨rfl, hvb⟩
  rw [l1] at hva
  rw [l2] at hvb
  repeat' (first | refine hl_a ?_ | refine hq_a ?_ | refine hl_nil ?_ | refine hq_nil ?_ | refine hq_ga ?_ | refine hq_sk ?_ | refine hq_su ?_ | refine hq_gT ?_ | refine hq_gF ?_ | refine hq_gd (fun h => ?_) (fun h => ?_) | refine hl_ga ?_ | refine hl_sk ?_ | refine hl_su ?_ | refine hl_gT ?_ | refine hl_gF ?_ | refine hl_gd (fun h => ?_) (fun h => ?_) | refine hx_next ?_ | refine hw_seq ?_ | refine hw_region ?_ | refine hw_dr ?_ | refine hw_block ?_ | refine hx_block ?_ | refine hw_tt ?_ | refine hw_ff ?_ | refine hw_iT ?_ | refine hw_iF ?_ | refine hw_skip ?_ | refine hw_ret ?_ | refine hw_exit ?_ | refine hx_then_ret ?_ | refine hx_block_ret ?_ | refine hx_then_exit ?_ | refine hx_block_here ?_ | refine hx_far ?_ | refine hx_any ?_ | (apply ha_end; decide +kernel))
  refine hw_loop (fun e r m => ∃ k : Nat, r = [rE 2 (Value.int .i64) x (bsA xss.length (xss.getD s []) (xss.getD t []) k).2.2, rE 2 (Value.int .i64) va (bsA xss.length (xss.getD s []) (xss.getD t []) k).1, rE 2 (Value.int .i64) vb (bsA xss.length (xss.getD s []) (xss.getD t []) k).2.1] ∧ k ≤ xss.length ∧ m = xss.length - k ∧ e = [(9, .int .i64 (xss.length : Int)), (10, va), (11, vb), (12, x), (15, .int .i64 (k : Int))])
    ⟨0, rfl, Nat.zero_le _, rfl, rfl⟩ ⟨rfl, rfl, rfl, rfl, rfl, trivial⟩ ?_
  rintro _ _ _ ⟨k, rfl, hk, rfl, rfl⟩
  have ok := hok k hk
  obtain ⟨A, hA⟩ : ∃ A, (bsA xss.length (xss.getD s []) (xss.getD t []) k).1 = A := ⟨_, rfl⟩
  obtain ⟨B, hB⟩ : ∃ B, (bsA xss.length (xss.getD s []) (xss.getD t []) k).2.1 = B := ⟨_, rfl⟩
  obtain ⟨L, hL⟩ : ∃ L, (bsA xss.length (xss.getD s []) (xss.getD t []) k).2.2 = L := ⟨_, rfl⟩
  have o1 := ok.l1
  have o2 := ok.l2
  have o3 := ok.l3
  have o4 := ok.b1
  have o5 := ok.b2
  have o6 := ok.b3
  have o7 := ok.z
  rw [hA] at o1 o4
  rw [hB] at o2 o5
  rw [hL] at o3 o6 o7
  have hz : L.getD (k * xss.length + k) 0 = 0 := o7 _ (by omega)
  have hS1 : (bsA xss.length (xss.getD s []) (xss.getD t []) (k + 1)).1 = A.set k (A.getD k 0 - mnI (A.getD k 0) (B.getD k 0)) := by rw [← hA, ← hB]; rfl
  have hS2 : (bsA xss.length (xss.getD s []) (xss.getD t []) (k + 1)).2.1 = B.set k (B.getD k 0 - mnI (A.getD k 0) (B.getD k 0)) := by rw [← hA, ← hB]; rfl
  have hS3 : (bsA xss.length (xss.getD s []) (xss.getD t []) (k + 1)).2.2 = L.set (k * xss.length + k) (mnI (A.getD k 0) (B.getD k 0)) := by
    have : (bsA xss.length (xss.getD s []) (xss.getD t []) (k + 1)).2.2 = addAt xss.length L k k (mnI (A.getD k 0) (B.getD k 0)) := by rw [← hA, ← hB, ← hL]; rfl
    rw [this, addAt, hz, Int.zero_add]
  rw [hA, hB, hL]
  repeat' (first | refine hl_a ?_ | refine hq_a ?_ | refine hl_nil ?_ | refine hq_nil ?_ | refine hq_ga ?_ | refine hq_sk ?_ | refine hq_su ?_ | refine hq_gT ?_ | refine hq_gF ?_ | refine hq_gd (fun h => ?_) (fun h => ?_) | refine hl_ga ?_ | refine hl_sk ?_ | refine hl_su ?_ | refine hl_gT ?_ | refine hl_gF ?_ | refine hl_gd (fun h => ?_) (fun h => ?_) | refine hx_next ?_ | refine hw_seq ?_ | refine hw_region ?_ | refine hw_dr ?_ | refine hw_block ?_ | refine hx_block ?_ | refine hw_tt ?_ | refine hw_ff ?_ | refine hw_iT ?_ | refine hw_iF ?_ | refine hw_skip ?_ | refine hw_ret ?_ | refine hw_exit ?_ | refine hx_then_ret ?_ | refine hx_block_ret ?_ | refine hx_then_exit ?_ | refine hx_block_here ?_ | refine hx_far ?_ | refine hx_any ?_ | (apply ha_end; decide +kernel))
  refine hw_if rfl (fun hlt => ?_) (fun hge => ?_)
  · have hk2 : k < xss.length := by omega
    have i1 : k < A.length := by omega
    have i2 : k < B.length := by omega
    have hi := idx_lt hk2 hk2
    have i3 : k * xss.length + k < L.length := by omega
    have hw := mnI_bd (o4 k) (o5 k)
    have c1 := o4 k
    have c2 := o5 k
    have h1 := fun (R : Res) (b : List Int) => ld_E (w0 := w) (rs := [R, rE 2 (Value.int .i64) va A, rE 2 (Value.int .i64) vb b]) (e := 2) (enc := Value.int .i64) (v := va) (xs := A) 1 (j := k) 0 rfl i1
    have h2 := fun (R : Res) (a : List Int) => ld_E (w0 := w) (rs := [R, rE 2 (Value.int .i64) va a, rE 2 (Value.int .i64) vb B]) (e := 2) (enc := Value.int .i64) (v := vb) (xs := B) 2 (j := k) 0 rfl i2
    have h1a := h1 (rE 2 (Value.int .i64) x L) B
    have h2a := h2 (rE 2 (Value.int .i64) x L) A
    have h1b := h1 (rE 2 (Value.int .i64) x (L.set (k * xss.length + k) (mnI (A.getD k 0) (B.getD k 0)))) B
    have h2b := h2 (rE 2 (Value.int .i64) x (L.set (k * xss.length + k) (mnI (A.getD k 0) (B.getD k 0)))) (A.set k (A.getD k 0 - mnI (A.getD k 0) (B.getD k 0)))
    have hx2 : SlOk x (xss.length * xss.length) := hx
    repeat' (first | refine hl_a ?_ | refine hq_a ?_ | refine hl_nil ?_ | refine hq_nil ?_ | refine hq_ga ?_ | refine hq_sk ?_ | refine hq_su ?_ | refine hq_gT ?_ | refine hq_gF ?_ | refine hq_gd (fun h => ?_) (fun h => ?_) | refine hl_ga ?_ | refine hl_sk ?_ | refine hl_su ?_ | refine hl_gT ?_ | refine hl_gF ?_ | refine hl_gd (fun h => ?_) (fun h => ?_) | refine hx_next ?_ | refine hw_seq ?_ | refine hw_region ?_ | refine hw_dr ?_ | refine hw_block ?_ | refine hx_block ?_ | refine hw_tt ?_ | refine hw_ff ?_ | refine hw_iT ?_ | refine hw_iF ?_ | refine hw_skip ?_ | refine hw_ret ?_ | refine hw_exit ?_ | refine hx_then_ret ?_ | refine hx_block_ret ?_ | refine hx_then_exit ?_ | refine hx_block_here ?_ | refine hx_far ?_ | refine hx_any ?_ | (apply ha_end; decide +kernel))
    first | refine hl_q (by decide) (q_call (fun w hm => l00Min_v (A.getD k 0) (B.getD k 0) w) rfl) ?_ | refine hq_q (by decide) (q_call (fun w hm => l00Min_v (A.getD k 0) (B.getD k 0) w) rfl) ?_ | refine hl_g _ _ rfl rfl (by decide) (q_call (fun w hm => l00Min_v (A.getD k 0) (B.getD k 0) w) rfl) ?_ | refine hq_g _ _ rfl rfl (by decide) (q_call (fun w hm => l00Min_v (A.getD k 0) (B.getD k 0) w) rfl) ?_
    repeat' (first | refine hl_a ?_ | refine hq_a ?_ | refine hl_nil ?_ | refine hq_nil ?_ | refine hq_ga ?_ | refine hq_sk ?_ | refine hq_su ?_ | refine hq_gT ?_ | refine hq_gF ?_ | refine hq_gd (fun h => ?_) (fun h => ?_) | refine hl_ga ?_ | refine hl_sk ?_ | refine hl_su ?_ | refine hl_gT ?_ | refine hl_gF ?_ | refine hl_gd (fun h => ?_) (fun h => ?_) | refine hx_next ?_ | refine hw_seq ?_ | refine hw_region ?_ | refine hw_dr ?_ | refine hw_block ?_ | refine hx_block ?_ | refine hw_tt ?_ | refine hw_ff ?_ | refine hw_iT ?_ | refine hw_iF ?_ | refine hw_skip ?_ | refine hw_ret ?_ | refine hw_exit ?_ | refine hx_then_ret ?_ | refine hx_block_ret ?_ | refine hx_then_exit ?_ | refine hx_block_here ?_ | refine hx_far ?_ | refine hx_any ?_ | (apply ha_end; decide +kernel))
    first | refine hl_q (by decide) (q_mulN (a := k) (b := xss.length) rfl rfl (by omega)) ?_ | refine hq_q (by decide) (q_mulN (a := k) (b := xss.length) rfl rfl (by omega)) ?_ | refine hl_g _ _ rfl rfl (by decide) (q_mulN (a := k) (b := xss.length) rfl rfl (by omega)) ?_ | refine hq_g _ _ rfl rfl (by decide) (q_mulN (a := k) (b := xss.length) rfl rfl (by omega)) ?_
    refine hl_a ?_
    first | refine hl_q (by decide) (q_addN (a := k * xss.length) (b := k) rfl rfl (by omega)) ?_ | refine hq_q (by decide) (q_addN (a := k * xss.length) (b := k) rfl rfl (by omega)) ?_ | refine hl_g _ _ rfl rfl (by decide) (q_addN (a := k * xss.length) (b := k) rfl rfl (by omega)) ?_ | refine hq_g _ _ rfl rfl (by decide) (q_addN (a := k * xss.length) (b := k) rfl rfl (by omega)) ?_
    repeat' (first | refine hl_a ?_ | refine hq_a ?_ | refine hl_nil ?_ | refine hq_nil ?_ | refine hq_ga ?_ | refine hq_sk ?_ | refine hq_su ?_ | refine hq_gT ?_ | refine hq_gF ?_ | refine hq_gd (fun h => ?_) (fun h => ?_) | refine hl_ga ?_ | refine hl_sk ?_ | refine hl_su ?_ | refine hl_gT ?_ | refine hl_gF ?_ | refine hl_gd (fun h => ?_) (fun h => ?_) | refine hx_next ?_ | refine hw_seq ?_ | refine hw_region ?_ | refine hw_dr ?_ | refine hw_block ?_ | refine hx_block ?_ | refine hw_tt ?_ | refine hw_ff ?_ | refine hw_iT ?_ | refine hw_iF ?_ | refine hw_skip ?_ | refine hw_ret ?_ | refine hw_exit ?_ | refine hx_then_ret ?_ | refine hx_block_ret ?_ | refine hx_then_exit ?_ | refine hx_block_here ?_ | refine hx_far ?_ | refine hx_any ?_ | (apply ha_end; decide +kernel))
    refine hl_storeE 0 (k * xss.length + k) (mnI (A.getD k 0) (B.getD k 0)) rfl rfl i3 rfl rfl ?_
    repeat' (first | refine hl_a ?_ | refine hq_a ?_ | refine hl_nil ?_ | refine hq_nil ?_ | refine hq_ga ?_ | refine hq_sk ?_ | refine hq_su ?_ | refine hq_gT ?_ | refine hq_gF ?_ | refine hq_gd (fun h => ?_) (fun h => ?_) | refine hl_ga ?_ | refine hl_sk ?_ | refine hl_su ?_ | refine hl_gT ?_ | refine hl_gF ?_ | refine hl_gd (fun h => ?_) (fun h => ?_) | refine hx_next ?_ | refine hw_seq ?_ | refine hw_region ?_ | refine hw_dr ?_ | refine hw_block ?_ | refine hx_block ?_ | refine hw_tt ?_ | refine hw_ff ?_ | refine hw_iT ?_ | refine hw_iF ?_ | refine hw_skip ?_ | refine hw_ret ?_ | refine hw_exit ?_ | refine hx_then_ret ?_ | refine hx_block_ret ?_ | refine hx_then_exit ?_ | refine hx_block_here ?_ | refine hx_far ?_ | refine hx_any ?_ | (apply ha_end; decide +kernel))
    refine hl_storeE 1 k (A.getD k 0 - mnI (A.getD k 0) (B.getD k 0)) rfl rfl i1 rfl rfl ?_
    repeat' (first | refine hl_a ?_ | refine hq_a ?_ | refine hl_nil ?_ | refine hq_nil ?_ | refine hq_ga ?_ | refine hq_sk ?_ | refine hq_su ?_ | refine hq_gT ?_ | refine hq_gF ?_ | refine hq_gd (fun h => ?_) (fun h => ?_) | refine hl_ga ?_ | refine hl_sk ?_ | refine hl_su ?_ | refine hl_gT ?_ | refine hl_gF ?_ | refine hl_gd (fun h => ?_) (fun h => ?_) | refine hx_next ?_ | refine hw_seq ?_ | refine hw_region ?_ | refine hw_dr ?_ | refine hw_block ?_ | refine hx_block ?_ | refine hw_tt ?_ | refine hw_ff ?_ | refine hw_iT ?_ | refine hw_iF ?_ | refine hw_skip ?_ | refine hw_ret ?_ | refine hw_exit ?_ | refine hx_then_ret ?_ | refine hx_block_ret ?_ | refine hx_then_exit ?_ | refine hx_block_here ?_ | refine hx_far ?_ | refine hx_any ?_ | (apply ha_end; decide +kernel))
    refine hl_storeE 2 k (B.getD k 0 - mnI (A.getD k 0) (B.getD k 0)) rfl rfl i2 rfl rfl ?_
    repeat' (first | refine hl_a ?_ | refine hq_a ?_ | refine hl_nil ?_ | refine hq_nil ?_ | refine hq_ga ?_ | refine hq_sk ?_ | refine hq_su ?_ | refine hq_gT ?_ | refine hq_gF ?_ | refine hq_gd (fun h => ?_) (fun h => ?_) | refine hl_ga ?_ | refine hl_sk ?_ | refine hl_su ?_ | refine hl_gT ?_ | refine hl_gF ?_ | refine hl_gd (fun h => ?_) (fun h => ?_) | refine hx_next ?_ | refine hw_seq ?_ | refine hw_region ?_ | refine hw_dr ?_ | refine hw_block ?_ | refine hx_block ?_ | refine hw_tt ?_ | refine hw_ff ?_ | refine hw_iT ?_ | refine hw_iF ?_ | refine hw_skip ?_ | refine hw_ret ?_ | refine hw_exit ?_ | refine hx_then_ret ?_ | refine hx_block_ret ?_ | refine hx_then_exit ?_ | refine hx_block_here ?_ | refine hx_far ?_ | refine hx_any ?_ | (apply ha_end; decide +kernel))
    exact hx_round ⟨k + 1, by rw [hS1, hS2, hS3]; rfl, hk2, rfl, rfl⟩ (by omega) ⟨rfl, rfl, rfl, rfl, rfl, trivial⟩
  · have e : k = xss.length := by omega
    subst e
    repeat' (first | refine hl_a ?_ | refine hq_a ?_ | refine hl_nil ?_ | refine hq_nil ?_ | refine hq_ga ?_ | refine hq_sk ?_ | refine hq_su ?_ | refine hq_gT ?_ | refine hq_gF ?_ | refine hq_gd (fun h => ?_) (fun h => ?_) | refine hl_ga ?_ | refine hl_sk ?_ | refine hl_su ?_ | refine hl_gT ?_ | refine hl_gF ?_ | refine hl_gd (fun h => ?_) (fun h => ?_) | refine hx_next ?_ | refine hw_seq ?_ | refine hw_region ?_ | refine hw_dr ?_ | refine hw_block ?_ | refine hx_block ?_ | refine hw_tt ?_ | refine hw_ff ?_ | refine hw_iT ?_ | refine hw_iF ?_ | refine hw_skip ?_ | refine hw_ret ?_ | refine hw_exit ?_ | refine hx_then_ret ?_ | refine hx_block_ret ?_ | refine hx_then_exit ?_ | refine hx_block_here ?_ | refine hx_far ?_ | refine hx_any ?_ | (apply ha_end; decide +kernel))
    refine hl_mutF 0 rfl (by decide) (l04Stair_c x xss.length L w _ va vb A B (fun w hm => hm.rdIn 0 rfl 0) (fun w hm => hm.rdIn 1 rfl 0) o1 o2 hn1 hn o4 o5 o3 (o6.mono (by decide)) hva) rfl ?_
    rintro _ _ ⟨rfl, rfl⟩
    repeat' (first | refine hl_a ?_ | refine hq_a ?_ | refine hl_nil ?_ | refine hq_nil ?_ | refine hq_ga ?_ | refine hq_sk ?_ | refine hq_su ?_ | refine hq_gT ?_ | refine hq_gF ?_ | refine hq_gd (fun h => ?_) (fun h => ?_) | refine hl_ga ?_ | refine hl_sk ?_ | refine hl_su ?_ | refine hl_gT ?_ | refine hl_gF ?_ | refine hl_gd (fun h => ?_) (fun h => ?_) | refine hx_next ?_ | refine hw_seq ?_ | refine hw_region ?_ | refine hw_dr ?_ | refine hw_block ?_ | refine hx_block ?_ | refine hw_tt ?_ | refine hw_ff ?_ | refine hw_iT ?_ | refine hw_iF ?_ | refine hw_skip ?_ | refine hw_ret ?_ | refine hw_exit ?_ | refine hx_then_ret ?_ | refine hx_block_ret ?_ | refine hx_then_exit ?_ | refine hx_block_here ?_ | refine hx_far ?_ | refine hx_any ?_ | (apply ha_end; decide +kernel))
    exact hx_ret1 rfl rfl (fun w hm => ⟨_, _, rfl, by rw [rowB, hA, hB, hL]; exact Mem.keep [_] hm, rfl, by rw [rowB_length]; exact hx⟩)
set_option maxHeartbeats 4000000 in
theorem l04Make_c (p : Addr) (st tot : Int) (v : Value) (xss : List (List Int)) (row : Nat → Value) (way T : Int) (rowF : Nat → Nat → List Int) (w : World) (hp : PtC w p st tot v xss row) (hlen : ∀ s t, (rowF s t).length = xss.length * xss.length) (hT0 : way = 0 → T = tot * tot) (hT1 : way ≠ 0 → T = tot)
    (hrow : Valid st tot xss → xss.length ≤ 4 → ∀ w', Below w.heap.size w w' → ∀ s t : Nat, s < xss.length → t < xss.length → Gives Try.prog 96 [.pointer (some p), .int .i64 (s : Int), .int .i64 (t : Int), .int .i64 way] w' (OutE 2 (Value.int .i64) (rowF s t))) :
    Gives Try.prog 65 [.pointer (some p), .int .i64 way] w (ChOut 73 2 (coupM st tot xss T rowF)) := by
  refine calls_hw Try.func65 Try.ntmps65 rfl rfl ?_
  obtain ⟨h0, h1, h2, hr⟩ := id hp
  repeat' (first | refine hl_a ?_ | refine hq_a ?_ | refine hl_nil ?_ | refine hq_nil ?_ | refine hq_ga ?_ | refine hq_sk ?_ | refine hq_su ?_ | refine hq_gT ?_ | refine hq_gF ?_ | refine hq_gd (fun h => ?_) (fun h => ?_) | refine hl_ga ?_ | refine hl_sk ?_ | refine hl_su ?_ | refine hl_gT ?_ | refine hl_gF ?_ | refine hl_gd (fun h => ?_) (fun h => ?_) | refine hx_next ?_ | refine hw_seq ?_ | refine hw_region ?_ | refine hw_dr ?_ | refine hw_block ?_ | refine hx_block ?_ | refine hw_tt ?_ | refine hw_ff ?_ | refine hw_iT ?_ | refine hw_iF ?_ | refine hw_skip ?_ | refine hw_ret ?_ | refine hw_exit ?_ | refine hx_then_ret ?_ | refine hx_block_ret ?_ | refine hx_then_exit ?_ | refine hx_block_here ?_ | refine hx_far ?_ | refine hx_any ?_ | (apply ha_end; decide +kernel))
  refine hl_alloc (by decide) (fun b0 => ?_)
  repeat' (first | refine hl_a ?_ | refine hq_a ?_ | refine hl_nil ?_ | refine hq_nil ?_ | refine hq_ga ?_ | refine hq_sk ?_ | refine hq_su ?_ | refine hq_gT ?_ | refine hq_gF ?_ | refine hq_gd (fun h => ?_) (fun h => ?_) | refine hl_ga ?_ | refine hl_sk ?_ | refine hl_su ?_ | refine hl_gT ?_ | refine hl_gF ?_ | refine hl_gd (fun h => ?_) (fun h => ?_) | refine hx_next ?_ | refine hw_seq ?_ | refine hw_region ?_ | refine hw_dr ?_ | refine hw_block ?_ | refine hx_block ?_ | refine hw_tt ?_ | refine hw_ff ?_ | refine hw_iT ?_ | refine hw_iF ?_ | refine hw_skip ?_ | refine hw_ret ?_ | refine hw_exit ?_ | refine hx_then_ret ?_ | refine hx_block_ret ?_ | refine hx_then_exit ?_ | refine hx_block_here ?_ | refine hx_far ?_ | refine hx_any ?_ | (apply ha_end; decide +kernel))
  first | refine hl_q (by decide) (q_call (fun w hm => (hp.up hm.below).ok) rfl) ?_ | refine hq_q (by decide) (q_call (fun w hm => (hp.up hm.below).ok) rfl) ?_ | refine hl_g _ _ rfl rfl (by decide) (q_call (fun w hm => (hp.up hm.below).ok) rfl) ?_ | refine hq_g _ _ rfl rfl (by decide) (q_call (fun w hm => (hp.up hm.below).ok) rfl) ?_
  repeat' (first | refine hl_a ?_ | refine hq_a ?_ | refine hl_nil ?_ | refine hq_nil ?_ | refine hq_ga ?_ | refine hq_sk ?_ | refine hq_su ?_ | refine hq_gT ?_ | refine hq_gF ?_ | refine hq_gd (fun h => ?_) (fun h => ?_) | refine hl_ga ?_ | refine hl_sk ?_ | refine hl_su ?_ | refine hl_gT ?_ | refine hl_gF ?_ | refine hl_gd (fun h => ?_) (fun h => ?_) | refine hx_next ?_ | refine hw_seq ?_ | refine hw_region ?_ | refine hw_dr ?_ | refine hw_block ?_ | refine hx_block ?_ | refine hw_tt ?_ | refine hw_ff ?_ | refine hw_iT ?_ | refine hw_iF ?_ | refine hw_skip ?_ | refine hw_ret ?_ | refine hw_exit ?_ | refine hx_then_ret ?_ | refine hx_block_ret ?_ | refine hx_then_exit ?_ | refine hx_block_here ?_ | refine hx_far ?_ | refine hx_any ?_ | (apply ha_end; decide +kernel))
  refine hw_if rfl (fun h => ?_) (fun h => ?_)
  · repeat' (first | refine hl_a ?_ | refine hq_a ?_ | refine hl_nil ?_ | refine hq_nil ?_ | refine hq_ga ?_ | refine hq_sk ?_ | refine hq_su ?_ | refine hq_gT ?_ | refine hq_gF ?_ | refine hq_gd (fun h => ?_) (fun h => ?_) | refine hl_ga ?_ | refine hl_sk ?_ | refine hl_su ?_ | refine hl_gT ?_ | refine hl_gF ?_ | refine hl_gd (fun h => ?_) (fun h => ?_) | refine hx_next ?_ | refine hw_seq ?_ | refine hw_region ?_ | refine hw_dr ?_ | refine hw_block ?_ | refine hx_block ?_ | refine hw_tt ?_ | refine hw_ff ?_ | refine hw_iT ?_ | refine hw_iF ?_ | refine hw_skip ?_ | refine hw_ret ?_ | refine hw_exit ?_ | refine hx_then_ret ?_ | refine hx_block_ret ?_ | refine hx_then_exit ?_ | refine hx_block_here ?_ | refine hx_far ?_ | refine hx_any ?_ | (apply ha_end; decide +kernel) | (apply hl_q; decide; (first | exact q_bld [] #[.int .i64 0, .int .i64 0, .slice none 0 0] rfl (by kernel_rfl))) | (apply hq_q; decide; (first | exact q_bld [] #[.int .i64 0, .int .i64 0, .slice none 0 0] rfl (by kernel_rfl))) | (apply hq_g; rfl; rfl; decide; (first | exact q_bld [] #[.int .i64 0, .int .i64 0, .slice none 0 0] rfl (by kernel_rfl))) | (apply hl_g; rfl; rfl; decide; (first | exact q_bld [] #[.int .i64 0, .int .i64 0, .slice none 0 0] rfl (by kernel_rfl))))
    refine hl_storeA 0 rfl rfl rfl rfl rfl (chV_one nil_ok) ?_
    repeat' (first | refine hl_a ?_ | refine hq_a ?_ | refine hl_nil ?_ | refine hq_nil ?_ | refine hq_ga ?_ | refine hq_sk ?_ | refine hq_su ?_ | refine hq_gT ?_ | refine hq_gF ?_ | refine hq_gd (fun h => ?_) (fun h => ?_) | refine hl_ga ?_ | refine hl_sk ?_ | refine hl_su ?_ | refine hl_gT ?_ | refine hl_gF ?_ | refine hl_gd (fun h => ?_) (fun h => ?_) | refine hx_next ?_ | refine hw_seq ?_ | refine hw_region ?_ | refine hw_dr ?_ | refine hw_block ?_ | refine hx_block ?_ | refine hw_tt ?_ | refine hw_ff ?_ | refine hw_iT ?_ | refine hw_iF ?_ | refine hw_skip ?_ | refine hw_ret ?_ | refine hw_exit ?_ | refine hx_then_ret ?_ | refine hx_block_ret ?_ | refine hx_then_exit ?_ | refine hx_block_here ?_ | refine hx_far ?_ | refine hx_any ?_ | (apply ha_end; decide +kernel))
    exact hx_retBt 0 rfl rfl rfl rfl rfl (fun w hm => ⟨_, _, rfl, rows_nil 73 2 _ hm.none, by rw [coupM, if_neg h]; exact chErr _ _ _ rfl⟩)
  have hv := Classical.not_not.1 h
  obtain ⟨rfl, hn1, hn2⟩ := hv.nat
  have ht1 := hv.t1
  repeat' (first | refine hl_a ?_ | refine hq_a ?_ | refine hl_nil ?_ | refine hq_nil ?_ | refine hq_ga ?_ | refine hq_sk ?_ | refine hq_su ?_ | refine hq_gT ?_ | refine hq_gF ?_ | refine hq_gd (fun h => ?_) (fun h => ?_) | refine hl_ga ?_ | refine hl_sk ?_ | refine hl_su ?_ | refine hl_gT ?_ | refine hl_gF ?_ | refine hl_gd (fun h => ?_) (fun h => ?_) | refine hx_next ?_ | refine hw_seq ?_ | refine hw_region ?_ | refine hw_dr ?_ | refine hw_block ?_ | refine hx_block ?_ | refine hw_tt ?_ | refine hw_ff ?_ | refine hw_iT ?_ | refine hw_iF ?_ | refine hw_skip ?_ | refine hw_ret ?_ | refine hw_exit ?_ | refine hx_then_ret ?_ | refine hx_block_ret ?_ | refine hx_then_exit ?_ | refine hx_block_here ?_ | refine hx_far ?_ | refine hx_any ?_ | (apply ha_end; decide +kernel))
  refine hw_if rfl (fun h4 => ?_) (fun h4 => ?_)
  · repeat' (first | refine hl_a ?_ | refine hq_a ?_ | refine hl_nil ?_ | refine hq_nil ?_ | refine hq_ga ?_ | refine hq_sk ?_ | refine hq_su ?_ | refine hq_gT ?_ | refine hq_gF ?_ | refine hq_gd (fun h => ?_) (fun h => ?_) | refine hl_ga ?_ | refine hl_sk ?_ | refine hl_su ?_ | refine hl_gT ?_ | refine hl_gF ?_ | refine hl_gd (fun h => ?_) (fun h => ?_) | refine hx_next ?_ | refine hw_seq ?_ | refine hw_region ?_ | refine hw_dr ?_ | refine hw_block ?_ | refine hx_block ?_ | refine hw_tt ?_ | refine hw_ff ?_ | refine hw_iT ?_ | refine hw_iF ?_ | refine hw_skip ?_ | refine hw_ret ?_ | refine hw_exit ?_ | refine hx_then_ret ?_ | refine hx_block_ret ?_ | refine hx_then_exit ?_ | refine hx_block_here ?_ | refine hx_far ?_ | refine hx_any ?_ | (apply ha_end; decide +kernel) | (apply hl_q; decide; (first | exact q_bld [] #[.int .i64 0, .int .i64 0, .slice none 0 0] rfl (by kernel_rfl))) | (apply hq_q; decide; (first | exact q_bld [] #[.int .i64 0, .int .i64 0, .slice none 0 0] rfl (by kernel_rfl))) | (apply hq_g; rfl; rfl; decide; (first | exact q_bld [] #[.int .i64 0, .int .i64 0, .slice none 0 0] rfl (by kernel_rfl))) | (apply hl_g; rfl; rfl; decide; (first | exact q_bld [] #[.int .i64 0, .int .i64 0, .slice none 0 0] rfl (by kernel_rfl))))
    refine hl_storeA 0 rfl rfl rfl rfl rfl (chV_one nil_ok) ?_
    repeat' (first | refine hl_a ?_ | refine hq_a ?_ | refine hl_nil ?_ | refine hq_nil ?_ | refine hq_ga ?_ | refine hq_sk ?_ | refine hq_su ?_ | refine hq_gT ?_ | refine hq_gF ?_ | refine hq_gd (fun h => ?_) (fun h => ?_) | refine hl_ga ?_ | refine hl_sk ?_ | refine hl_su ?_ | refine hl_gT ?_ | refine hl_gF ?_ | refine hl_gd (fun h => ?_) (fun h => ?_) | refine hx_next ?_ | refine hw_seq ?_ | refine hw_region ?_ | refine hw_dr ?_ | refine hw_block ?_ | refine hx_block ?_ | refine hw_tt ?_ | refine hw_ff ?_ | refine hw_iT ?_ | refine hw_iF ?_ | refine hw_skip ?_ | refine hw_ret ?_ | refine hw_exit ?_ | refine hx_then_ret ?_ | refine hx_block_ret ?_ | refine hx_then_exit ?_ | refine hx_block_here ?_ | refine hx_far ?_ | refine hx_any ?_ | (apply ha_end; decide +kernel))
    exact hx_retBt 0 rfl rfl rfl rfl rfl (fun w hm => ⟨_, _, rfl, rows_nil 73 2 _ hm.none, by rw [coupM, if_pos hv, if_pos h4]; exact chErr _ _ _ rfl⟩)
  have hn4 : xss.length ≤ 4 := by omega
  have h16 : xss.length * xss.length ≤ 16 := Nat.mul_le_mul hn4 hn4
  have mt := mul_bd (A := 60) (B := 60) (a := tot) (b := tot) (by omega) (by omega)
  have hM : coupM xss.length tot xss T rowF = ⟨xss.length, T, tab (xss.length * xss.length) fun p => rowF (p / xss.length) (p % xss.length), 0⟩ := by rw [coupM, if_pos hv, if_neg h4]
  repeat' (first | refine hl_a ?_ | refine hq_a ?_ | refine hl_nil ?_ | refine hq_nil ?_ | refine hq_ga ?_ | refine hq_sk ?_ | refine hq_su ?_ | refine hq_gT ?_ | refine hq_gF ?_ | refine hq_gd (fun h => ?_) (fun h => ?_) | refine hl_ga ?_ | refine hl_sk ?_ | refine hl_su ?_ | refine hl_gT ?_ | refine hl_gF ?_ | refine hl_gd (fun h => ?_) (fun h => ?_) | refine hx_next ?_ | refine hw_seq ?_ | refine hw_region ?_ | refine hw_block ?_ | refine hx_block ?_ | refine hw_tt ?_ | refine hw_ff ?_ | refine hw_iT ?_ | refine hw_iF ?_ | refine hw_skip ?_ | refine hw_ret ?_ | refine hw_exit ?_ | refine hx_then_ret ?_ | refine hx_block_ret ?_ | refine hx_then_exit ?_ | refine hx_block_here ?_ | refine hx_far ?_ | refine hx_any ?_ | (apply ha_end; decide +kernel))
  refine hw_g [] 11 (by kernel_rfl) ?_
  first | refine hg_t 0 ?_ | refine hg_tn 0 ?_
  first | refine hg_t 1 ?_ | refine hg_tn 1 ?_
  first | refine hg_t 2 ?_ | refine hg_tn 2 ?_
  first | refine hg_t 3 ?_ | refine hg_tn 3 ?_
  first | refine hg_t 4 ?_ | refine hg_tn 4 ?_
  first | refine hg_t 5 ?_ | refine hg_tn 5 ?_
  first | refine hg_t 6 ?_ | refine hg_tn 6 ?_
  first | refine hg_t 7 ?_ | refine hg_tn 7 ?_
  refine hg_t 8 ?_ (hq := by exact q_bld [(0, .int .i64 (xss.length : Int)), (1, .int .i64 tot)] #[.int .i64 (xss.length : Int), .int .i64 tot, .slice none 0 0] rfl (by kernel_rfl))
  refine hg_1 9 (by decide +kernel) rfl ?_
  refine hl_alloc (by decide) (fun b1 => ?_)
  refine hl_nil ?_
  refine hx_hg (by first | exact fun w hm => hm.none | exact fun w hm => Mem.keep _ hm) ?_
  refine hg_1 10 (by decide +kernel) rfl ?_
  refine hl_storeA 1 rfl rfl rfl rfl rfl (chV_one nil_ok) ?_
  refine hl_nil ?_
  refine hx_hg (by first | exact fun w hm => hm.none | exact fun w hm => Mem.keep _ hm) ?_
  refine hg_end (by decide +kernel) ?_
  repeat' (first | refine hl_a ?_ | refine hq_a ?_ | refine hl_nil ?_ | refine hq_nil ?_ | refine hq_ga ?_ | refine hq_sk ?_ | refine hq_su ?_ | refine hq_gT ?_ | refine hq_gF ?_ | refine hq_gd (fun h => ?_) (fun h => ?_) | refine hl_ga ?_ | refine hl_sk ?_ | refine hl_su ?_ | refine hl_gT ?_ | refine hl_gF ?_ | refine hl_gd (fun h => ?_) (fun h => ?_) | refine hx_next ?_ | refine hw_seq ?_ | refine hw_region ?_ | refine hw_block ?_ | refine hx_block ?_ | refine hw_tt ?_ | refine hw_ff ?_ | refine hw_iT ?_ | refine hw_iF ?_ | refine hw_skip ?_ | refine hw_ret ?_ | refine hw_exit ?_ | refine hx_then_ret ?_ | refine hx_block_ret ?_ | refine hx_then_exit ?_ | refine hx_block_here ?_ | refine hx_far ?_ | refine hx_any ?_ | (apply ha_end; decide +kernel))
  refine hw_meet [(0, .pointer (some p)), (1, .int .i64 way), (4, .pointer (some ⟨b0, 0, none⟩)), (6, .pointer (some ⟨b1, 0, none⟩))] [rBlk b0 #[.int .i64 0, .int .i64 0, .slice none 0 0] 46, rBlk b1 #[.int .i64 (xss.length : Int), .int .i64 T, .slice none 0 0] 46] ?_ ?_
  · refine hw_if rfl (fun hw0 => ?_) (fun hw0 => ?_)
    · rw [hT0 hw0]
      repeat' (first | refine hl_a ?_ | refine hq_a ?_ | refine hl_nil ?_ | refine hq_nil ?_ | refine hq_ga ?_ | refine hq_sk ?_ | refine hq_su ?_ | refine hq_gT ?_ | refine hq_gF ?_ | refine hq_gd (fun h => ?_) (fun h => ?_) | refine hl_ga ?_ | refine hl_sk ?_ | refine hl_su ?_ | refine hl_gT ?_ | refine hl_gF ?_ | refine hl_gd (fun h => ?_) (fun h => ?_) | refine hx_next ?_ | refine hw_seq ?_ | refine hw_region ?_ | refine hw_block ?_ | refine hx_block ?_ | refine hw_tt ?_ | refine hw_ff ?_ | refine hw_iT ?_ | refine hw_iF ?_ | refine hw_skip ?_ | refine hw_ret ?_ | refine hw_exit ?_ | refine hx_then_ret ?_ | refine hx_block_ret ?_ | refine hx_then_exit ?_ | refine hx_block_here ?_ | refine hx_far ?_ | refine hx_any ?_ | (apply ha_end; decide +kernel))
      refine hw_g [] 10 (by kernel_rfl) ?_
      first | refine hg_t 0 ?_ | refine hg_tn 0 ?_
      first | refine hg_t 1 ?_ | refine hg_tn 1 ?_
      first | refine hg_t 2 ?_ | refine hg_tn 2 ?_
      first | refine hg_t 3 ?_ | refine hg_tn 3 ?_
      first | refine hg_t 4 ?_ | refine hg_tn 4 ?_
      first | refine hg_t 5 ?_ | refine hg_tn 5 ?_
      first | refine hg_t 6 ?_ | refine hg_tn 6 ?_
      first | refine hg_t 7 ?_ | refine hg_tn 7 ?_
      first | refine hg_t 8 ?_ | refine hg_tn 8 ?_
      first | refine hg_t 9 ?_ | refine hg_tn 9 ?_
      refine hg_1 10 (by decide +kernel) rfl ?_
      refine hl_storeB 1 rfl rfl rfl rfl rfl rfl ?_
      refine hl_nil ?_
      refine hx_hgT rfl ?_
      refine hg_end (by decide +kernel) ?_
      exact hx_join (by (repeat' apply And.intro) <;> first | exact True.intro | rfl | (simp [Env.at, envOf]; done) | (simp [Env.at, envOf]; omega)) (fun w hm => hm)
    · rw [hT1 hw0]
      repeat' (first | refine hl_a ?_ | refine hq_a ?_ | refine hl_nil ?_ | refine hq_nil ?_ | refine hq_ga ?_ | refine hq_sk ?_ | refine hq_su ?_ | refine hq_gT ?_ | refine hq_gF ?_ | refine hq_gd (fun h => ?_) (fun h => ?_) | refine hl_ga ?_ | refine hl_sk ?_ | refine hl_su ?_ | refine hl_gT ?_ | refine hl_gF ?_ | refine hl_gd (fun h => ?_) (fun h => ?_) | refine hx_next ?_ | refine hw_seq ?_ | refine hw_region ?_ | refine hw_dr ?_ | refine hw_block ?_ | refine hx_block ?_ | refine hw_tt ?_ | refine hw_ff ?_ | refine hw_iT ?_ | refine hw_iF ?_ | refine hw_skip ?_ | refine hw_ret ?_ | refine hw_exit ?_ | refine hx_then_ret ?_ | refine hx_block_ret ?_ | refine hx_then_exit ?_ | refine hx_block_here ?_ | refine hx_far ?_ | refine hx_any ?_ | (apply ha_end; decide +kernel))
      exact hx_join (by (repeat' apply And.intro) <;> first | exact True.intro | rfl | (simp [Env.at, envOf]; done) | (simp [Env.at, envOf]; omega)) (fun w hm => hm)
  repeat' (first | refine hl_a ?_ | refine hq_a ?_ | refine hl_nil ?_ | refine hq_nil ?_ | refine hq_ga ?_ | refine hq_sk ?_ | refine hq_su ?_ | refine hq_gT ?_ | refine hq_gF ?_ | refine hq_gd (fun h => ?_) (fun h => ?_) | refine hl_ga ?_ | refine hl_sk ?_ | refine hl_su ?_ | refine hl_gT ?_ | refine hl_gF ?_ | refine hl_gd (fun h => ?_) (fun h => ?_) | refine hx_next ?_ | refine hw_seq ?_ | refine hw_region ?_ | refine hw_dr ?_ | refine hw_block ?_ | refine hx_block ?_ | refine hw_tt ?_ | refine hw_ff ?_ | refine hw_iT ?_ | refine hw_iF ?_ | refine hw_skip ?_ | refine hw_ret ?_ | refine hw_exit ?_ | refine hx_then_ret ?_ | refine hx_block_ret ?_ | refine hx_then_exit ?_ | refine hx_block_here ?_ | refine hx_far ?_ | refine hx_any ?_ | (apply ha_end; decide +kernel))
  refine hw_mem (fun w hm => (hm.nilOwn 73 1).empty) ?_
  refine hw_loop (fun e r m => ∃ (i : Nat) (u : Value) (vs : List Value), r = [rBlk b0 #[.int .i64 0, .int .i64 0, .slice none 0 0] 46, rBlk b1 #[.int .i64 (xss.length : Int), .int .i64 T, u] 46, rOwn 73 1 u i vs, rStar (rRow 2 (Value.int .i64) vs (tab i fun p => rowF (p / xss.length) (p % xss.length)))] ∧ vs.length = i ∧ i ≤ xss.length * xss.length ∧ m = xss.length * xss.length - i ∧ e = [(0, .pointer (some p)), (1, .int .i64 way), (4, .pointer (some ⟨b0, 0, none⟩)), (6, .pointer (some ⟨b1, 0, none⟩)), (7, .int .i64 (i : Int))])
    ⟨0, .slice none 0 0, [], rfl, rfl, Nat.zero_le _, rfl, rfl⟩ ⟨rfl, rfl, rfl, rfl, rfl, trivial⟩ ?_
  rintro _ _ _ ⟨i, u, vs, rfl, hvs, hi, rfl, rfl⟩
  repeat' (first | refine hl_a ?_ | refine hq_a ?_ | refine hl_nil ?_ | refine hq_nil ?_ | refine hq_ga ?_ | refine hq_sk ?_ | refine hq_su ?_ | refine hq_gT ?_ | refine hq_gF ?_ | refine hq_gd (fun h => ?_) (fun h => ?_) | refine hl_ga ?_ | refine hl_sk ?_ | refine hl_su ?_ | refine hl_gT ?_ | refine hl_gF ?_ | refine hl_gd (fun h => ?_) (fun h => ?_) | refine hx_next ?_ | refine hw_seq ?_ | refine hw_region ?_ | refine hw_dr ?_ | refine hw_block ?_ | refine hx_block ?_ | refine hw_tt ?_ | refine hw_ff ?_ | refine hw_iT ?_ | refine hw_iF ?_ | refine hw_skip ?_ | refine hw_ret ?_ | refine hw_exit ?_ | refine hx_then_ret ?_ | refine hx_block_ret ?_ | refine hx_then_exit ?_ | refine hx_block_here ?_ | refine hx_far ?_ | refine hx_any ?_ | (apply ha_end; decide +kernel) | (apply hl_q; decide; (exact q_mulN (a := xss.length) (b := xss.length) rfl rfl (by omega))) | (apply hq_q; decide; (exact q_mulN (a := xss.length) (b := xss.length) rfl rfl (by omega))) | (apply hq_g; rfl; rfl; decide; (exact q_mulN (a := xss.length) (b := xss.length) rfl rfl (by omega))) | (apply hl_g; rfl; rfl; decide; (exact q_mulN (a := xss.length) (b := xss.length) rfl rfl (by omega))))
  refine hw_if rfl (fun hlt => ?_) (fun hge => ?_)
  · have hi2 : i < xss.length * xss.length := by omega
    have hd1 : i / xss.length < xss.length := (Nat.div_lt_iff_lt_mul (by omega)).2 hi2
    have hd2 : i % xss.length < xss.length := Nat.mod_lt _ (by omega)
    repeat' (first | refine hl_a ?_ | refine hq_a ?_ | refine hl_nil ?_ | refine hq_nil ?_ | refine hq_ga ?_ | refine hq_sk ?_ | refine hq_su ?_ | refine hq_gT ?_ | refine hq_gF ?_ | refine hq_gd (fun h => ?_) (fun h => ?_) | refine hl_ga ?_ | refine hl_sk ?_ | refine hl_su ?_ | refine hl_gT ?_ | refine hl_gF ?_ | refine hl_gd (fun h => ?_) (fun h => ?_) | refine hx_next ?_ | refine hw_seq ?_ | refine hw_region ?_ | refine hw_block ?_ | refine hx_block ?_ | refine hw_tt ?_ | refine hw_ff ?_ | refine hw_iT ?_ | refine hw_iF ?_ | refine hw_skip ?_ | refine hw_ret ?_ | refine hw_exit ?_ | refine hx_then_ret ?_ | refine hx_block_ret ?_ | refine hx_then_exit ?_ | refine hx_block_here ?_ | refine hx_far ?_ | refine hx_any ?_ | (apply ha_end; decide +kernel))
    refine hw_g [rBlk b0 #[.int .i64 0, .int .i64 0, .slice none 0 0] 46, rBlk b1 #[.int .i64 (xss.length : Int), .int .i64 T, u] 46] 18 (by kernel_rfl) ?_
    first | refine hg_t 0 ?_ | refine hg_tn 0 ?_
    first | refine hg_t 1 ?_ | refine hg_tn 1 ?_
    first | refine hg_t 2 ?_ | refine hg_tn 2 ?_
    first | refine hg_t 3 ?_ | refine hg_tn 3 ?_
    first | refine hg_t 4 ?_ | refine hg_tn 4 ?_
    first | refine hg_t 5 ?_ | refine hg_tn 5 ?_
    first | refine hg_t 6 ?_ | refine hg_tn 6 ?_
    first | refine hg_t 7 ?_ | refine hg_tn 7 ?_
    refine hg_t 8 ?_ (hq := by exact q_quoN (a := i) (b := xss.length) rfl rfl (by omega) (by omega))
    first | refine hg_t 9 ?_ | refine hg_tn 9 ?_
    first | refine hg_t 10 ?_ | refine hg_tn 10 ?_
    first | refine hg_t 11 ?_ | refine hg_tn 11 ?_
    first | refine hg_t 12 ?_ | refine hg_tn 12 ?_
    first | refine hg_t 13 ?_ | refine hg_tn 13 ?_
    refine hg_t 14 ?_ (hq := by exact q_remN (a := i) (b := xss.length) rfl rfl (by omega) (by omega))
    first | refine hg_t 15 ?_ | refine hg_tn 15 ?_
    refine hg_1 16 (by decide +kernel) rfl ?_
    refine hl_call (by decide) (fun w hm => hrow hv hn4 w hm.below _ _ hd1 hd2) rfl ?_
    rintro x _ ⟨rfl, hx⟩
    refine hl_nil ?_
    refine hx_hg (by first | exact fun w hm => hm.none | exact fun w hm => Mem.keep _ hm) ?_
    refine hg_1 17 (by decide +kernel) rfl ?_
    refine hl_build1 (by decide) rfl hx.one rfl (fun b3 => ?_)
    refine hl_nil ?_
    refine hx_hg (by first | exact fun w hm => hm.none | exact fun w hm => Mem.keep _ hm) ?_
    refine hg_1 18 (by decide +kernel) rfl ?_
    refine hl_app1 2 5 rfl rfl (by decide) rfl rfl hx.one (by omega) (by decide) (fun u' hu' => ?_)
    refine hl_nil ?_
    refine hx_hgT rfl ?_
    refine hg_1 19 (by decide +kernel) rfl ?_
    refine hl_a ?_
    refine hl_nil ?_
    refine hx_hgT rfl ?_
    refine hg_1 20 (by decide +kernel) rfl ?_
    refine hl_storeB 1 rfl rfl rfl rfl rfl hu'.one ?_
    refine hl_nil ?_
    refine hx_hgT rfl ?_
    refine hg_end (by decide +kernel) ?_
    repeat' (first | refine hl_a ?_ | refine hq_a ?_ | refine hl_nil ?_ | refine hq_nil ?_ | refine hq_ga ?_ | refine hq_sk ?_ | refine hq_su ?_ | refine hq_gT ?_ | refine hq_gF ?_ | refine hq_gd (fun h => ?_) (fun h => ?_) | refine hl_ga ?_ | refine hl_sk ?_ | refine hl_su ?_ | refine hl_gT ?_ | refine hl_gF ?_ | refine hl_gd (fun h => ?_) (fun h => ?_) | refine hx_next ?_ | refine hw_seq ?_ | refine hw_region ?_ | refine hw_block ?_ | refine hx_block ?_ | refine hw_tt ?_ | refine hw_ff ?_ | refine hw_iT ?_ | refine hw_iF ?_ | refine hw_skip ?_ | refine hw_ret ?_ | refine hw_exit ?_ | refine hx_then_ret ?_ | refine hx_block_ret ?_ | refine hx_then_exit ?_ | refine hx_block_here ?_ | refine hx_far ?_ | refine hx_any ?_ | (apply ha_end; decide +kernel))
    refine hx_mem (rs' := [rBlk b0 #[.int .i64 0, .int .i64 0, .slice none 0 0] 46, rBlk b1 #[.int .i64 (xss.length : Int), .int .i64 T, u'] 46, rOwn 73 1 u' (i + 1) (vs ++ [x]), rStar (rRow 2 (Value.int .i64) (vs ++ [x]) (tab (i + 1) fun p => rowF (p / xss.length) (p % xss.length)))]) (fun w hm => ?_) ?_
    · rw [tab_succ, rRow_snoc _ _ _ _ (by rw [tab_length]; exact hvs)]
      exact Mem.pack [_, _, _] (hm.pick (rs' := [_, _, _, _, _]) [0, 1, 2, 3, 4] (by simp) rfl)
    · exact hx_round ⟨i + 1, u', vs ++ [x], rfl, by simp [hvs], hi2, rfl, rfl⟩ (by omega) ⟨rfl, rfl, rfl, rfl, rfl, trivial⟩
  · have e : i = xss.length * xss.length := by omega
    subst e
    refine hw_own 2 rfl (fun hu => ?_)
    repeat' (first | refine hl_a ?_ | refine hq_a ?_ | refine hl_nil ?_ | refine hq_nil ?_ | refine hq_ga ?_ | refine hq_sk ?_ | refine hq_su ?_ | refine hq_gT ?_ | refine hq_gF ?_ | refine hq_gd (fun h => ?_) (fun h => ?_) | refine hl_ga ?_ | refine hl_sk ?_ | refine hl_su ?_ | refine hl_gT ?_ | refine hl_gF ?_ | refine hl_gd (fun h => ?_) (fun h => ?_) | refine hx_next ?_ | refine hw_seq ?_ | refine hw_region ?_ | refine hw_dr ?_ | refine hw_block ?_ | refine hx_block ?_ | refine hw_tt ?_ | refine hw_ff ?_ | refine hw_iT ?_ | refine hw_iF ?_ | refine hw_skip ?_ | refine hw_ret ?_ | refine hw_exit ?_ | refine hx_then_ret ?_ | refine hx_block_ret ?_ | refine hx_then_exit ?_ | refine hx_block_here ?_ | refine hx_far ?_ | refine hx_any ?_ | (apply ha_end; decide +kernel))
    refine hl_storeA 0 rfl rfl rfl rfl rfl (chV_one hu) ?_
    repeat' (first | refine hl_a ?_ | refine hq_a ?_ | refine hl_nil ?_ | refine hq_nil ?_ | refine hq_ga ?_ | refine hq_sk ?_ | refine hq_su ?_ | refine hq_gT ?_ | refine hq_gF ?_ | refine hq_gd (fun h => ?_) (fun h => ?_) | refine hl_ga ?_ | refine hl_sk ?_ | refine hl_su ?_ | refine hl_gT ?_ | refine hl_gF ?_ | refine hl_gd (fun h => ?_) (fun h => ?_) | refine hx_next ?_ | refine hw_seq ?_ | refine hw_region ?_ | refine hw_dr ?_ | refine hw_block ?_ | refine hx_block ?_ | refine hw_tt ?_ | refine hw_ff ?_ | refine hw_iT ?_ | refine hw_iF ?_ | refine hw_skip ?_ | refine hw_ret ?_ | refine hw_exit ?_ | refine hx_then_ret ?_ | refine hx_block_ret ?_ | refine hx_then_exit ?_ | refine hx_block_here ?_ | refine hx_far ?_ | refine hx_any ?_ | (apply ha_end; decide +kernel))
    exact hx_retBt 0 rfl rfl rfl rfl rfl (fun w hm => ⟨_, _, rfl, hm.rows 2 3 hvs.symm (by decide) rfl rfl, by rw [hM]; exact ⟨u, vs, rfl, rfl, by simp only [tab_length]; exact hvs, by simp only [tab_length]; exact hu⟩⟩)
theorem specApartCoupled_c (st tot : Int) (v : Value) (xss : List (List Int)) (row : Nat → Value) (w : World) (hr : RdS (Value.int .i64) 0 w v xss row) :
    Gives Try.prog 29 [chV st tot v] w (ChOut 73 2 (coupM st tot xss (tot * tot) (rowA xss))) := by
  refine calls_hw Try.func29 Try.ntmps29 rfl rfl ?_
  repeat' (first | refine hl_a ?_ | refine hq_a ?_ | refine hl_nil ?_ | refine hq_nil ?_ | refine hq_ga ?_ | refine hq_sk ?_ | refine hq_su ?_ | refine hq_gT ?_ | refine hq_gF ?_ | refine hq_gd (fun h => ?_) (fun h => ?_) | refine hl_ga ?_ | refine hl_sk ?_ | refine hl_su ?_ | refine hl_gT ?_ | refine hl_gF ?_ | refine hl_gd (fun h => ?_) (fun h => ?_) | refine hx_next ?_ | refine hw_seq ?_ | refine hw_region ?_ | refine hw_dr ?_ | refine hw_block ?_ | refine hx_block ?_ | refine hw_tt ?_ | refine hw_ff ?_ | refine hw_iT ?_ | refine hw_iF ?_ | refine hw_skip ?_ | refine hw_ret ?_ | refine hw_exit ?_ | refine hx_then_ret ?_ | refine hx_block_ret ?_ | refine hx_then_exit ?_ | refine hx_block_here ?_ | refine hx_far ?_ | refine hx_any ?_ | (apply ha_end; decide +kernel))
  refine hl_box (by decide) rfl (fun b => ?_)
  refine hl_alloc (by decide) (fun b0 => ?_)
  repeat' (first | refine hl_a ?_ | refine hq_a ?_ | refine hl_nil ?_ | refine hq_nil ?_ | refine hq_ga ?_ | refine hq_sk ?_ | refine hq_su ?_ | refine hq_gT ?_ | refine hq_gF ?_ | refine hq_gd (fun h => ?_) (fun h => ?_) | refine hl_ga ?_ | refine hl_sk ?_ | refine hl_su ?_ | refine hl_gT ?_ | refine hl_gF ?_ | refine hl_gd (fun h => ?_) (fun h => ?_) | refine hx_next ?_ | refine hw_seq ?_ | refine hw_region ?_ | refine hw_dr ?_ | refine hw_block ?_ | refine hx_block ?_ | refine hw_tt ?_ | refine hw_ff ?_ | refine hw_iT ?_ | refine hw_iF ?_ | refine hw_skip ?_ | refine hw_ret ?_ | refine hw_exit ?_ | refine hx_then_ret ?_ | refine hx_block_ret ?_ | refine hx_then_exit ?_ | refine hx_block_here ?_ | refine hx_far ?_ | refine hx_any ?_ | (apply ha_end; decide +kernel))
  refine hl_call (by decide) (fun w hm => l04Make_c _ st tot v xss row 0 (tot * tot) (rowA xss) w (ptC_blk 0 rfl hm (hr.up hm.below)) (rowA_length xss) (by first | exact fun _ => rfl | exact fun e => absurd e (by decide)) (by first | exact fun _ => rfl | exact fun e => absurd rfl e) (fun hv hn w' hb s t hs ht => l04Row0_c _ st tot v xss row s t w' ((ptC_blk 0 rfl hm (hr.up hm.below)).up hb) hv hn hs ht)) rfl ?_
  rintro _ _ ⟨u, vs, rfl, rfl, hl, hu⟩
  repeat' (first | refine hl_a ?_ | refine hq_a ?_ | refine hl_nil ?_ | refine hq_nil ?_ | refine hq_ga ?_ | refine hq_sk ?_ | refine hq_su ?_ | refine hq_gT ?_ | refine hq_gF ?_ | refine hq_gd (fun h => ?_) (fun h => ?_) | refine hl_ga ?_ | refine hl_sk ?_ | refine hl_su ?_ | refine hl_gT ?_ | refine hl_gF ?_ | refine hl_gd (fun h => ?_) (fun h => ?_) | refine hx_next ?_ | refine hw_seq ?_ | refine hw_region ?_ | refine hw_dr ?_ | refine hw_block ?_ | refine hx_block ?_ | refine hw_tt ?_ | refine hw_ff ?_ | refine hw_iT ?_ | refine hw_iF ?_ | refine hw_skip ?_ | refine hw_ret ?_ | refine hw_exit ?_ | refine hx_then_ret ?_ | refine hx_block_ret ?_ | refine hx_then_exit ?_ | refine hx_block_here ?_ | refine hx_far ?_ | refine hx_any ?_ | (apply ha_end; decide +kernel))
  refine hl_storeA 1 rfl rfl rfl rfl rfl (chV_one hu) ?_
  repeat' (first | refine hl_a ?_ | refine hq_a ?_ | refine hl_nil ?_ | refine hq_nil ?_ | refine hq_ga ?_ | refine hq_sk ?_ | refine hq_su ?_ | refine hq_gT ?_ | refine hq_gF ?_ | refine hq_gd (fun h => ?_) (fun h => ?_) | refine hl_ga ?_ | refine hl_sk ?_ | refine hl_su ?_ | refine hl_gT ?_ | refine hl_gF ?_ | refine hl_gd (fun h => ?_) (fun h => ?_) | refine hx_next ?_ | refine hw_seq ?_ | refine hw_region ?_ | refine hw_dr ?_ | refine hw_block ?_ | refine hx_block ?_ | refine hw_tt ?_ | refine hw_ff ?_ | refine hw_iT ?_ | refine hw_iF ?_ | refine hw_skip ?_ | refine hw_ret ?_ | refine hw_exit ?_ | refine hx_then_ret ?_ | refine hx_block_ret ?_ | refine hx_then_exit ?_ | refine hx_block_here ?_ | refine hx_far ?_ | refine hx_any ?_ | (apply ha_end; decide +kernel))
  exact hx_retBt 1 rfl rfl rfl rfl rfl (fun w hm => ⟨_, _, rfl, hm.lone 2 rfl, u, vs, rfl, rfl, hl, hu⟩)
theorem specStairCoupled_c (st tot : Int) (v : Value) (xss : List (List Int)) (row : Nat → Value) (w : World) (hr : RdS (Value.int .i64) 0 w v xss row) :
    Gives Try.prog 36 [chV st tot v] w (ChOut 73 2 (coupM st tot xss tot (rowS xss))) := by
  refine calls_hw Try.func36 Try.ntmps36 rfl rfl ?_
  repeat' (first | refine hl_a ?_ | refine hq_a ?_ | refine hl_nil ?_ | refine hq_nil ?_ | refine hq_ga ?_ | refine hq_sk ?_ | refine hq_su ?_ | refine hq_gT ?_ | refine hq_gF ?_ | refine hq_gd (fun h => ?_) (fun h => ?_) | refine hl_ga ?_ | refine hl_sk ?_ | refine hl_su ?_ | refine hl_gT ?_ | refine hl_gF ?_ | refine hl_gd (fun h => ?_) (fun h => ?_) | refine hx_next ?_ | refine hw_seq ?_ | refine hw_region ?_ | refine hw_dr ?_ | refine hw_block ?_ | refine hx_block ?_ | refine hw_tt ?_ | refine hw_ff ?_ | refine hw_iT ?_ | refine hw_iF ?_ | refine hw_skip ?_ | refine hw_ret ?_ | refine hw_exit ?_ | refine hx_then_ret ?_ | refine hx_block_ret ?_ | refine hx_then_exit ?_ | refine hx_block_here ?_ | refine hx_far ?_ | refine hx_any ?_ | (apply ha_end; decide +kernel))
  refine hl_box (by decide) rfl (fun b => ?_)
  refine hl_alloc (by decide) (fun b0 => ?_)
  repeat' (first | refine hl_a ?_ | refine hq_a ?_ | refine hl_nil ?_ | refine hq_nil ?_ | refine hq_ga ?_ | refine hq_sk ?_ | refine hq_su ?_ | refine hq_gT ?_ | refine hq_gF ?_ | refine hq_gd (fun h => ?_) (fun h => ?_) | refine hl_ga ?_ | refine hl_sk ?_ | refine hl_su ?_ | refine hl_gT ?_ | refine hl_gF ?_ | refine hl_gd (fun h => ?_) (fun h => ?_) | refine hx_next ?_ | refine hw_seq ?_ | refine hw_region ?_ | refine hw_dr ?_ | refine hw_block ?_ | refine hx_block ?_ | refine hw_tt ?_ | refine hw_ff ?_ | refine hw_iT ?_ | refine hw_iF ?_ | refine hw_skip ?_ | refine hw_ret ?_ | refine hw_exit ?_ | refine hx_then_ret ?_ | refine hx_block_ret ?_ | refine hx_then_exit ?_ | refine hx_block_here ?_ | refine hx_far ?_ | refine hx_any ?_ | (apply ha_end; decide +kernel))
  refine hl_call (by decide) (fun w hm => l04Make_c _ st tot v xss row 1 tot (rowS xss) w (ptC_blk 0 rfl hm (hr.up hm.below)) (rowS_length xss) (by first | exact fun _ => rfl | exact fun e => absurd e (by decide)) (by first | exact fun _ => rfl | exact fun e => absurd rfl e) (fun hv hn w' hb s t hs ht => l04Row1_c _ st tot v xss row s t w' ((ptC_blk 0 rfl hm (hr.up hm.below)).up hb) hv hn hs ht)) rfl ?_
  rintro _ _ ⟨u, vs, rfl, rfl, hl, hu⟩
  repeat' (first | refine hl_a ?_ | refine hq_a ?_ | refine hl_nil ?_ | refine hq_nil ?_ | refine hq_ga ?_ | refine hq_sk ?_ | refine hq_su ?_ | refine hq_gT ?_ | refine hq_gF ?_ | refine hq_gd (fun h => ?_) (fun h => ?_) | refine hl_ga ?_ | refine hl_sk ?_ | refine hl_su ?_ | refine hl_gT ?_ | refine hl_gF ?_ | refine hl_gd (fun h => ?_) (fun h => ?_) | refine hx_next ?_ | refine hw_seq ?_ | refine hw_region ?_ | refine hw_dr ?_ | refine hw_block ?_ | refine hx_block ?_ | refine hw_tt ?_ | refine hw_ff ?_ | refine hw_iT ?_ | refine hw_iF ?_ | refine hw_skip ?_ | refine hw_ret ?_ | refine hw_exit ?_ | refine hx_then_ret ?_ | refine hx_block_ret ?_ | refine hx_then_exit ?_ | refine hx_block_here ?_ | refine hx_far ?_ | refine hx_any ?_ | (apply ha_end; decide +kernel))
  refine hl_storeA 1 rfl rfl rfl rfl rfl (chV_one hu) ?_
  repeat' (first | refine hl_a ?_ | refine hq_a ?_ | refine hl_nil ?_ | refine hq_nil ?_ | refine hq_ga ?_ | refine hq_sk ?_ | refine hq_su ?_ | refine hq_gT ?_ | refine hq_gF ?_ | refine hq_gd (fun h => ?_) (fun h => ?_) | refine hl_ga ?_ | refine hl_sk ?_ | refine hl_su ?_ | refine hl_gT ?_ | refine hl_gF ?_ | refine hl_gd (fun h => ?_) (fun h => ?_) | refine hx_next ?_ | refine hw_seq ?_ | refine hw_region ?_ | refine hw_dr ?_ | refine hw_block ?_ | refine hx_block ?_ | refine hw_tt ?_ | refine hw_ff ?_ | refine hw_iT ?_ | refine hw_iF ?_ | refine hw_skip ?_ | refine hw_ret ?_ | refine hw_exit ?_ | refine hx_then_ret ?_ | refine hx_block_ret ?_ | refine hx_then_exit ?_ | refine hx_block_here ?_ | refine hx_far ?_ | refine hx_any ?_ | (apply ha_end; decide +kernel))
  exact hx_retBt 1 rfl rfl rfl rfl rfl (fun w hm => ⟨_, _, rfl, hm.lone 2 rfl, u, vs, rfl, rfl, hl, hu⟩)
theorem specBestCoupled_c (st tot : Int) (v : Value) (xss : List (List Int)) (row : Nat → Value) (w : World) (hr : RdS (Value.int .i64) 0 w v xss row) :
    Gives Try.prog 38 [chV st tot v] w (ChOut 73 2 (coupM st tot xss tot (rowB xss))) := by
  refine calls_hw Try.func38 Try.ntmps38 rfl rfl ?_
  repeat' (first | refine hl_a ?_ | refine hq_a ?_ | refine hl_nil ?_ | refine hq_nil ?_ | refine hq_ga ?_ | refine hq_sk ?_ | refine hq_su ?_ | refine hq_gT ?_ | refine hq_gF ?_ | refine hq_gd (fun h => ?_) (fun h => ?_) | refine hl_ga ?_ | refine hl_sk ?_ | refine hl_su ?_ | refine hl_gT ?_ | refine hl_gF ?_ | refine hl_gd (fun h => ?_) (fun h => ?_) | refine hx_next ?_ | refine hw_seq ?_ | refine hw_region ?_ | refine hw_dr ?_ | refine hw_block ?_ | refine hx_block ?_ | refine hw_tt ?_ | refine hw_ff ?_ | refine hw_iT ?_ | refine hw_iF ?_ | refine hw_skip ?_ | refine hw_ret ?_ | refine hw_exit ?_ | refine hx_then_ret ?_ | refine hx_block_ret ?_ | refine hx_then_exit ?_ | refine hx_block_here ?_ | refine hx_far ?_ | refine hx_any ?_ | (apply ha_end; decide +kernel))
  refine hl_box (by decide) rfl (fun b => ?_)
  refine hl_alloc (by decide) (fun b0 => ?_)
  repeat' (first | refine hl_a ?_ | refine hq_a ?_ | refine hl_nil ?_ | refine hq_nil ?_ | refine hq_ga ?_ | refine hq_sk ?_ | refine hq_su ?_ | refine hq_gT ?_ | refine hq_gF ?_ | refine hq_gd (fun h => ?_) (fun h => ?_) | refine hl_ga ?_ | refine hl_sk ?_ | refine hl_su ?_ | refine hl_gT ?_ | refine hl_gF ?_ | refine hl_gd (fun h => ?_) (fun h => ?_) | refine hx_next ?_ | refine hw_seq ?_ | refine hw_region ?_ | refine hw_dr ?_ | refine hw_block ?_ | refine hx_block ?_ | refine hw_tt ?_ | refine hw_ff ?_ | refine hw_iT ?_ | refine hw_iF ?_ | refine hw_skip ?_ | refine hw_ret ?_ | refine hw_exit ?_ | refine hx_then_ret ?_ | refine hx_block_ret ?_ | refine hx_then_exit ?_ | refine hx_block_here ?_ | refine hx_far ?_ | refine hx_any ?_ | (apply ha_end; decide +kernel))
  refine hl_call (by decide) (fun w hm => l04Make_c _ st tot v xss row 2 tot (rowB xss) w (ptC_blk 0 rfl hm (hr.up hm.below)) (rowB_length xss) (by first | exact fun _ => rfl | exact fun e => absurd e (by decide)) (by first | exact fun _ => rfl | exact fun e => absurd rfl e) (fun hv hn w' hb s t hs ht => l04Row2_c _ st tot v xss row s t w' ((ptC_blk 0 rfl hm (hr.up hm.below)).up hb) hv hn hs ht)) rfl ?_
  rintro _ _ ⟨u, vs, rfl, rfl, hl, hu⟩
  repeat' (first | refine hl_a ?_ | refine hq_a ?_ | refine hl_nil ?_ | refine hq_nil ?_ | refine hq_ga ?_ | refine hq_sk ?_ | refine hq_su ?_ | refine hq_gT ?_ | refine hq_gF ?_ | refine hq_gd (fun h => ?_) (fun h => ?_) | refine hl_ga ?_ | refine hl_sk ?_ | refine hl_su ?_ | refine hl_gT ?_ | refine hl_gF ?_ | refine hl_gd (fun h => ?_) (fun h => ?_) | refine hx_next ?_ | refine hw_seq ?_ | refine hw_region ?_ | refine hw_dr ?_ | refine hw_block ?_ | refine hx_block ?_ | refine hw_tt ?_ | refine hw_ff ?_ | refine hw_iT ?_ | refine hw_iF ?_ | refine hw_skip ?_ | refine hw_ret ?_ | refine hw_exit ?_ | refine hx_then_ret ?_ | refine hx_block_ret ?_ | refine hx_then_exit ?_ | refine hx_block_here ?_ | refine hx_far ?_ | refine hx_any ?_ | (apply ha_end; decide +kernel))
  refine hl_storeA 1 rfl rfl rfl rfl rfl (chV_one hu) ?_
  repeat' (first | refine hl_a ?_ | refine hq_a ?_ | refine hl_nil ?_ | refine hq_nil ?_ | refine hq_ga ?_ | refine hq_sk ?_ | refine hq_su ?_ | refine hq_gT ?_ | refine hq_gF ?_ | refine hq_gd (fun h => ?_) (fun h => ?_) | refine hl_ga ?_ | refine hl_sk ?_ | refine hl_su ?_ | refine hl_gT ?_ | refine hl_gF ?_ | refine hl_gd (fun h => ?_) (fun h => ?_) | refine hx_next ?_ | refine hw_seq ?_ | refine hw_region ?_ | refine hw_dr ?_ | refine hw_block ?_ | refine hx_block ?_ | refine hw_tt ?_ | refine hw_ff ?_ | refine hw_iT ?_ | refine hw_iF ?_ | refine hw_skip ?_ | refine hw_ret ?_ | refine hw_exit ?_ | refine hx_then_ret ?_ | refine hx_block_ret ?_ | refine hx_then_exit ?_ | refine hx_block_here ?_ | refine hx_far ?_ | refine hx_any ?_ | (apply ha_end; decide +kernel))
  exact hx_retBt 1 rfl rfl rfl rfl rfl (fun w hm => ⟨_, _, rfl, hm.lone 2 rfl, u, vs, rfl, rfl, hl, hu⟩)
end Go.Proofs.Ythjoflgplbpeiaa
