/- Contracts: maps that are valid. -/
import Derived.Test.YtgeidbjcphjbiaaF1
import Derived.Test.YtgeidbjcphjbiaaH4
namespace Go.Proofs.Ytgeidbjcphjbiaa
open Go.Eng Go.RowKit
set_option linter.unusedVariables false

structure MapOk (st : Int) (xs : List Int) : Prop where
  len : (xs.length : Int) = st
  all : ∀ t, t < xs.length → 0 ≤ xs.getD t 0 ∧ xs.getD t 0 ≤ st - 1

structure ValidM (st tot : Int) (ks : List Int) (xss : List (List Int)) : Prop where
  s1 : 1 ≤ st ∧ st ≤ 6
  t1 : 1 ≤ tot ∧ tot ≤ 60
  len : 1 ≤ (xss.length : Int) ∧ (xss.length : Int) ≤ 60
  key : ∀ r, r < xss.length → 1 ≤ ks.getD r 0 ∧ ks.getD r 0 ≤ tot
  row : ∀ r, r < xss.length → MapOk st (xss.getD r [])
  sum : ks.sum = tot

noncomputable instance (st : Int) (xs : List Int) : Decidable (MapOk st xs) := Classical.propDecidable _
noncomputable instance (st tot : Int) (ks : List Int) (xss : List (List Int)) : Decidable (ValidM st tot ks xss) := Classical.propDecidable _

theorem le_sum_take (xs : List Int) (j : Nat) (hj : j ≤ xs.length) (h : ∀ t, t < j → 0 ≤ xs.getD t 0) : ∀ t, t < j → xs.getD t 0 ≤ (xs.take j).sum := by
  induction j with
  | zero => intro t ht; omega
  | succ j ih =>
    intro t ht
    have h0 : 0 ≤ (xs.take j).sum := by
      have ih' := ih (by omega) (fun t ht => h t (by omega))
      cases j with
      | zero => simp
      | succ i => have := ih' 0 (by omega); have := h 0 (by omega); omega
    rw [sum_take_succ xs j (by omega)]
    by_cases e : t = j
    · subst e; omega
    · have := ih (by omega) (fun t ht => h t (by omega)) t (by omega)
      have := h j (by omega)
      omega

theorem mp_one {k : Int} {v : Value} {n : Nat} (h : SlOk v n) : ∀ u ∈ (#[.int .i64 k, v] : Array Value).toList, u.oneCell' = true := by
  intro u hu
  simp at hu
  rcases hu with rfl | rfl
  · rfl
  · exact h.one
theorem l05Map_c (v : Value) (xs : List Int) (st : Int) (hst : 1 ≤ st ∧ st ≤ 6) (w : World) (hr : RdE (Value.int .i64) 0 w v xs) :
    Ret Try.prog 113 [v, .int .i64 st] w (.bool (decide (MapOk st xs))) := by
  refine calls_hw Try.func113 Try.ntmps113 rfl rfl ?_
  have hsl := hr.sl
  have hle := hsl.le
  repeat' (first | refine hl_a ?_ | refine hq_a ?_ | refine hl_nil ?_ | refine hq_nil ?_ | refine hq_ga ?_ | refine hq_sk ?_ | refine hq_su ?_ | refine hq_gT ?_ | refine hq_gF ?_ | refine hq_gd (fun h => ?_) (fun h => ?_) | refine hl_ga ?_ | refine hl_sk ?_ | refine hl_su ?_ | refine hl_gT ?_ | refine hl_gF ?_ | refine hl_gd (fun h => ?_) (fun h => ?_) | refine hx_next ?_ | refine hw_seq ?_ | refine hw_region ?_ | refine hw_dr ?_ | refine hw_block ?_ | refine hx_block ?_ | refine hw_tt ?_ | refine hw_ff ?_ | refine hw_iT ?_ | refine hw_iF ?_ | refine hw_skip ?_ | refine hw_ret ?_ | refine hw_exit ?_ | refine hx_then_ret ?_ | refine hx_block_ret ?_ | refine hx_then_exit ?_ | refine hx_block_here ?_ | refine hx_far ?_ | refine hx_any ?_ | (apply ha_end; decide +kernel))
  refine hw_loop (fun e r m => r = [] ∧ ∃ k : Nat, k ≤ xs.length ∧ m = xs.length - k ∧ e = [(0, v), (1, .int .i64 st), (5, .int .i64 k)] ∧ ∀ t, t < k → 0 ≤ xs.getD t 0 ∧ xs.getD t 0 ≤ st - 1)
    ⟨rfl, 0, Nat.zero_le _, rfl, rfl, by omega⟩ ⟨rfl, rfl, rfl, trivial⟩ ?_
  rintro _ _ _ ⟨rfl, k, hk, rfl, rfl, hall⟩
  repeat' (first | refine hl_a ?_ | refine hq_a ?_ | refine hl_nil ?_ | refine hq_nil ?_ | refine hq_ga ?_ | refine hq_sk ?_ | refine hq_su ?_ | refine hq_gT ?_ | refine hq_gF ?_ | refine hq_gd (fun h => ?_) (fun h => ?_) | refine hl_ga ?_ | refine hl_sk ?_ | refine hl_su ?_ | refine hl_gT ?_ | refine hl_gF ?_ | refine hl_gd (fun h => ?_) (fun h => ?_) | refine hx_next ?_ | refine hw_seq ?_ | refine hw_region ?_ | refine hw_dr ?_ | refine hw_block ?_ | refine hx_block ?_ | refine hw_tt ?_ | refine hw_ff ?_ | refine hw_iT ?_ | refine hw_iF ?_ | refine hw_skip ?_ | refine hw_ret ?_ | refine hw_exit ?_ | refine hx_then_ret ?_ | refine hx_block_ret ?_ | refine hx_then_exit ?_ | refine hx_block_here ?_ | refine hx_far ?_ | refine hx_any ?_ | (apply ha_end; decide +kernel))
  refine hw_if rfl (fun hlt => ?_) (fun hge => ?_)
  · have hk2 : k < xs.length := by omega
    have hc := hr.get k hk2
    repeat' (first | refine hl_a ?_ | refine hq_a ?_ | refine hl_nil ?_ | refine hq_nil ?_ | refine hq_ga ?_ | refine hq_sk ?_ | refine hq_su ?_ | refine hq_gT ?_ | refine hq_gF ?_ | refine hq_gd (fun h => ?_) (fun h => ?_) | refine hl_ga ?_ | refine hl_sk ?_ | refine hl_su ?_ | refine hl_gT ?_ | refine hl_gF ?_ | refine hl_gd (fun h => ?_) (fun h => ?_) | refine hx_next ?_ | refine hw_seq ?_ | refine hw_region ?_ | refine hw_dr ?_ | refine hw_block ?_ | refine hx_block ?_ | refine hw_tt ?_ | refine hw_ff ?_ | refine hw_iT ?_ | refine hw_iF ?_ | refine hw_skip ?_ | refine hw_ret ?_ | refine hw_exit ?_ | refine hx_then_ret ?_ | refine hx_block_ret ?_ | refine hx_then_exit ?_ | refine hx_block_here ?_ | refine hx_far ?_ | refine hx_any ?_ | (apply ha_end; decide +kernel) | (apply hl_q; decide; exact q_call (fun w hm => l00In_c _ _ _ _) rfl) | (apply hq_q; decide; exact q_call (fun w hm => l00In_c _ _ _ _) rfl) | (apply hq_g; rfl; rfl; decide; exact q_call (fun w hm => l00In_c _ _ _ _) rfl) | (apply hl_g; rfl; rfl; decide; exact q_call (fun w hm => l00In_c _ _ _ _) rfl))
    refine hw_if rfl (fun h => ?_) (fun h => ?_)
    · repeat' (first | refine hl_a ?_ | refine hq_a ?_ | refine hl_nil ?_ | refine hq_nil ?_ | refine hq_ga ?_ | refine hq_sk ?_ | refine hq_su ?_ | refine hq_gT ?_ | refine hq_gF ?_ | refine hq_gd (fun h => ?_) (fun h => ?_) | refine hl_ga ?_ | refine hl_sk ?_ | refine hl_su ?_ | refine hl_gT ?_ | refine hl_gF ?_ | refine hl_gd (fun h => ?_) (fun h => ?_) | refine hx_next ?_ | refine hw_seq ?_ | refine hw_region ?_ | refine hw_dr ?_ | refine hw_block ?_ | refine hx_block ?_ | refine hw_tt ?_ | refine hw_ff ?_ | refine hw_iT ?_ | refine hw_iF ?_ | refine hw_skip ?_ | refine hw_ret ?_ | refine hw_exit ?_ | refine hx_then_ret ?_ | refine hx_block_ret ?_ | refine hx_then_exit ?_ | refine hx_block_here ?_ | refine hx_far ?_ | refine hx_any ?_ | (apply ha_end; decide +kernel))
      refine hx_ret1 rfl rfl (fun w hm => ⟨?_, hm.none⟩)
      rw [decide_eq_false (fun hv => by have := hv.all k hk2; omega)]
    repeat' (first | refine hl_a ?_ | refine hq_a ?_ | refine hl_nil ?_ | refine hq_nil ?_ | refine hq_ga ?_ | refine hq_sk ?_ | refine hq_su ?_ | refine hq_gT ?_ | refine hq_gF ?_ | refine hq_gd (fun h => ?_) (fun h => ?_) | refine hl_ga ?_ | refine hl_sk ?_ | refine hl_su ?_ | refine hl_gT ?_ | refine hl_gF ?_ | refine hl_gd (fun h => ?_) (fun h => ?_) | refine hx_next ?_ | refine hw_seq ?_ | refine hw_region ?_ | refine hw_dr ?_ | refine hw_block ?_ | refine hx_block ?_ | refine hw_tt ?_ | refine hw_ff ?_ | refine hw_iT ?_ | refine hw_iF ?_ | refine hw_skip ?_ | refine hw_ret ?_ | refine hw_exit ?_ | refine hx_then_ret ?_ | refine hx_block_ret ?_ | refine hx_then_exit ?_ | refine hx_block_here ?_ | refine hx_far ?_ | refine hx_any ?_ | (apply ha_end; decide +kernel))
    refine hx_round ⟨rfl, k + 1, hk2, rfl, rfl, ?_⟩ (by omega) ⟨rfl, rfl, rfl, trivial⟩
    intro t ht
    by_cases e : t = k
    · subst e; omega
    · exact hall t (by omega)
  · repeat' (first | refine hl_a ?_ | refine hq_a ?_ | refine hl_nil ?_ | refine hq_nil ?_ | refine hq_ga ?_ | refine hq_sk ?_ | refine hq_su ?_ | refine hq_gT ?_ | refine hq_gF ?_ | refine hq_gd (fun h => ?_) (fun h => ?_) | refine hl_ga ?_ | refine hl_sk ?_ | refine hl_su ?_ | refine hl_gT ?_ | refine hl_gF ?_ | refine hl_gd (fun h => ?_) (fun h => ?_) | refine hx_next ?_ | refine hw_seq ?_ | refine hw_region ?_ | refine hw_dr ?_ | refine hw_block ?_ | refine hx_block ?_ | refine hw_tt ?_ | refine hw_ff ?_ | refine hw_iT ?_ | refine hw_iF ?_ | refine hw_skip ?_ | refine hw_ret ?_ | refine hw_exit ?_ | refine hx_then_ret ?_ | refine hx_block_ret ?_ | refine hx_then_exit ?_ | refine hx_block_here ?_ | refine hx_far ?_ | refine hx_any ?_ | (apply ha_end; decide +kernel))
    refine hx_ret1 rfl rfl (fun w hm => ⟨?_, hm.none⟩)
    have hiff : ((xs.length : Int) = st) ↔ MapOk st xs := ⟨fun h => ⟨h, fun t ht => hall t (by omega)⟩, fun h => h.len⟩
    simp [hiff]
theorem l05Ok_c (p : Addr) (st tot : Int) (v : Value) (ks : List Int) (xss : List (List Int)) (row : Nat → Value) (w : World)
    (h0 : w.cell? (p.add 0) = some (.int .i64 st)) (h1 : w.cell? (p.add 1) = some (.int .i64 tot)) (h2 : w.cell? (p.add 2) = some v) (hr : RdM w v ks xss row) :
    Ret Try.prog 76 [.pointer (some p)] w (.bool (decide (ValidM st tot ks xss))) := by
  refine calls_hw Try.func76 Try.ntmps76 rfl rfl ?_
  have hsl := hr.sl
  have hle := hsl.le
  have hkl := hr.len
  repeat' (first | refine hl_a ?_ | refine hq_a ?_ | refine hl_nil ?_ | refine hq_nil ?_ | refine hq_ga ?_ | refine hq_sk ?_ | refine hq_su ?_ | refine hq_gT ?_ | refine hq_gF ?_ | refine hq_gd (fun h => ?_) (fun h => ?_) | refine hl_ga ?_ | refine hl_sk ?_ | refine hl_su ?_ | refine hl_gT ?_ | refine hl_gF ?_ | refine hl_gd (fun h => ?_) (fun h => ?_) | refine hx_next ?_ | refine hw_seq ?_ | refine hw_region ?_ | refine hw_dr ?_ | refine hw_block ?_ | refine hx_block ?_ | refine hw_tt ?_ | refine hw_ff ?_ | refine hw_iT ?_ | refine hw_iF ?_ | refine hw_skip ?_ | refine hw_ret ?_ | refine hw_exit ?_ | refine hx_then_ret ?_ | refine hx_block_ret ?_ | refine hx_then_exit ?_ | refine hx_block_here ?_ | refine hx_far ?_ | refine hx_any ?_ | (apply ha_end; decide +kernel) | (apply hl_q; decide; exact q_call (fun w hm => l00In_c _ _ _ _) rfl) | (apply hq_q; decide; exact q_call (fun w hm => l00In_c _ _ _ _) rfl) | (apply hq_g; rfl; rfl; decide; exact q_call (fun w hm => l00In_c _ _ _ _) rfl) | (apply hl_g; rfl; rfl; decide; exact q_call (fun w hm => l00In_c _ _ _ _) rfl))
  · refine hx_ret1 rfl rfl (fun w hm => ⟨?_, hm.none⟩)
    rw [decide_eq_false (fun hv => by have := hv.s1; omega)]
  · refine hx_ret1 rfl rfl (fun w hm => ⟨?_, hm.none⟩)
    rw [decide_eq_false (fun hv => by have := hv.t1; omega)]
  refine hw_if rfl (fun h => ?_) (fun h => ?_)
  · repeat' (first | refine hl_a ?_ | refine hq_a ?_ | refine hl_nil ?_ | refine hq_nil ?_ | refine hq_ga ?_ | refine hq_sk ?_ | refine hq_su ?_ | refine hq_gT ?_ | refine hq_gF ?_ | refine hq_gd (fun h => ?_) (fun h => ?_) | refine hl_ga ?_ | refine hl_sk ?_ | refine hl_su ?_ | refine hl_gT ?_ | refine hl_gF ?_ | refine hl_gd (fun h => ?_) (fun h => ?_) | refine hx_next ?_ | refine hw_seq ?_ | refine hw_region ?_ | refine hw_dr ?_ | refine hw_block ?_ | refine hx_block ?_ | refine hw_tt ?_ | refine hw_ff ?_ | refine hw_iT ?_ | refine hw_iF ?_ | refine hw_skip ?_ | refine hw_ret ?_ | refine hw_exit ?_ | refine hx_then_ret ?_ | refine hx_block_ret ?_ | refine hx_then_exit ?_ | refine hx_block_here ?_ | refine hx_far ?_ | refine hx_any ?_ | (apply ha_end; decide +kernel))
    refine hx_ret1 rfl rfl (fun w hm => ⟨?_, hm.none⟩)
    rw [decide_eq_false (fun hv => by have := hv.len; omega)]
  repeat' (first | refine hl_a ?_ | refine hq_a ?_ | refine hl_nil ?_ | refine hq_nil ?_ | refine hq_ga ?_ | refine hq_sk ?_ | refine hq_su ?_ | refine hq_gT ?_ | refine hq_gF ?_ | refine hq_gd (fun h => ?_) (fun h => ?_) | refine hl_ga ?_ | refine hl_sk ?_ | refine hl_su ?_ | refine hl_gT ?_ | refine hl_gF ?_ | refine hl_gd (fun h => ?_) (fun h => ?_) | refine hx_next ?_ | refine hw_seq ?_ | refine hw_region ?_ | refine hw_dr ?_ | refine hw_block ?_ | refine hx_block ?_ | refine hw_tt ?_ | refine hw_ff ?_ | refine hw_iT ?_ | refine hw_iF ?_ | refine hw_skip ?_ | refine hw_ret ?_ | refine hw_exit ?_ | refine hx_then_ret ?_ | refine hx_block_ret ?_ | refine hx_then_exit ?_ | refine hx_block_here ?_ | refine hx_far ?_ | refine hx_any ?_ | (apply ha_end; decide +kernel))
  rename_i hx1 hx2
  have hs1 : 1 ≤ st ∧ st ≤ 6 := Classical.not_not.1 hx1
  have ht1 : 1 ≤ tot ∧ tot ≤ 60 := Classical.not_not.1 hx2
  have hn1 := Classical.not_not.1 h
  refine hw_loop (fun e r m => r = [] ∧ ∃ k : Nat, k ≤ xss.length ∧ m = xss.length - k ∧ e = [(0, .pointer (some p)), (3, .int .i64 (ks.take k).sum), (4, .int .i64 k)] ∧ (∀ r, r < k → 1 ≤ ks.getD r 0 ∧ ks.getD r 0 ≤ tot) ∧ ∀ r, r < k → MapOk st (xss.getD r []))
    ⟨rfl, 0, Nat.zero_le _, rfl, rfl, by omega, by omega⟩ ⟨rfl, rfl, rfl, trivial⟩ ?_
  rintro _ _ _ ⟨rfl, k, hk, rfl, rfl, hkeys, hrows⟩
  repeat' (first | refine hl_a ?_ | refine hq_a ?_ | refine hl_nil ?_ | refine hq_nil ?_ | refine hq_ga ?_ | refine hq_sk ?_ | refine hq_su ?_ | refine hq_gT ?_ | refine hq_gF ?_ | refine hq_gd (fun h => ?_) (fun h => ?_) | refine hl_ga ?_ | refine hl_sk ?_ | refine hl_su ?_ | refine hl_gT ?_ | refine hl_gF ?_ | refine hl_gd (fun h => ?_) (fun h => ?_) | refine hx_next ?_ | refine hw_seq ?_ | refine hw_region ?_ | refine hw_dr ?_ | refine hw_block ?_ | refine hx_block ?_ | refine hw_tt ?_ | refine hw_ff ?_ | refine hw_iT ?_ | refine hw_iF ?_ | refine hw_skip ?_ | refine hw_ret ?_ | refine hw_exit ?_ | refine hx_then_ret ?_ | refine hx_block_ret ?_ | refine hx_then_exit ?_ | refine hx_block_here ?_ | refine hx_far ?_ | refine hx_any ?_ | (apply ha_end; decide +kernel))
  refine hw_if rfl (fun hlt => ?_) (fun hge => ?_)
  · have hk2 : k < xss.length := by omega
    have hc := hr.get k hk2
    have hc0 := hr.key k hk2
    have hrk := hr.row k hk2
    have hb := sum_take_le 60 ks k (by omega) (fun t ht => by have := hkeys t ht; omega)
    have hs := sum_take_succ ks k (by omega)
    repeat' (first | refine hl_a ?_ | refine hq_a ?_ | refine hl_nil ?_ | refine hq_nil ?_ | refine hq_ga ?_ | refine hq_sk ?_ | refine hq_su ?_ | refine hq_gT ?_ | refine hq_gF ?_ | refine hq_gd (fun h => ?_) (fun h => ?_) | refine hl_ga ?_ | refine hl_sk ?_ | refine hl_su ?_ | refine hl_gT ?_ | refine hl_gF ?_ | refine hl_gd (fun h => ?_) (fun h => ?_) | refine hx_next ?_ | refine hw_seq ?_ | refine hw_region ?_ | refine hw_dr ?_ | refine hw_block ?_ | refine hx_block ?_ | refine hw_tt ?_ | refine hw_ff ?_ | refine hw_iT ?_ | refine hw_iF ?_ | refine hw_skip ?_ | refine hw_ret ?_ | refine hw_exit ?_ | refine hx_then_ret ?_ | refine hx_block_ret ?_ | refine hx_then_exit ?_ | refine hx_block_here ?_ | refine hx_far ?_ | refine hx_any ?_ | (apply ha_end; decide +kernel) | (apply hl_q; decide; (first | exact q_call (fun w hm => l00In_c _ _ _ _) rfl | exact q_call (fun w hm => l05Map_c _ _ _ hs1 w (hrk.up hm.below)) rfl)) | (apply hq_q; decide; (first | exact q_call (fun w hm => l00In_c _ _ _ _) rfl | exact q_call (fun w hm => l05Map_c _ _ _ hs1 w (hrk.up hm.below)) rfl)) | (apply hq_g; rfl; rfl; decide; (first | exact q_call (fun w hm => l00In_c _ _ _ _) rfl | exact q_call (fun w hm => l05Map_c _ _ _ hs1 w (hrk.up hm.below)) rfl)) | (apply hl_g; rfl; rfl; decide; (first | exact q_call (fun w hm => l00In_c _ _ _ _) rfl | exact q_call (fun w hm => l05Map_c _ _ _ hs1 w (hrk.up hm.below)) rfl)))
    · refine hx_ret1 rfl rfl (fun w hm => ⟨?_, hm.none⟩)
      rw [decide_eq_false (fun hv => by have := hv.key k hk2; omega)]
    refine hw_if rfl (fun h => ?_) (fun h => ?_)
    · repeat' (first | refine hl_a ?_ | refine hq_a ?_ | refine hl_nil ?_ | refine hq_nil ?_ | refine hq_ga ?_ | refine hq_sk ?_ | refine hq_su ?_ | refine hq_gT ?_ | refine hq_gF ?_ | refine hq_gd (fun h => ?_) (fun h => ?_) | refine hl_ga ?_ | refine hl_sk ?_ | refine hl_su ?_ | refine hl_gT ?_ | refine hl_gF ?_ | refine hl_gd (fun h => ?_) (fun h => ?_) | refine hx_next ?_ | refine hw_seq ?_ | refine hw_region ?_ | refine hw_dr ?_ | refine hw_block ?_ | refine hx_block ?_ | refine hw_tt ?_ | refine hw_ff ?_ | refine hw_iT ?_ | refine hw_iF ?_ | refine hw_skip ?_ | refine hw_ret ?_ | refine hw_exit ?_ | refine hx_then_ret ?_ | refine hx_block_ret ?_ | refine hx_then_exit ?_ | refine hx_block_here ?_ | refine hx_far ?_ | refine hx_any ?_ | (apply ha_end; decide +kernel))
      refine hx_ret1 rfl rfl (fun w hm => ⟨?_, hm.none⟩)
      rw [decide_eq_false (fun hv => h (hv.row k hk2))]
    rename_i hx3
    have hk3 := Classical.not_not.1 hx3
    have hk4 := Classical.not_not.1 h
    repeat' (first | refine hl_a ?_ | refine hq_a ?_ | refine hl_nil ?_ | refine hq_nil ?_ | refine hq_ga ?_ | refine hq_sk ?_ | refine hq_su ?_ | refine hq_gT ?_ | refine hq_gF ?_ | refine hq_gd (fun h => ?_) (fun h => ?_) | refine hl_ga ?_ | refine hl_sk ?_ | refine hl_su ?_ | refine hl_gT ?_ | refine hl_gF ?_ | refine hl_gd (fun h => ?_) (fun h => ?_) | refine hx_next ?_ | refine hw_seq ?_ | refine hw_region ?_ | refine hw_dr ?_ | refine hw_block ?_ | refine hx_block ?_ | refine hw_tt ?_ | refine hw_ff ?_ | refine hw_iT ?_ | refine hw_iF ?_ | refine hw_skip ?_ | refine hw_ret ?_ | refine hw_exit ?_ | refine hx_then_ret ?_ | refine hx_block_ret ?_ | refine hx_then_exit ?_ | refine hx_block_here ?_ | refine hx_far ?_ | refine hx_any ?_ | (apply ha_end; decide +kernel))
    refine hx_round ⟨rfl, k + 1, hk2, rfl, rfl, ?_, ?_⟩ (by omega) ⟨rfl, ?_, rfl, trivial⟩
    · intro r hr'
      by_cases e : r = k
      · subst e; exact hk3
      · exact hkeys r (by omega)
    · intro r hr'
      by_cases e : r = k
      · subst e; exact hk4
      · exact hrows r (by omega)
    · rw [hs]; rfl
  · have e : k = xss.length := by omega
    subst e
    repeat' (first | refine hl_a ?_ | refine hq_a ?_ | refine hl_nil ?_ | refine hq_nil ?_ | refine hq_ga ?_ | refine hq_sk ?_ | refine hq_su ?_ | refine hq_gT ?_ | refine hq_gF ?_ | refine hq_gd (fun h => ?_) (fun h => ?_) | refine hl_ga ?_ | refine hl_sk ?_ | refine hl_su ?_ | refine hl_gT ?_ | refine hl_gF ?_ | refine hl_gd (fun h => ?_) (fun h => ?_) | refine hx_next ?_ | refine hw_seq ?_ | refine hw_region ?_ | refine hw_dr ?_ | refine hw_block ?_ | refine hx_block ?_ | refine hw_tt ?_ | refine hw_ff ?_ | refine hw_iT ?_ | refine hw_iF ?_ | refine hw_skip ?_ | refine hw_ret ?_ | refine hw_exit ?_ | refine hx_then_ret ?_ | refine hx_block_ret ?_ | refine hx_then_exit ?_ | refine hx_block_here ?_ | refine hx_far ?_ | refine hx_any ?_ | (apply ha_end; decide +kernel))
    refine hx_ret1 rfl rfl (fun w hm => ⟨?_, hm.none⟩)
    have e1 : ks.take xss.length = ks := by rw [← hkl]; exact List.take_length
    rw [e1]
    have hiff : (ks.sum = tot) ↔ ValidM st tot ks xss := ⟨fun h => ⟨hs1, ht1, hn1, hkeys, hrows, h⟩, fun h => h.sum⟩
    simp [hiff]
/-- l05Ok at maps in a block of the caller's own. -/
theorem l05Ok_b {w0 w : World} {rs : List Res} (i : Nat) {b tb : Nat} {st tot : Int} {v : Value} (hi : rs[i]? = some (rBlk b #[.int .i64 st, .int .i64 tot, v] tb)) (hm : Mem w0 rs w) (ks : List Int) (xss : List (List Int)) (row : Nat → Value) (hr : RdM w v ks xss row) :
    Ret Try.prog 76 [.pointer (some ⟨b, 0, none⟩)] w (.bool (decide (ValidM st tot ks xss))) :=
  l05Ok_c ⟨b, 0, none⟩ st tot v ks xss row w ((ld_blkA (w0 := w0) (off := 0) i hi rfl rfl).cell hm) ((ld_blkA (w0 := w0) (off := 1) i hi rfl rfl).cell hm) ((ld_blkA (w0 := w0) (off := 2) i hi rfl rfl).cell hm) hr
theorem implValidMaps_c (st tot : Int) (v : Value) (ks : List Int) (xss : List (List Int)) (row : Nat → Value) (w : World) (hr : RdM w v ks xss row) :
    Ret Try.prog 79 [chV st tot v] w (.bool (decide (ValidM st tot ks xss))) := by
  refine calls_hw Try.func79 Try.ntmps79 rfl rfl ?_
  have hsl := hr.sl
  have hle := hsl.le
  have hkl := hr.len
  repeat' (first | refine hl_a ?_ | refine hq_a ?_ | refine hl_nil ?_ | refine hq_nil ?_ | refine hq_ga ?_ | refine hq_sk ?_ | refine hq_su ?_ | refine hq_gT ?_ | refine hq_gF ?_ | refine hq_gd (fun h => ?_) (fun h => ?_) | refine hl_ga ?_ | refine hl_sk ?_ | refine hl_su ?_ | refine hl_gT ?_ | refine hl_gF ?_ | refine hl_gd (fun h => ?_) (fun h => ?_) | refine hx_next ?_ | refine hw_seq ?_ | refine hw_region ?_ | refine hw_dr ?_ | refine hw_block ?_ | refine hx_block ?_ | refine hw_tt ?_ | refine hw_ff ?_ | refine hw_iT ?_ | refine hw_iF ?_ | refine hw_skip ?_ | refine hw_ret ?_ | refine hw_exit ?_ | refine hx_then_ret ?_ | refine hx_block_ret ?_ | refine hx_then_exit ?_ | refine hx_block_here ?_ | refine hx_far ?_ | refine hx_any ?_ | (apply ha_end; decide +kernel))
  refine hl_box (by decide) rfl (fun b => ?_)
  repeat' (first | refine hl_a ?_ | refine hq_a ?_ | refine hl_nil ?_ | refine hq_nil ?_ | refine hq_ga ?_ | refine hq_sk ?_ | refine hq_su ?_ | refine hq_gT ?_ | refine hq_gF ?_ | refine hq_gd (fun h => ?_) (fun h => ?_) | refine hl_ga ?_ | refine hl_sk ?_ | refine hl_su ?_ | refine hl_gT ?_ | refine hl_gF ?_ | refine hl_gd (fun h => ?_) (fun h => ?_) | refine hx_next ?_ | refine hw_seq ?_ | refine hw_region ?_ | refine hw_dr ?_ | refine hw_block ?_ | refine hx_block ?_ | refine hw_tt ?_ | refine hw_ff ?_ | refine hw_iT ?_ | refine hw_iF ?_ | refine hw_skip ?_ | refine hw_ret ?_ | refine hw_exit ?_ | refine hx_then_ret ?_ | refine hx_block_ret ?_ | refine hx_then_exit ?_ | refine hx_block_here ?_ | refine hx_far ?_ | refine hx_any ?_ | (apply ha_end; decide +kernel) | (apply hl_q; decide; exact q_call (fun w hm => inRange_c _ _ _ _) rfl) | (apply hq_q; decide; exact q_call (fun w hm => inRange_c _ _ _ _) rfl) | (apply hq_g; rfl; rfl; decide; exact q_call (fun w hm => inRange_c _ _ _ _) rfl) | (apply hl_g; rfl; rfl; decide; exact q_call (fun w hm => inRange_c _ _ _ _) rfl))
  · refine hx_ret1 rfl rfl (fun w hm => ⟨?_, hm.none⟩)
    rw [decide_eq_false (fun hv => by have := hv.s1; omega)]
  · refine hx_ret1 rfl rfl (fun w hm => ⟨?_, hm.none⟩)
    rw [decide_eq_false (fun hv => by have := hv.t1; omega)]
  refine hw_if rfl (fun h => ?_) (fun h => ?_)
  · repeat' (first | refine hl_a ?_ | refine hq_a ?_ | refine hl_nil ?_ | refine hq_nil ?_ | refine hq_ga ?_ | refine hq_sk ?_ | refine hq_su ?_ | refine hq_gT ?_ | refine hq_gF ?_ | refine hq_gd (fun h => ?_) (fun h => ?_) | refine hl_ga ?_ | refine hl_sk ?_ | refine hl_su ?_ | refine hl_gT ?_ | refine hl_gF ?_ | refine hl_gd (fun h => ?_) (fun h => ?_) | refine hx_next ?_ | refine hw_seq ?_ | refine hw_region ?_ | refine hw_dr ?_ | refine hw_block ?_ | refine hx_block ?_ | refine hw_tt ?_ | refine hw_ff ?_ | refine hw_iT ?_ | refine hw_iF ?_ | refine hw_skip ?_ | refine hw_ret ?_ | refine hw_exit ?_ | refine hx_then_ret ?_ | refine hx_block_ret ?_ | refine hx_then_exit ?_ | refine hx_block_here ?_ | refine hx_far ?_ | refine hx_any ?_ | (apply ha_end; decide +kernel))
    refine hx_ret1 rfl rfl (fun w hm => ⟨?_, hm.none⟩)
    rw [decide_eq_false (fun hv => by have := hv.len; omega)]
  repeat' (first | refine hl_a ?_ | refine hq_a ?_ | refine hl_nil ?_ | refine hq_nil ?_ | refine hq_ga ?_ | refine hq_sk ?_ | refine hq_su ?_ | refine hq_gT ?_ | refine hq_gF ?_ | refine hq_gd (fun h => ?_) (fun h => ?_) | refine hl_ga ?_ | refine hl_sk ?_ | refine hl_su ?_ | refine hl_gT ?_ | refine hl_gF ?_ | refine hl_gd (fun h => ?_) (fun h => ?_) | refine hx_next ?_ | refine hw_seq ?_ | refine hw_region ?_ | refine hw_dr ?_ | refine hw_block ?_ | refine hx_block ?_ | refine hw_tt ?_ | refine hw_ff ?_ | refine hw_iT ?_ | refine hw_iF ?_ | refine hw_skip ?_ | refine hw_ret ?_ | refine hw_exit ?_ | refine hx_then_ret ?_ | refine hx_block_ret ?_ | refine hx_then_exit ?_ | refine hx_block_here ?_ | refine hx_far ?_ | refine hx_any ?_ | (apply ha_end; decide +kernel))
  rename_i hx1 hx2
  have hs1 : 1 ≤ st ∧ st ≤ 6 := Classical.not_not.1 hx1
  have ht1 : 1 ≤ tot ∧ tot ≤ 60 := Classical.not_not.1 hx2
  have hn1 := Classical.not_not.1 h
  refine hw_loop (fun e r m => r = [rBlk b #[.int .i64 st, .int .i64 tot, v] 55] ∧ ∃ k : Nat, k ≤ xss.length ∧ m = xss.length - k ∧ e = [(1, .pointer (some ⟨b, 0, none⟩)), (3, .int .i64 (ks.take k).sum), (26, v), (27, .int .i64 (xss.length : Int)), (28, .int .i64 k)] ∧ (∀ r, r < k → 1 ≤ ks.getD r 0 ∧ ks.getD r 0 ≤ 60) ∧ ∀ r, r < k → MapOk st (xss.getD r []))
    ⟨rfl, 0, Nat.zero_le _, rfl, rfl, by omega, by omega⟩ ⟨rfl, rfl, rfl, rfl, rfl, trivial⟩ ?_
  rintro _ _ _ ⟨rfl, k, hk, rfl, rfl, hkeys, hrows⟩
  repeat' (first | refine hl_a ?_ | refine hq_a ?_ | refine hl_nil ?_ | refine hq_nil ?_ | refine hq_ga ?_ | refine hq_sk ?_ | refine hq_su ?_ | refine hq_gT ?_ | refine hq_gF ?_ | refine hq_gd (fun h => ?_) (fun h => ?_) | refine hl_ga ?_ | refine hl_sk ?_ | refine hl_su ?_ | refine hl_gT ?_ | refine hl_gF ?_ | refine hl_gd (fun h => ?_) (fun h => ?_) | refine hx_next ?_ | refine hw_seq ?_ | refine hw_region ?_ | refine hw_dr ?_ | refine hw_block ?_ | refine hx_block ?_ | refine hw_tt ?_ | refine hw_ff ?_ | refine hw_iT ?_ | refine hw_iF ?_ | refine hw_skip ?_ | refine hw_ret ?_ | refine hw_exit ?_ | refine hx_then_ret ?_ | refine hx_block_ret ?_ | refine hx_then_exit ?_ | refine hx_block_here ?_ | refine hx_far ?_ | refine hx_any ?_ | (apply ha_end; decide +kernel))
  refine hw_if rfl (fun hlt => ?_) (fun hge => ?_)
  · have hk2 : k < xss.length := by omega
    have hc := hr.get k hk2
    have hc0 := hr.key k hk2
    have hrk := hr.row k hk2
    have hsk := hrk.sl
    have hb := sum_take_le 60 ks k (by omega) (fun t ht => by have := hkeys t ht; omega)
    have hs := sum_take_succ ks k (by omega)
    repeat' (first | refine hl_a ?_ | refine hq_a ?_ | refine hl_nil ?_ | refine hq_nil ?_ | refine hq_ga ?_ | refine hq_sk ?_ | refine hq_su ?_ | refine hq_gT ?_ | refine hq_gF ?_ | refine hq_gd (fun h => ?_) (fun h => ?_) | refine hl_ga ?_ | refine hl_sk ?_ | refine hl_su ?_ | refine hl_gT ?_ | refine hl_gF ?_ | refine hl_gd (fun h => ?_) (fun h => ?_) | refine hx_next ?_ | refine hw_seq ?_ | refine hw_region ?_ | refine hw_dr ?_ | refine hw_block ?_ | refine hx_block ?_ | refine hw_tt ?_ | refine hw_ff ?_ | refine hw_iT ?_ | refine hw_iF ?_ | refine hw_skip ?_ | refine hw_ret ?_ | refine hw_exit ?_ | refine hx_then_ret ?_ | refine hx_block_ret ?_ | refine hx_then_exit ?_ | refine hx_block_here ?_ | refine hx_far ?_ | refine hx_any ?_ | (apply ha_end; decide +kernel))
    refine hl_alloc (by decide) (fun bx => ?_)
    repeat' (first | refine hl_a ?_ | refine hq_a ?_ | refine hl_nil ?_ | refine hq_nil ?_ | refine hq_ga ?_ | refine hq_sk ?_ | refine hq_su ?_ | refine hq_gT ?_ | refine hq_gF ?_ | refine hq_gd (fun h => ?_) (fun h => ?_) | refine hl_ga ?_ | refine hl_sk ?_ | refine hl_su ?_ | refine hl_gT ?_ | refine hl_gF ?_ | refine hl_gd (fun h => ?_) (fun h => ?_) | refine hx_next ?_ | refine hw_seq ?_ | refine hw_region ?_ | refine hw_dr ?_ | refine hw_block ?_ | refine hx_block ?_ | refine hw_tt ?_ | refine hw_ff ?_ | refine hw_iT ?_ | refine hw_iF ?_ | refine hw_skip ?_ | refine hw_ret ?_ | refine hw_exit ?_ | refine hx_then_ret ?_ | refine hx_block_ret ?_ | refine hx_then_exit ?_ | refine hx_block_here ?_ | refine hx_far ?_ | refine hx_any ?_ | (apply ha_end; decide +kernel))
    refine hl_storeA 1 rfl rfl rfl rfl rfl (mp_one hsk) ?_
    repeat' (first | refine hl_a ?_ | refine hq_a ?_ | refine hl_nil ?_ | refine hq_nil ?_ | refine hq_ga ?_ | refine hq_sk ?_ | refine hq_su ?_ | refine hq_gT ?_ | refine hq_gF ?_ | refine hq_gd (fun h => ?_) (fun h => ?_) | refine hl_ga ?_ | refine hl_sk ?_ | refine hl_su ?_ | refine hl_gT ?_ | refine hl_gF ?_ | refine hl_gd (fun h => ?_) (fun h => ?_) | refine hx_next ?_ | refine hw_seq ?_ | refine hw_region ?_ | refine hw_dr ?_ | refine hw_block ?_ | refine hx_block ?_ | refine hw_tt ?_ | refine hw_ff ?_ | refine hw_iT ?_ | refine hw_iF ?_ | refine hw_skip ?_ | refine hw_ret ?_ | refine hw_exit ?_ | refine hx_then_ret ?_ | refine hx_block_ret ?_ | refine hx_then_exit ?_ | refine hx_block_here ?_ | refine hx_far ?_ | refine hx_any ?_ | (apply ha_end; decide +kernel) | (apply hl_q; decide; exact q_call (fun w hm => inRange_c _ _ _ _) rfl) | (apply hq_q; decide; exact q_call (fun w hm => inRange_c _ _ _ _) rfl) | (apply hq_g; rfl; rfl; decide; exact q_call (fun w hm => inRange_c _ _ _ _) rfl) | (apply hl_g; rfl; rfl; decide; exact q_call (fun w hm => inRange_c _ _ _ _) rfl))
    · refine hx_ret1 rfl rfl (fun w hm => ⟨?_, hm.none⟩)
      rw [decide_eq_false (fun hv => by have := hv.key k hk2; have := hv.t1; omega)]
    refine hw_if rfl (fun h => ?_) (fun h => ?_)
    · repeat' (first | refine hl_a ?_ | refine hq_a ?_ | refine hl_nil ?_ | refine hq_nil ?_ | refine hq_ga ?_ | refine hq_sk ?_ | refine hq_su ?_ | refine hq_gT ?_ | refine hq_gF ?_ | refine hq_gd (fun h => ?_) (fun h => ?_) | refine hl_ga ?_ | refine hl_sk ?_ | refine hl_su ?_ | refine hl_gT ?_ | refine hl_gF ?_ | refine hl_gd (fun h => ?_) (fun h => ?_) | refine hx_next ?_ | refine hw_seq ?_ | refine hw_region ?_ | refine hw_dr ?_ | refine hw_block ?_ | refine hx_block ?_ | refine hw_tt ?_ | refine hw_ff ?_ | refine hw_iT ?_ | refine hw_iF ?_ | refine hw_skip ?_ | refine hw_ret ?_ | refine hw_exit ?_ | refine hx_then_ret ?_ | refine hx_block_ret ?_ | refine hx_then_exit ?_ | refine hx_block_here ?_ | refine hx_far ?_ | refine hx_any ?_ | (apply ha_end; decide +kernel))
      refine hx_ret1 rfl rfl (fun w hm => ⟨?_, hm.none⟩)
      rw [decide_eq_false (fun hv => h (hv.row k hk2).len)]
    rename_i hx3
    have hk3 := Classical.not_not.1 hx3
    have hlk := Classical.not_not.1 h
    repeat' (first | refine hl_a ?_ | refine hq_a ?_ | refine hl_nil ?_ | refine hq_nil ?_ | refine hq_ga ?_ | refine hq_sk ?_ | refine hq_su ?_ | refine hq_gT ?_ | refine hq_gF ?_ | refine hq_gd (fun h => ?_) (fun h => ?_) | refine hl_ga ?_ | refine hl_sk ?_ | refine hl_su ?_ | refine hl_gT ?_ | refine hl_gF ?_ | refine hl_gd (fun h => ?_) (fun h => ?_) | refine hx_next ?_ | refine hw_seq ?_ | refine hw_region ?_ | refine hw_dr ?_ | refine hw_block ?_ | refine hx_block ?_ | refine hw_tt ?_ | refine hw_ff ?_ | refine hw_iT ?_ | refine hw_iF ?_ | refine hw_skip ?_ | refine hw_ret ?_ | refine hw_exit ?_ | refine hx_then_ret ?_ | refine hx_block_ret ?_ | refine hx_then_exit ?_ | refine hx_block_here ?_ | refine hx_far ?_ | refine hx_any ?_ | (apply ha_end; decide +kernel))
    refine hw_loop (fun e r m => r = [rBlk b #[.int .i64 st, .int .i64 tot, v] 55, rBlk bx #[.int .i64 (ks.getD k 0), row k] 115] ∧ ∃ j : Nat, j ≤ (xss.getD k []).length ∧ m = (xss.getD k []).length - j ∧ e = [(1, .pointer (some ⟨b, 0, none⟩)), (3, .int .i64 (ks.take k).sum), (5, .pointer (some ⟨bx, 0, none⟩)), (26, v), (27, .int .i64 (xss.length : Int)), (28, .int .i64 k), (45, row k), (46, .int .i64 ((xss.getD k []).length : Int)), (47, .int .i64 j)] ∧ ∀ t, t < j → 0 ≤ (xss.getD k []).getD t 0 ∧ (xss.getD k []).getD t 0 ≤ st - 1)
      ⟨rfl, 0, Nat.zero_le _, rfl, rfl, by omega⟩ ⟨rfl, rfl, rfl, rfl, rfl, rfl, rfl, rfl, rfl, trivial⟩ ?_
    rintro _ _ _ ⟨rfl, j, hj, rfl, rfl, hall⟩
    repeat' (first | refine hl_a ?_ | refine hq_a ?_ | refine hl_nil ?_ | refine hq_nil ?_ | refine hq_ga ?_ | refine hq_sk ?_ | refine hq_su ?_ | refine hq_gT ?_ | refine hq_gF ?_ | refine hq_gd (fun h => ?_) (fun h => ?_) | refine hl_ga ?_ | refine hl_sk ?_ | refine hl_su ?_ | refine hl_gT ?_ | refine hl_gF ?_ | refine hl_gd (fun h => ?_) (fun h => ?_) | refine hx_next ?_ | refine hw_seq ?_ | refine hw_region ?_ | refine hw_dr ?_ | refine hw_block ?_ | refine hx_block ?_ | refine hw_tt ?_ | refine hw_ff ?_ | refine hw_iT ?_ | refine hw_iF ?_ | refine hw_skip ?_ | refine hw_ret ?_ | refine hw_exit ?_ | refine hx_then_ret ?_ | refine hx_block_ret ?_ | refine hx_then_exit ?_ | refine hx_block_here ?_ | refine hx_far ?_ | refine hx_any ?_ | (apply ha_end; decide +kernel))
    refine hw_if rfl (fun hlt2 => ?_) (fun hge2 => ?_)
    · have hj2 : j < (xss.getD k []).length := by omega
      have hcj := hrk.get j hj2
      repeat' (first | refine hl_a ?_ | refine hq_a ?_ | refine hl_nil ?_ | refine hq_nil ?_ | refine hq_ga ?_ | refine hq_sk ?_ | refine hq_su ?_ | refine hq_gT ?_ | refine hq_gF ?_ | refine hq_gd (fun h => ?_) (fun h => ?_) | refine hl_ga ?_ | refine hl_sk ?_ | refine hl_su ?_ | refine hl_gT ?_ | refine hl_gF ?_ | refine hl_gd (fun h => ?_) (fun h => ?_) | refine hx_next ?_ | refine hw_seq ?_ | refine hw_region ?_ | refine hw_dr ?_ | refine hw_block ?_ | refine hx_block ?_ | refine hw_tt ?_ | refine hw_ff ?_ | refine hw_iT ?_ | refine hw_iF ?_ | refine hw_skip ?_ | refine hw_ret ?_ | refine hw_exit ?_ | refine hx_then_ret ?_ | refine hx_block_ret ?_ | refine hx_then_exit ?_ | refine hx_block_here ?_ | refine hx_far ?_ | refine hx_any ?_ | (apply ha_end; decide +kernel) | (apply hl_q; decide; exact q_call (fun w hm => inRange_c _ _ _ _) rfl) | (apply hq_q; decide; exact q_call (fun w hm => inRange_c _ _ _ _) rfl) | (apply hq_g; rfl; rfl; decide; exact q_call (fun w hm => inRange_c _ _ _ _) rfl) | (apply hl_g; rfl; rfl; decide; exact q_call (fun w hm => inRange_c _ _ _ _) rfl))
      refine hw_if rfl (fun h => ?_) (fun h => ?_)
      · repeat' (first | refine hl_a ?_ | refine hq_a ?_ | refine hl_nil ?_ | refine hq_nil ?_ | refine hq_ga ?_ | refine hq_sk ?_ | refine hq_su ?_ | refine hq_gT ?_ | refine hq_gF ?_ | refine hq_gd (fun h => ?_) (fun h => ?_) | refine hl_ga ?_ | refine hl_sk ?_ | refine hl_su ?_ | refine hl_gT ?_ | refine hl_gF ?_ | refine hl_gd (fun h => ?_) (fun h => ?_) | refine hx_next ?_ | refine hw_seq ?_ | refine hw_region ?_ | refine hw_dr ?_ | refine hw_block ?_ | refine hx_block ?_ | refine hw_tt ?_ | refine hw_ff ?_ | refine hw_iT ?_ | refine hw_iF ?_ | refine hw_skip ?_ | refine hw_ret ?_ | refine hw_exit ?_ | refine hx_then_ret ?_ | refine hx_block_ret ?_ | refine hx_then_exit ?_ | refine hx_block_here ?_ | refine hx_far ?_ | refine hx_any ?_ | (apply ha_end; decide +kernel))
        refine hx_ret1 rfl rfl (fun w hm => ⟨?_, hm.none⟩)
        rw [decide_eq_false (fun hv => by have := (hv.row k hk2).all j hj2; omega)]
      repeat' (first | refine hl_a ?_ | refine hq_a ?_ | refine hl_nil ?_ | refine hq_nil ?_ | refine hq_ga ?_ | refine hq_sk ?_ | refine hq_su ?_ | refine hq_gT ?_ | refine hq_gF ?_ | refine hq_gd (fun h => ?_) (fun h => ?_) | refine hl_ga ?_ | refine hl_sk ?_ | refine hl_su ?_ | refine hl_gT ?_ | refine hl_gF ?_ | refine hl_gd (fun h => ?_) (fun h => ?_) | refine hx_next ?_ | refine hw_seq ?_ | refine hw_region ?_ | refine hw_dr ?_ | refine hw_block ?_ | refine hx_block ?_ | refine hw_tt ?_ | refine hw_ff ?_ | refine hw_iT ?_ | refine hw_iF ?_ | refine hw_skip ?_ | refine hw_ret ?_ | refine hw_exit ?_ | refine hx_then_ret ?_ | refine hx_block_ret ?_ | refine hx_then_exit ?_ | refine hx_block_here ?_ | refine hx_far ?_ | refine hx_any ?_ | (apply ha_end; decide +kernel))
      refine hx_round ⟨rfl, j + 1, hj2, rfl, rfl, ?_⟩ (by omega) ⟨rfl, rfl, rfl, rfl, rfl, rfl, rfl, rfl, rfl, trivial⟩
      intro t ht
      by_cases e : t = j
      · subst e; omega
      · exact hall t (by omega)
    · have hjl : j = (xss.getD k []).length := by omega
      subst hjl
      repeat' (first | refine hl_a ?_ | refine hq_a ?_ | refine hl_nil ?_ | refine hq_nil ?_ | refine hq_ga ?_ | refine hq_sk ?_ | refine hq_su ?_ | refine hq_gT ?_ | refine hq_gF ?_ | refine hq_gd (fun h => ?_) (fun h => ?_) | refine hl_ga ?_ | refine hl_sk ?_ | refine hl_su ?_ | refine hl_gT ?_ | refine hl_gF ?_ | refine hl_gd (fun h => ?_) (fun h => ?_) | refine hx_next ?_ | refine hw_seq ?_ | refine hw_region ?_ | refine hw_dr ?_ | refine hw_block ?_ | refine hx_block ?_ | refine hw_tt ?_ | refine hw_ff ?_ | refine hw_iT ?_ | refine hw_iF ?_ | refine hw_skip ?_ | refine hw_ret ?_ | refine hw_exit ?_ | refine hx_then_ret ?_ | refine hx_block_ret ?_ | refine hx_then_exit ?_ | refine hx_block_here ?_ | refine hx_far ?_ | refine hx_any ?_ | (apply ha_end; decide +kernel))
      refine hx_mem (rs' := [rBlk b #[.int .i64 st, .int .i64 tot, v] 55]) (fun w hm => Mem.keep [_] hm) ?_
      refine hx_round ⟨rfl, k + 1, hk2, rfl, rfl, ?_, ?_⟩ (by omega) ⟨rfl, ?_, rfl, rfl, rfl, trivial⟩
      · intro r hr'
        by_cases e : r = k
        · subst e; exact hk3
        · exact hkeys r (by omega)
      · intro r hr'
        by_cases e : r = k
        · subst e; exact ⟨hlk, hall⟩
        · exact hrows r (by omega)
      · rw [hs]; rfl
  · have e : k = xss.length := by omega
    subst e
    repeat' (first | refine hl_a ?_ | refine hq_a ?_ | refine hl_nil ?_ | refine hq_nil ?_ | refine hq_ga ?_ | refine hq_sk ?_ | refine hq_su ?_ | refine hq_gT ?_ | refine hq_gF ?_ | refine hq_gd (fun h => ?_) (fun h => ?_) | refine hl_ga ?_ | refine hl_sk ?_ | refine hl_su ?_ | refine hl_gT ?_ | refine hl_gF ?_ | refine hl_gd (fun h => ?_) (fun h => ?_) | refine hx_next ?_ | refine hw_seq ?_ | refine hw_region ?_ | refine hw_dr ?_ | refine hw_block ?_ | refine hx_block ?_ | refine hw_tt ?_ | refine hw_ff ?_ | refine hw_iT ?_ | refine hw_iF ?_ | refine hw_skip ?_ | refine hw_ret ?_ | refine hw_exit ?_ | refine hx_then_ret ?_ | refine hx_block_ret ?_ | refine hx_then_exit ?_ | refine hx_block_here ?_ | refine hx_far ?_ | refine hx_any ?_ | (apply ha_end; decide +kernel))
    refine hx_ret1 rfl rfl (fun w hm => ⟨?_, hm.none⟩)
    have e1 : ks.take xss.length = ks := by rw [← hkl]; exact List.take_length
    rw [e1]
    have hle2 := le_sum_take ks xss.length (by omega) (fun t ht => by have := hkeys t ht; omega)
    rw [e1] at hle2
    have hiff : (ks.sum = tot) ↔ ValidM st tot ks xss := ⟨fun h => ⟨hs1, ht1, hn1, fun r hr' => ⟨(hkeys r hr').1, by have := hle2 r hr'; omega⟩, hrows, h⟩, fun h => h.sum⟩
    simp [hiff]
end Go.Proofs.Ytgeidbjcphjbiaa
