/- Contracts: steps by draws. -/
import Derived.Test.YteddlbgbakbpeaaF2
import Derived.Test.YteddlbgbakbpeaaH5
import Derived.Test.YteddlbgbakbpeaaLibR
namespace Go.Proofs.Yteddlbgbakbpeaa
open Go.Eng Go.RowKit
set_option linter.unusedVariables false

theorem _root_.Go.Eng.PtC.ok {w : World} {p : Addr} {st tot : Int} {v : Value} {xss : List (List Int)} {row : Nat → Value} (h : PtC w p st tot v xss row) : Ret Try.prog 85 [.pointer (some p)] w (.bool (decide (Valid st tot xss))) :=
  l01Ok_c p st tot v xss row w h.h0 h.h1 h.h2 h.hr

/-- The place where the sums of weights pass a draw. -/
def stepGo (draw : Int) : List Int → Int → Nat → Int → Int
  | [], _, _, d => d
  | x :: xs, s, i, d => if draw < s + x then (i : Int) else stepGo draw xs (s + x) (i + 1) d
theorem stepGo_step (xs : List Int) (draw : Int) (k : Nat) (d : Int) (hk : k < xs.length) :
    stepGo draw (xs.drop k) (xs.take k).sum k d = if draw < (xs.take k).sum + xs.getD k 0 then (k : Int) else stepGo draw (xs.drop (k + 1)) (xs.take (k + 1)).sum (k + 1) d := by
  rw [List.drop_eq_getElem_cons hk, sum_take_succ xs k hk, getD_lt _ _ _ hk]; rfl
theorem stepGo_end (xs : List Int) (draw : Int) (s : Int) (k : Nat) (d : Int) (hk : xs.length ≤ k) : stepGo draw (xs.drop k) s k d = d := by
  rw [List.drop_eq_nil_of_le hk]; rfl
/-- Where the draw is below the sum there is such a place. -/
theorem stepGo_lt (draw : Int) : ∀ (xs : List Int) (s : Int) (i : Nat) (d d' : Int), s ≤ draw → draw < s + xs.sum → stepGo draw xs s i d = stepGo draw xs s i d' ∧ (i : Int) ≤ stepGo draw xs s i d ∧ stepGo draw xs s i d < i + xs.length
  | [], s, i, d, d', h0, h => by simp at h; omega
  | x :: xs, s, i, d, d', h0, h => by
    simp only [stepGo]
    split
    · exact ⟨rfl, by omega, by simp; omega⟩
    · have h1 : draw < (s + x) + xs.sum := by simp at h; omega
      obtain ⟨a, b, c⟩ := stepGo_lt draw xs (s + x) (i + 1) d d' (by omega) h1
      refine ⟨a, by omega, ?_⟩
      simp at c ⊢; omega

/-- To which state a chain goes. -/
def stepTo (xss : List (List Int)) (s draw : Int) : Int := stepGo draw (xss.getD s.toNat []) 0 0 0
theorem stepTo_ok {st tot : Int} {xss : List (List Int)} (hv : Valid st tot xss) (s draw : Int) (hs : 0 ≤ s ∧ s ≤ st - 1) (hd : 0 ≤ draw ∧ draw ≤ tot - 1) :
    stepGo draw (xss.getD s.toNat []) 0 0 (-1) = stepTo xss s draw ∧ 0 ≤ stepTo xss s draw ∧ stepTo xss s draw ≤ st - 1 := by
  have hl := hv.len
  have hr := hv.rows s.toNat (by omega)
  obtain ⟨a, b, c⟩ := stepGo_lt draw (xss.getD s.toNat []) 0 0 (-1) 0 hd.1 (by have := hr.sum; omega)
  have h3 := hr.len
  unfold stepTo
  rw [← a]
  exact ⟨rfl, by omega, by omega⟩

theorem l01To_c (p : Addr) (st tot : Int) (v : Value) (xss : List (List Int)) (row : Nat → Value) (s : Int) (draw : Int) (w : World) (hp : PtC w p st tot v xss row) (hv : Valid st tot xss) (hs : 0 ≤ s ∧ s ≤ st - 1) :
    Ret Try.prog 86 [.pointer (some p), .int .i64 s, .int .i64 draw] w (.int .i64 (stepTo xss s draw)) := by
  obtain ⟨n, rfl⟩ := Int.eq_ofNat_of_zero_le hs.1
  refine calls_hw Try.func86 Try.ntmps86 rfl rfl ?_
  obtain ⟨h0, h1, h2, hr⟩ := hp
  have hl := hv.len
  have hn : n < xss.length := by omega
  have hsl := hr.sl
  have cs := hr.get n hn
  have hrs := hr.row n hn
  have ss := hrs.sl
  have hrow := hv.rows n hn
  have hrl := hrow.len
  have ht1 := hv.t1
  have hs1 := hv.s1
  repeat' (first | refine hl_a ?_ | refine hq_a ?_ | refine hl_nil ?_ | refine hq_nil ?_ | refine hq_ga ?_ | refine hq_sk ?_ | refine hq_su ?_ | refine hq_gT ?_ | refine hq_gF ?_ | refine hq_gd (fun h => ?_) (fun h => ?_) | refine hl_ga ?_ | refine hl_sk ?_ | refine hl_su ?_ | refine hl_gT ?_ | refine hl_gF ?_ | refine hl_gd (fun h => ?_) (fun h => ?_) | refine hx_next ?_ | refine hw_seq ?_ | refine hw_region ?_ | refine hw_dr ?_ | refine hw_block ?_ | refine hx_block ?_ | refine hw_tt ?_ | refine hw_ff ?_ | refine hw_iT ?_ | refine hw_iF ?_ | refine hw_skip ?_ | refine hw_ret ?_ | refine hw_exit ?_ | refine hx_then_ret ?_ | refine hx_block_ret ?_ | refine hx_then_exit ?_ | refine hx_block_here ?_ | refine hx_far ?_ | refine hx_any ?_ | (apply ha_end; decide +kernel))
  refine hw_loop (fun e r m => r = [] ∧ ∃ k : Nat, k ≤ (xss.getD n []).length ∧ m = (xss.getD n []).length - k ∧ e = [(0, .pointer (some p)), (1, .int .i64 n), (2, .int .i64 draw), (7, .int .i64 ((xss.getD n []).take k).sum), (8, .int .i64 k)] ∧ stepGo draw ((xss.getD n []).drop k) ((xss.getD n []).take k).sum k 0 = stepTo xss n draw)
    ⟨rfl, 0, Nat.zero_le _, rfl, rfl, rfl⟩ ⟨rfl, rfl, rfl, rfl, rfl, trivial⟩ ?_
  rintro _ _ _ ⟨rfl, k, hk, rfl, rfl, hinv⟩
  repeat' (first | refine hl_a ?_ | refine hq_a ?_ | refine hl_nil ?_ | refine hq_nil ?_ | refine hq_ga ?_ | refine hq_sk ?_ | refine hq_su ?_ | refine hq_gT ?_ | refine hq_gF ?_ | refine hq_gd (fun h => ?_) (fun h => ?_) | refine hl_ga ?_ | refine hl_sk ?_ | refine hl_su ?_ | refine hl_gT ?_ | refine hl_gF ?_ | refine hl_gd (fun h => ?_) (fun h => ?_) | refine hx_next ?_ | refine hw_seq ?_ | refine hw_region ?_ | refine hw_dr ?_ | refine hw_block ?_ | refine hx_block ?_ | refine hw_tt ?_ | refine hw_ff ?_ | refine hw_iT ?_ | refine hw_iF ?_ | refine hw_skip ?_ | refine hw_ret ?_ | refine hw_exit ?_ | refine hx_then_ret ?_ | refine hx_block_ret ?_ | refine hx_then_exit ?_ | refine hx_block_here ?_ | refine hx_far ?_ | refine hx_any ?_ | (apply ha_end; decide +kernel))
  refine hw_if rfl (fun hlt => ?_) (fun hge => ?_)
  · have hk2 : k < (xss.getD n []).length := by omega
    have hcj := hrs.get k hk2
    have hb := sum_take_le 60 (xss.getD n []) k hk (fun t ht => by have := hrow.all t (by omega); omega)
    have ha := hrow.all k hk2
    rw [stepGo_step _ _ _ _ hk2] at hinv
    repeat' (first | refine hl_a ?_ | refine hq_a ?_ | refine hl_nil ?_ | refine hq_nil ?_ | refine hq_ga ?_ | refine hq_sk ?_ | refine hq_su ?_ | refine hq_gT ?_ | refine hq_gF ?_ | refine hq_gd (fun h => ?_) (fun h => ?_) | refine hl_ga ?_ | refine hl_sk ?_ | refine hl_su ?_ | refine hl_gT ?_ | refine hl_gF ?_ | refine hl_gd (fun h => ?_) (fun h => ?_) | refine hx_next ?_ | refine hw_seq ?_ | refine hw_region ?_ | refine hw_dr ?_ | refine hw_block ?_ | refine hx_block ?_ | refine hw_tt ?_ | refine hw_ff ?_ | refine hw_iT ?_ | refine hw_iF ?_ | refine hw_skip ?_ | refine hw_ret ?_ | refine hw_exit ?_ | refine hx_then_ret ?_ | refine hx_block_ret ?_ | refine hx_then_exit ?_ | refine hx_block_here ?_ | refine hx_far ?_ | refine hx_any ?_ | (apply ha_end; decide +kernel))
    refine hw_if rfl (fun h => ?_) (fun h => ?_)
    · repeat' (first | refine hl_a ?_ | refine hq_a ?_ | refine hl_nil ?_ | refine hq_nil ?_ | refine hq_ga ?_ | refine hq_sk ?_ | refine hq_su ?_ | refine hq_gT ?_ | refine hq_gF ?_ | refine hq_gd (fun h => ?_) (fun h => ?_) | refine hl_ga ?_ | refine hl_sk ?_ | refine hl_su ?_ | refine hl_gT ?_ | refine hl_gF ?_ | refine hl_gd (fun h => ?_) (fun h => ?_) | refine hx_next ?_ | refine hw_seq ?_ | refine hw_region ?_ | refine hw_dr ?_ | refine hw_block ?_ | refine hx_block ?_ | refine hw_tt ?_ | refine hw_ff ?_ | refine hw_iT ?_ | refine hw_iF ?_ | refine hw_skip ?_ | refine hw_ret ?_ | refine hw_exit ?_ | refine hx_then_ret ?_ | refine hx_block_ret ?_ | refine hx_then_exit ?_ | refine hx_block_here ?_ | refine hx_far ?_ | refine hx_any ?_ | (apply ha_end; decide +kernel))
      refine hx_ret1 rfl rfl (fun w hm => ⟨?_, hm.none⟩)
      rw [if_pos h] at hinv; rw [hinv]
    · repeat' (first | refine hl_a ?_ | refine hq_a ?_ | refine hl_nil ?_ | refine hq_nil ?_ | refine hq_ga ?_ | refine hq_sk ?_ | refine hq_su ?_ | refine hq_gT ?_ | refine hq_gF ?_ | refine hq_gd (fun h => ?_) (fun h => ?_) | refine hl_ga ?_ | refine hl_sk ?_ | refine hl_su ?_ | refine hl_gT ?_ | refine hl_gF ?_ | refine hl_gd (fun h => ?_) (fun h => ?_) | refine hx_next ?_ | refine hw_seq ?_ | refine hw_region ?_ | refine hw_dr ?_ | refine hw_block ?_ | refine hx_block ?_ | refine hw_tt ?_ | refine hw_ff ?_ | refine hw_iT ?_ | refine hw_iF ?_ | refine hw_skip ?_ | refine hw_ret ?_ | refine hw_exit ?_ | refine hx_then_ret ?_ | refine hx_block_ret ?_ | refine hx_then_exit ?_ | refine hx_block_here ?_ | refine hx_far ?_ | refine hx_any ?_ | (apply ha_end; decide +kernel))
      refine hx_round ⟨rfl, k + 1, hk2, rfl, rfl, by rw [← hinv, if_neg h]⟩ (by omega) ⟨rfl, rfl, rfl, ?_, rfl, trivial⟩
      rw [sum_take_succ _ _ hk2]; rfl
  · repeat' (first | refine hl_a ?_ | refine hq_a ?_ | refine hl_nil ?_ | refine hq_nil ?_ | refine hq_ga ?_ | refine hq_sk ?_ | refine hq_su ?_ | refine hq_gT ?_ | refine hq_gF ?_ | refine hq_gd (fun h => ?_) (fun h => ?_) | refine hl_ga ?_ | refine hl_sk ?_ | refine hl_su ?_ | refine hl_gT ?_ | refine hl_gF ?_ | refine hl_gd (fun h => ?_) (fun h => ?_) | refine hx_next ?_ | refine hw_seq ?_ | refine hw_region ?_ | refine hw_dr ?_ | refine hw_block ?_ | refine hx_block ?_ | refine hw_tt ?_ | refine hw_ff ?_ | refine hw_iT ?_ | refine hw_iF ?_ | refine hw_skip ?_ | refine hw_ret ?_ | refine hw_exit ?_ | refine hx_then_ret ?_ | refine hx_block_ret ?_ | refine hx_then_exit ?_ | refine hx_block_here ?_ | refine hx_far ?_ | refine hx_any ?_ | (apply ha_end; decide +kernel))
    refine hx_ret1 rfl rfl (fun w hm => ⟨?_, hm.none⟩)
    rw [stepGo_end _ _ _ _ _ (by omega)] at hinv; rw [hinv]
theorem stepByDraw_c (st tot : Int) (v : Value) (xss : List (List Int)) (row : Nat → Value) (s : Int) (draw : Int) (w : World) (hr : RdS (Value.int .i64) 0 w v xss row) (hv : Valid st tot xss) (hs : 0 ≤ s ∧ s ≤ st - 1) (hd : 0 ≤ draw ∧ draw ≤ tot - 1) :
    Ret Try.prog 89 [chV st tot v, .int .i64 s, .int .i64 draw] w (.int .i64 (stepTo xss s draw)) := by
  have hto := (stepTo_ok hv s draw hs hd).1
  obtain ⟨n, rfl⟩ := Int.eq_ofNat_of_zero_le hs.1
  refine calls_hw Try.func89 Try.ntmps89 rfl rfl ?_
  have hl := hv.len
  have hn : n < xss.length := by omega
  have hsl := hr.sl
  have cs := hr.get n hn
  have hrs := hr.row n hn
  have ss := hrs.sl
  have hrow := hv.rows n hn
  have hrl := hrow.len
  have ht1 := hv.t1
  have hs1 := hv.s1
  repeat' (first | refine hl_a ?_ | refine hq_a ?_ | refine hl_nil ?_ | refine hq_nil ?_ | refine hq_ga ?_ | refine hq_sk ?_ | refine hq_su ?_ | refine hq_gT ?_ | refine hq_gF ?_ | refine hq_gd (fun h => ?_) (fun h => ?_) | refine hl_ga ?_ | refine hl_sk ?_ | refine hl_su ?_ | refine hl_gT ?_ | refine hl_gF ?_ | refine hl_gd (fun h => ?_) (fun h => ?_) | refine hx_next ?_ | refine hw_seq ?_ | refine hw_region ?_ | refine hw_dr ?_ | refine hw_block ?_ | refine hx_block ?_ | refine hw_tt ?_ | refine hw_ff ?_ | refine hw_iT ?_ | refine hw_iF ?_ | refine hw_skip ?_ | refine hw_ret ?_ | refine hw_exit ?_ | refine hx_then_ret ?_ | refine hx_block_ret ?_ | refine hx_then_exit ?_ | refine hx_block_here ?_ | refine hx_far ?_ | refine hx_any ?_ | (apply ha_end; decide +kernel))
  refine hl_box (by decide) rfl (fun b => ?_)
  repeat' (first | refine hl_a ?_ | refine hq_a ?_ | refine hl_nil ?_ | refine hq_nil ?_ | refine hq_ga ?_ | refine hq_sk ?_ | refine hq_su ?_ | refine hq_gT ?_ | refine hq_gF ?_ | refine hq_gd (fun h => ?_) (fun h => ?_) | refine hl_ga ?_ | refine hl_sk ?_ | refine hl_su ?_ | refine hl_gT ?_ | refine hl_gF ?_ | refine hl_gd (fun h => ?_) (fun h => ?_) | refine hx_next ?_ | refine hw_seq ?_ | refine hw_region ?_ | refine hw_dr ?_ | refine hw_block ?_ | refine hx_block ?_ | refine hw_tt ?_ | refine hw_ff ?_ | refine hw_iT ?_ | refine hw_iF ?_ | refine hw_skip ?_ | refine hw_ret ?_ | refine hw_exit ?_ | refine hx_then_ret ?_ | refine hx_block_ret ?_ | refine hx_then_exit ?_ | refine hx_block_here ?_ | refine hx_far ?_ | refine hx_any ?_ | (apply ha_end; decide +kernel))
  refine hw_loop (fun e r m => r = [rBlk b #[.int .i64 st, .int .i64 tot, v] 57] ∧ ∃ k : Nat, k ≤ (xss.getD n []).length ∧ m = (xss.getD n []).length - k ∧ e = [(2, .int .i64 draw), (7, .int .i64 ((xss.getD n []).take k).sum), (14, row n), (15, .int .i64 ((xss.getD n []).length : Int)), (16, .int .i64 k)] ∧ stepGo draw ((xss.getD n []).drop k) ((xss.getD n []).take k).sum k (-1) = stepTo xss n draw)
    ⟨rfl, 0, Nat.zero_le _, rfl, rfl, hto⟩ ⟨rfl, rfl, rfl, rfl, rfl, trivial⟩ ?_
  rintro _ _ _ ⟨rfl, k, hk, rfl, rfl, hinv⟩
  repeat' (first | refine hl_a ?_ | refine hq_a ?_ | refine hl_nil ?_ | refine hq_nil ?_ | refine hq_ga ?_ | refine hq_sk ?_ | refine hq_su ?_ | refine hq_gT ?_ | refine hq_gF ?_ | refine hq_gd (fun h => ?_) (fun h => ?_) | refine hl_ga ?_ | refine hl_sk ?_ | refine hl_su ?_ | refine hl_gT ?_ | refine hl_gF ?_ | refine hl_gd (fun h => ?_) (fun h => ?_) | refine hx_next ?_ | refine hw_seq ?_ | refine hw_region ?_ | refine hw_dr ?_ | refine hw_block ?_ | refine hx_block ?_ | refine hw_tt ?_ | refine hw_ff ?_ | refine hw_iT ?_ | refine hw_iF ?_ | refine hw_skip ?_ | refine hw_ret ?_ | refine hw_exit ?_ | refine hx_then_ret ?_ | refine hx_block_ret ?_ | refine hx_then_exit ?_ | refine hx_block_here ?_ | refine hx_far ?_ | refine hx_any ?_ | (apply ha_end; decide +kernel))
  refine hw_if rfl (fun hlt => ?_) (fun hge => ?_)
  · have hk2 : k < (xss.getD n []).length := by omega
    have hcj := hrs.get k hk2
    have hb := sum_take_le 60 (xss.getD n []) k hk (fun t ht => by have := hrow.all t (by omega); omega)
    have ha := hrow.all k hk2
    rw [stepGo_step _ _ _ _ hk2] at hinv
    repeat' (first | refine hl_a ?_ | refine hq_a ?_ | refine hl_nil ?_ | refine hq_nil ?_ | refine hq_ga ?_ | refine hq_sk ?_ | refine hq_su ?_ | refine hq_gT ?_ | refine hq_gF ?_ | refine hq_gd (fun h => ?_) (fun h => ?_) | refine hl_ga ?_ | refine hl_sk ?_ | refine hl_su ?_ | refine hl_gT ?_ | refine hl_gF ?_ | refine hl_gd (fun h => ?_) (fun h => ?_) | refine hx_next ?_ | refine hw_seq ?_ | refine hw_region ?_ | refine hw_dr ?_ | refine hw_block ?_ | refine hx_block ?_ | refine hw_tt ?_ | refine hw_ff ?_ | refine hw_iT ?_ | refine hw_iF ?_ | refine hw_skip ?_ | refine hw_ret ?_ | refine hw_exit ?_ | refine hx_then_ret ?_ | refine hx_block_ret ?_ | refine hx_then_exit ?_ | refine hx_block_here ?_ | refine hx_far ?_ | refine hx_any ?_ | (apply ha_end; decide +kernel))
    refine hw_if rfl (fun h => ?_) (fun h => ?_)
    · repeat' (first | refine hl_a ?_ | refine hq_a ?_ | refine hl_nil ?_ | refine hq_nil ?_ | refine hq_ga ?_ | refine hq_sk ?_ | refine hq_su ?_ | refine hq_gT ?_ | refine hq_gF ?_ | refine hq_gd (fun h => ?_) (fun h => ?_) | refine hl_ga ?_ | refine hl_sk ?_ | refine hl_su ?_ | refine hl_gT ?_ | refine hl_gF ?_ | refine hl_gd (fun h => ?_) (fun h => ?_) | refine hx_next ?_ | refine hw_seq ?_ | refine hw_region ?_ | refine hw_dr ?_ | refine hw_block ?_ | refine hx_block ?_ | refine hw_tt ?_ | refine hw_ff ?_ | refine hw_iT ?_ | refine hw_iF ?_ | refine hw_skip ?_ | refine hw_ret ?_ | refine hw_exit ?_ | refine hx_then_ret ?_ | refine hx_block_ret ?_ | refine hx_then_exit ?_ | refine hx_block_here ?_ | refine hx_far ?_ | refine hx_any ?_ | (apply ha_end; decide +kernel))
      refine hx_ret1 rfl rfl (fun w hm => ⟨?_, hm.none⟩)
      rw [if_pos h] at hinv; rw [hinv]
    · repeat' (first | refine hl_a ?_ | refine hq_a ?_ | refine hl_nil ?_ | refine hq_nil ?_ | refine hq_ga ?_ | refine hq_sk ?_ | refine hq_su ?_ | refine hq_gT ?_ | refine hq_gF ?_ | refine hq_gd (fun h => ?_) (fun h => ?_) | refine hl_ga ?_ | refine hl_sk ?_ | refine hl_su ?_ | refine hl_gT ?_ | refine hl_gF ?_ | refine hl_gd (fun h => ?_) (fun h => ?_) | refine hx_next ?_ | refine hw_seq ?_ | refine hw_region ?_ | refine hw_dr ?_ | refine hw_block ?_ | refine hx_block ?_ | refine hw_tt ?_ | refine hw_ff ?_ | refine hw_iT ?_ | refine hw_iF ?_ | refine hw_skip ?_ | refine hw_ret ?_ | refine hw_exit ?_ | refine hx_then_ret ?_ | refine hx_block_ret ?_ | refine hx_then_exit ?_ | refine hx_block_here ?_ | refine hx_far ?_ | refine hx_any ?_ | (apply ha_end; decide +kernel))
      refine hx_round ⟨rfl, k + 1, hk2, rfl, rfl, by rw [← hinv, if_neg h]⟩ (by omega) ⟨rfl, ?_, rfl, rfl, rfl, trivial⟩
      rw [sum_take_succ _ _ hk2]; rfl
  · repeat' (first | refine hl_a ?_ | refine hq_a ?_ | refine hl_nil ?_ | refine hq_nil ?_ | refine hq_ga ?_ | refine hq_sk ?_ | refine hq_su ?_ | refine hq_gT ?_ | refine hq_gF ?_ | refine hq_gd (fun h => ?_) (fun h => ?_) | refine hl_ga ?_ | refine hl_sk ?_ | refine hl_su ?_ | refine hl_gT ?_ | refine hl_gF ?_ | refine hl_gd (fun h => ?_) (fun h => ?_) | refine hx_next ?_ | refine hw_seq ?_ | refine hw_region ?_ | refine hw_dr ?_ | refine hw_block ?_ | refine hx_block ?_ | refine hw_tt ?_ | refine hw_ff ?_ | refine hw_iT ?_ | refine hw_iF ?_ | refine hw_skip ?_ | refine hw_ret ?_ | refine hw_exit ?_ | refine hx_then_ret ?_ | refine hx_block_ret ?_ | refine hx_then_exit ?_ | refine hx_block_here ?_ | refine hx_far ?_ | refine hx_any ?_ | (apply ha_end; decide +kernel))
    refine hx_ret1 rfl rfl (fun w hm => ⟨?_, hm.none⟩)
    rw [stepGo_end _ _ _ _ _ (by omega)] at hinv; rw [← hinv]
/-- What StepByDraw answers. -/
noncomputable def sbdV (st tot : Int) (xss : List (List Int)) (s d : Int) : Int := if Valid st tot xss ∧ (0 ≤ s ∧ s ≤ st - 1) ∧ (0 ≤ d ∧ d ≤ tot - 1) then stepTo xss s d else 0
noncomputable def sbdC (st tot : Int) (xss : List (List Int)) (s d : Int) : Int := if Valid st tot xss then if (0 ≤ s ∧ s ≤ st - 1) ∧ (0 ≤ d ∧ d ≤ tot - 1) then 0 else 2 else 1
theorem i64_valid {st tot : Int} {xss : List (List Int)} (hv : Valid st tot xss) : I64 st ∧ I64 tot ∧ 1 ≤ st ∧ 1 ≤ tot := by
  have := hv.s1; have := hv.t1
  unfold I64; omega
end Go.Proofs.Yteddlbgbakbpeaa
