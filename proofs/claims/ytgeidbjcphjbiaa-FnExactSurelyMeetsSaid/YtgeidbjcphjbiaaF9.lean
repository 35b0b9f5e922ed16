/- Contracts: steps by draws. -/
import Derived.Test.YtgeidbjcphjbiaaF2
import Derived.Test.YtgeidbjcphjbiaaH5
import Derived.Test.YtgeidbjcphjbiaaLibR
namespace Go.Proofs.Ytgeidbjcphjbiaa
open Go.Eng Go.RowKit
set_option linter.unusedVariables false

theorem _root_.Go.Eng.PtC.ok {w : World} {p : Addr} {st tot : Int} {v : Value} {xss : List (List Int)} {row : Nat → Value} (h : PtC w p st tot v xss row) : Ret Try.prog 71 [.pointer (some p)] w (.bool (decide (Valid st tot xss))) :=
  l01Ok_c p st tot v xss row w h.h0 h.h1 h.h2 h.hr

/-- The place where the sums of weights pass a draw. -/
def stepGo (draw : Int) : List Int → Int → Nat → Int → Int
  | [], _, _, d => d
  | x :: xs, s, i, d => if draw < s + x then (i : Int) else stepGo draw xs (s + x) (i + 1) d
theorem stepGo_step (xs : List Int) (draw : Int) (k : Nat) (d : Int) (hk : k < xs.length) :
    stepGo draw (xs.drop k) (xs.take k).sum k d = if draw < (xs.take k).sum + xs.getD k 0 then (k : Int) else stepGo draw (xs.drop (k + 1)) (xs.take (k + 1)).sum (k + 1) d := by
  rw [List.drop_eq_getElem_cons hk, sum_take_succ xs k hk, getD_lt _ _ _ hk]; rfl
theorem stepGo_end (xs : List Int) (draw : Int) (s : Int) (k : Nat) (d : Int) (hk : xs.length ≤ k) : stepGo draw (xs.drop k) s k d = d := by
  rw [List.drop_eq_nil_of_le hk]; rfl
/-- Where the draw is below the sum there is such a place. -/
theorem stepGo_lt (draw : Int) : ∀ (xs : List Int) (s : Int) (i : Nat) (d d' : Int), s ≤ draw → draw < s + xs.sum → stepGo draw xs s i d = stepGo draw xs s i d' ∧ (i : Int) ≤ stepGo draw xs s i d ∧ stepGo draw xs s i d < i + xs.length
  | [], s, i, d, d', h0, h => by simp at h; omega
  | x :: xs, s, i, d, d', h0, h => by
    simp only [stepGo]
    split
    · exact ⟨rfl, by omega, by simp; omega⟩
    · have h1 : draw < (s + x) + xs.sum := by simp at h; omega
      obtain ⟨a, b, c⟩ := stepGo_lt draw xs (s + x) (i + 1) d d' (by omega) h1
      refine ⟨a, by omega, ?_⟩
      simp at c ⊢; omega

/-- To which state a chain goes. -/
def stepTo (xss : List (List Int)) (s draw : Int) : Int := stepGo draw (xss.getD s.toNat []) 0 0 0
theorem stepTo_ok {st tot : Int} {xss : List (List Int)} (hv : Valid st tot xss) (s draw : Int) (hs : 0 ≤ s ∧ s ≤ st - 1) (hd : 0 ≤ draw ∧ draw ≤ tot - 1) :
    stepGo draw (xss.getD s.toNat []) 0 0 (-1) = stepTo xss s draw ∧ 0 ≤ stepTo xss s draw ∧ stepTo xss s draw ≤ st - 1 := by
  have hl := hv.len
  have hr := hv.rows s.toNat (by omega)
  obtain ⟨a, b, c⟩ := stepGo_lt draw (xss.getD s.toNat []) 0 0 (-1) 0 hd.1 (by have := hr.sum; omega)
  have h3 := hr.len
  unfold stepTo
  rw [← a]
  exact ⟨rfl, by omega, by omega⟩

theorem isState_c (st tot : Int) (v : Value) (s : Int) (w : World) (hb : I64 st) (h0 : 1 ≤ st) : Ret Try.prog 127 [chV st tot v, .int .i64 s] w (.bool (decide (0 ≤ s ∧ s ≤ st - 1))) := by
  refine calls_hw Try.func127 Try.ntmps127 rfl rfl ?_
  unfold I64 at hb
  repeat' (first | refine hl_a ?_ | refine hq_a ?_ | refine hl_nil ?_ | refine hq_nil ?_ | refine hq_ga ?_ | refine hq_sk ?_ | refine hq_su ?_ | refine hq_gT ?_ | refine hq_gF ?_ | refine hq_gd (fun h => ?_) (fun h => ?_) | refine hl_ga ?_ | refine hl_sk ?_ | refine hl_su ?_ | refine hl_gT ?_ | refine hl_gF ?_ | refine hl_gd (fun h => ?_) (fun h => ?_) | refine hx_next ?_ | refine hw_seq ?_ | refine hw_region ?_ | refine hw_dr ?_ | refine hw_block ?_ | refine hx_block ?_ | refine hw_tt ?_ | refine hw_ff ?_ | refine hw_iT ?_ | refine hw_iF ?_ | refine hw_skip ?_ | refine hw_ret ?_ | refine hw_exit ?_ | refine hx_then_ret ?_ | refine hx_block_ret ?_ | refine hx_then_exit ?_ | refine hx_block_here ?_ | refine hx_far ?_ | refine hx_any ?_ | (apply ha_end; decide +kernel))
  refine hl_box (by decide) rfl (fun b => ?_)
  repeat' (first | refine hl_a ?_ | refine hq_a ?_ | refine hl_nil ?_ | refine hq_nil ?_ | refine hq_ga ?_ | refine hq_sk ?_ | refine hq_su ?_ | refine hq_gT ?_ | refine hq_gF ?_ | refine hq_gd (fun h => ?_) (fun h => ?_) | refine hl_ga ?_ | refine hl_sk ?_ | refine hl_su ?_ | refine hl_gT ?_ | refine hl_gF ?_ | refine hl_gd (fun h => ?_) (fun h => ?_) | refine hx_next ?_ | refine hw_seq ?_ | refine hw_region ?_ | refine hw_dr ?_ | refine hw_block ?_ | refine hx_block ?_ | refine hw_tt ?_ | refine hw_ff ?_ | refine hw_iT ?_ | refine hw_iF ?_ | refine hw_skip ?_ | refine hw_ret ?_ | refine hw_exit ?_ | refine hx_then_ret ?_ | refine hx_block_ret ?_ | refine hx_then_exit ?_ | refine hx_block_here ?_ | refine hx_far ?_ | refine hx_any ?_ | (apply ha_end; decide +kernel) | (apply hl_q; decide; exact q_call (fun w hm => inRange_c _ _ _ _) rfl) | (apply hq_q; decide; exact q_call (fun w hm => inRange_c _ _ _ _) rfl) | (apply hq_g; rfl; rfl; decide; exact q_call (fun w hm => inRange_c _ _ _ _) rfl) | (apply hl_g; rfl; rfl; decide; exact q_call (fun w hm => inRange_c _ _ _ _) rfl))
  exact hx_ret1 rfl rfl (fun w hm => ⟨rfl, hm.none⟩)
/-- What StepByDraw answers. -/
noncomputable def sbdV (st tot : Int) (xss : List (List Int)) (s d : Int) : Int := if Valid st tot xss ∧ (0 ≤ s ∧ s ≤ st - 1) ∧ (0 ≤ d ∧ d ≤ tot - 1) then stepTo xss s d else 0
noncomputable def sbdC (st tot : Int) (xss : List (List Int)) (s d : Int) : Int := if Valid st tot xss then if (0 ≤ s ∧ s ≤ st - 1) ∧ (0 ≤ d ∧ d ≤ tot - 1) then 0 else 2 else 1
theorem i64_valid {st tot : Int} {xss : List (List Int)} (hv : Valid st tot xss) : I64 st ∧ I64 tot ∧ 1 ≤ st ∧ 1 ≤ tot := by
  have := hv.s1; have := hv.t1
  unfold I64; omega
end Go.Proofs.Ytgeidbjcphjbiaa
