/- Contracts: lengths of roads, the reference's side. -/
import Derived.Test.YtgeidbjcphjbiaaF30
import Derived.Test.YtgeidbjcphjbiaaPureL
import Derived.Test.YtgeidbjcphjbiaaH5
namespace Go.Proofs.Ytgeidbjcphjbiaa
open Go.Eng Go.RowKit
set_option linter.unusedVariables false

theorem mat_upd (n : Nat) (f : Nat → Nat → Int) (s t : Nat) (x : Int) (hs : s < n) : (mat n f).set s (((mat n f).getD s []).set t x) = mat n (upd f s t x) := by
  unfold mat
  rw [tab_getD _ _ _ _ hs, tab_set, tab_set]
  refine tab_congr _ _ _ fun a ha => ?_
  by_cases e : a = s
  · subst e
    rw [if_pos rfl]
    refine tab_congr _ _ _ fun b hb => ?_
    unfold upd
    by_cases e2 : b = t <;> simp [e2]
  · rw [if_neg e]
    refine tab_congr _ _ _ fun b hb => ?_
    unfold upd; simp [e]
theorem mat_at (n : Nat) (f : Nat → Nat → Int) {s t : Nat} (hs : s < n) (ht : t < n) : ((mat n f).getD s []).getD t 0 = f s t := by
  unfold mat; rw [tab_getD _ _ _ _ hs, tab_getD _ _ _ _ ht]
def mix (W : Nat → Nat → Int) (k s t : Nat) : Nat → Nat → Int := fun a b => if a < s ∨ (a = s ∧ b < t) then fw W (k + 1) a b else fw W k a b
theorem mix_upd (W : Nat → Nat → Int) (k s t : Nat) : upd (mix W k s t) s t (fw W (k + 1) s t) = mix W k s (t + 1) := by
  funext a b
  unfold upd mix
  by_cases e : a = s ∧ b = t
  · rw [if_pos e, if_pos (.inr ⟨e.1, by omega⟩), e.1, e.2]
  · rw [if_neg e]
    by_cases e2 : a < s ∨ (a = s ∧ b < t)
    · rw [if_pos e2, if_pos (by omega)]
    · rw [if_neg e2, if_neg (by omega)]
theorem mix_row (W : Nat → Nat → Int) (k s n : Nat) : mat n (mix W k s n) = mat n (mix W k (s + 1) 0) := mat_congr _ _ _ fun a b ha hb => by
  unfold mix
  by_cases e : a < s ∨ (a = s ∧ b < n)
  · rw [if_pos e, if_pos (by omega)]
  · rw [if_neg e, if_neg (by omega)]
theorem mix_0 (W : Nat → Nat → Int) (k : Nat) : mix W k 0 0 = fw W k := by
  funext a b
  unfold mix; rw [if_neg (by omega)]
theorem mix_n (W : Nat → Nat → Int) (k n : Nat) : mat n (mix W k n 0) = mat n (fw W (k + 1)) := mat_congr _ _ _ fun a b ha hb => by
  unfold mix; rw [if_pos (.inl ha)]
theorem mix_st (W : Nat → Nat → Int) (k s t : Nat) : mix W k s t s t = fw W k s t := by unfold mix; rw [if_neg (by omega)]
theorem mix_sk {W : Nat → Nat → Int} (h : ∀ s t, 0 ≤ W s t) (hd : ∀ s, W s s = 0) (k s t : Nat) : mix W k s t s k = fw W k s k := by
  unfold mix; split
  · exact fw_row h hd k s
  · rfl
theorem mix_kt {W : Nat → Nat → Int} (h : ∀ s t, 0 ≤ W s t) (hd : ∀ s, W s s = 0) (k s t : Nat) : mix W k s t k t = fw W k k t := by
  unfold mix; split
  · exact fw_col h hd k t
  · rfl
section
variable {P : Program} {N : Nat} {env : Env} {w0 : World} {rs : List Res} {Q : Exit → Act → World → Prop} {ops : Array Oper} {l : List Oper} {ty : TypeId} {pos : String} {after : Array Edge} {x y : Operand} {v : Value}
theorem ld_mat (q : Nat) {e1 e2 : TypeId} {vs : List Value} {n : Nat} {f : Nat → Nat → Int} (hq : rs[q]? = some (rRows e1 e2 (Value.int .i64) v vs (mat n f))) (hl : vs.length = n) {s t : Nat} (hs : s < n) (ht : t < n) {a : Int} (ha : f s t = a) : Ld w0 rs (vAt (vs.getD s undef) t) (.int .i64 a) := by
  have h := ld_at (w0 := w0) q 0 hq (by rw [mat_length]; exact hl) (k := s) (j := t) (by rw [mat_length]; exact hs) (by rw [mat_row _ _ _ hs, tab_length]; exact ht)
  rw [mat_at n f hs ht, ha] at h
  exact h
theorem hl_storeMat {t : TypeId} [hT : One P t] {e1 e2 : TypeId} {vs : List Value} {n : Nat} {f : Nat → Nat → Int} (q s c : Nat) (a : Int) (hq : rs[q]? = some (rRows e1 e2 (Value.int .i64) v vs (mat n f))) (hl : vs.length = n) (hs : s < n) (hc : c < n) (hx : env.ev x = some (.pointer (some (vAt (vs.getD s undef) c)))) (hy : env.ev y = some (.int .i64 a))
    (k : HL P N env w0 (rs.set q (rRows e1 e2 (Value.int .i64) v vs (mat n (upd f s c a)))) ops Q l) : HL P N env w0 rs ops Q (⟨none, .store t x y, ty, pos, after, none⟩ :: l) := by
  refine hl_storeRow q s c a hq (by omega) (by rw [mat_length]; exact hs) hx (by rw [mat_row _ _ _ hs, tab_length]; exact hc) hy rfl ?_
  rw [mat_upd _ _ _ _ _ hs]
  exact k
end
theorem slOk_mat {w0 w : World} {rs : List Res} (q : Nat) {e1 e2 : TypeId} {v : Value} {vs : List Value} {n : Nat} {f : Nat → Nat → Int} (hq : rs[q]? = some (rRows e1 e2 (Value.int .i64) v vs (mat n f))) (hl : vs.length = n) (hm : Mem w0 rs w) : SlOk v n ∧ ∀ s, s < n → SlOk (vs.getD s undef) n := by
  have h := hm.rdS q hq (by rw [mat_length]; exact hl) 0
  have h1 := h.sl
  rw [mat_length] at h1
  refine ⟨h1, fun s hs => ?_⟩
  have h2 := (h.row s (by rw [mat_length]; exact hs)).sl
  rw [mat_row _ _ _ hs, tab_length] at h2
  exact h2
theorem wf_0 (far : Int) (rds : List RoadR) (s t : Nat) : wf far rds 0 s t = if s = t then 0 else far := rfl
theorem row_0 (far : Int) (rds : List RoadR) (n s : Nat) : (tab n fun _ => far).set s 0 = tab n (wf far rds 0 s) := by
  rw [tab_set]
  refine tab_congr _ _ _ fun t ht => ?_
  rw [wf_0]
  by_cases e : t = s
  · rw [if_pos e, if_pos e.symm]
  · rw [if_neg e, if_neg (fun h => e h.symm)]
theorem Tbl.bd {n : Nat} {far : Int} {W : Nat → Nat → Int} (h : Tbl n far W) (hf : 100 ≤ far) (k s t : Nat) : 0 ≤ fw W k s t ∧ fw W k s t ≤ far := by
  refine ⟨fw_nonneg (h.nonneg (by omega)) k s t, ?_⟩
  have := fw_le (W := W) k s t
  have := h.le hf s t
  omega
theorem lMin_c (a b : Int) (w : World) : Ret Try.prog 108 [.int .i64 a, .int .i64 b] w (.int .i64 (min a b)) := by
  refine calls_hw Try.func108 Try.ntmps108 rfl rfl ?_
  rcases Int.lt_or_le a b with h | h
  · repeat' (first | refine hl_a ?_ | refine hq_a ?_ | refine hl_nil ?_ | refine hq_nil ?_ | refine hq_ga ?_ | refine hq_sk ?_ | refine hq_su ?_ | refine hq_gT ?_ | refine hq_gF ?_ | refine hq_gd (fun h => ?_) (fun h => ?_) | refine hl_ga ?_ | refine hl_sk ?_ | refine hl_su ?_ | refine hl_gT ?_ | refine hl_gF ?_ | refine hl_gd (fun h => ?_) (fun h => ?_) | refine hx_next ?_ | refine hw_seq ?_ | refine hw_region ?_ | refine hw_dr ?_ | refine hw_block ?_ | refine hx_block ?_ | refine hw_tt ?_ | refine hw_ff ?_ | refine hw_iT ?_ | refine hw_iF ?_ | refine hw_skip ?_ | refine hw_ret ?_ | refine hw_exit ?_ | refine hx_then_ret ?_ | refine hx_block_ret ?_ | refine hx_then_exit ?_ | refine hx_block_here ?_ | refine hx_far ?_ | refine hx_any ?_ | (apply ha_end; decide +kernel))
    refine hx_ret1 rfl rfl (fun w hm => ⟨?_, hm.none⟩)
    rw [Int.min_eq_left (by omega)]
  · have h' : ¬ a < b := by omega
    repeat' (first | refine hl_a ?_ | refine hq_a ?_ | refine hl_nil ?_ | refine hq_nil ?_ | refine hq_ga ?_ | refine hq_sk ?_ | refine hq_su ?_ | refine hq_gT ?_ | refine hq_gF ?_ | refine hq_gd (fun h => ?_) (fun h => ?_) | refine hl_ga ?_ | refine hl_sk ?_ | refine hl_su ?_ | refine hl_gT ?_ | refine hl_gF ?_ | refine hl_gd (fun h => ?_) (fun h => ?_) | refine hx_next ?_ | refine hw_seq ?_ | refine hw_region ?_ | refine hw_dr ?_ | refine hw_block ?_ | refine hx_block ?_ | refine hw_tt ?_ | refine hw_ff ?_ | refine hw_iT ?_ | refine hw_iF ?_ | refine hw_skip ?_ | refine hw_ret ?_ | refine hw_exit ?_ | refine hx_then_ret ?_ | refine hx_block_ret ?_ | refine hx_then_exit ?_ | refine hx_block_here ?_ | refine hx_far ?_ | refine hx_any ?_ | (apply ha_end; decide +kernel))
    refine hx_ret1 rfl rfl (fun w hm => ⟨?_, hm.none⟩)
    rw [Int.min_eq_right (by omega)]
set_option maxHeartbeats 4000000 in
theorem l04Lengths_c (st : Int) (v : Value) (rds : List RoadR) (w : World) (hst : I64 st) (hr : RdR w v rds) : Gives Try.prog 65 [.int .i64 st, v] w (L2Out 82 2 (rlX st rds) (rlC st rds)) := by
  unfold I64 at hst
  have hsl := hr.sl
  have hle := hsl.le
  refine calls_hw Try.func65 Try.ntmps65 rfl rfl ?_
  have hbad : ¬ RlOk st rds → rlC st rds = 2 ∧ rlX st rds = [] := fun h => ⟨by rw [rlC, if_neg h], by rw [rlX, if_neg h]⟩
  rcases Classical.em (1 ≤ st ∧ st ≤ 6) with h1 | h1
  case inr =>
    obtain ⟨hC, hX⟩ := hbad (fun e => h1 e.s)
    repeat' (first | refine hl_a ?_ | refine hq_a ?_ | refine hl_nil ?_ | refine hq_nil ?_ | refine hq_ga ?_ | refine hq_sk ?_ | refine hq_su ?_ | refine hq_gT ?_ | refine hq_gF ?_ | refine hq_gd (fun h => ?_) (fun h => ?_) | refine hl_ga ?_ | refine hl_sk ?_ | refine hl_su ?_ | refine hl_gT ?_ | refine hl_gF ?_ | refine hl_gd (fun h => ?_) (fun h => ?_) | refine hx_next ?_ | refine hw_seq ?_ | refine hw_region ?_ | refine hw_dr ?_ | refine hw_block ?_ | refine hx_block ?_ | refine hw_tt ?_ | refine hw_ff ?_ | refine hw_iT ?_ | refine hw_iF ?_ | refine hw_skip ?_ | refine hw_ret ?_ | refine hw_exit ?_ | refine hx_then_ret ?_ | refine hx_block_ret ?_ | refine hx_then_exit ?_ | refine hx_block_here ?_ | refine hx_far ?_ | refine hx_any ?_ | (apply ha_end; decide +kernel))
    first | refine hl_q (by decide) (q_call (fun w hm => l00In_c _ _ _ _) rfl) ?_ | refine hq_q (by decide) (q_call (fun w hm => l00In_c _ _ _ _) rfl) ?_ | refine hl_g _ _ rfl rfl (by decide) (q_call (fun w hm => l00In_c _ _ _ _) rfl) ?_ | refine hq_g _ _ rfl rfl (by decide) (q_call (fun w hm => l00In_c _ _ _ _) rfl) ?_
    repeat' (first | refine hl_a ?_ | refine hq_a ?_ | refine hl_nil ?_ | refine hq_nil ?_ | refine hq_ga ?_ | refine hq_sk ?_ | refine hq_su ?_ | refine hq_gT ?_ | refine hq_gF ?_ | refine hq_gd (fun h => ?_) (fun h => ?_) | refine hl_ga ?_ | refine hl_sk ?_ | refine hl_su ?_ | refine hl_gT ?_ | refine hl_gF ?_ | refine hl_gd (fun h => ?_) (fun h => ?_) | refine hx_next ?_ | refine hw_seq ?_ | refine hw_region ?_ | refine hw_dr ?_ | refine hw_block ?_ | refine hx_block ?_ | refine hw_tt ?_ | refine hw_ff ?_ | refine hw_iT ?_ | refine hw_iF ?_ | refine hw_skip ?_ | refine hw_ret ?_ | refine hw_exit ?_ | refine hx_then_ret ?_ | refine hx_block_ret ?_ | refine hx_then_exit ?_ | refine hx_block_here ?_ | refine hx_far ?_ | refine hx_any ?_ | (apply ha_end; decide +kernel))
    refine hl_build0 (by decide) (fun bz => ?_)
    repeat' (first | refine hl_a ?_ | refine hq_a ?_ | refine hl_nil ?_ | refine hq_nil ?_ | refine hq_ga ?_ | refine hq_sk ?_ | refine hq_su ?_ | refine hq_gT ?_ | refine hq_gF ?_ | refine hq_gd (fun h => ?_) (fun h => ?_) | refine hl_ga ?_ | refine hl_sk ?_ | refine hl_su ?_ | refine hl_gT ?_ | refine hl_gF ?_ | refine hl_gd (fun h => ?_) (fun h => ?_) | refine hx_next ?_ | refine hw_seq ?_ | refine hw_region ?_ | refine hw_dr ?_ | refine hw_block ?_ | refine hx_block ?_ | refine hw_tt ?_ | refine hw_ff ?_ | refine hw_iT ?_ | refine hw_iF ?_ | refine hw_skip ?_ | refine hw_ret ?_ | refine hw_exit ?_ | refine hx_then_ret ?_ | refine hx_block_ret ?_ | refine hx_then_exit ?_ | refine hx_block_here ?_ | refine hx_far ?_ | refine hx_any ?_ | (apply ha_end; decide +kernel))
    exact hx_ret2 rfl rfl rfl (fun w hm => ⟨_, _, rfl, Mem.rows (e1 := 82) (e2 := 2) (enc := Value.int .i64) (xss := ([] : List (List Int))) 0 1 hm.empty rfl (by decide) rfl rfl, _, [], by rw [hC], by rw [hX], by rw [hX]; rfl, by rw [hX]; exact lit_ok _ 0 (by decide)⟩)
  have h1' : ¬ ¬ (1 ≤ st ∧ st ≤ 6) := fun e => e h1
  rcases Nat.lt_or_ge 20 rds.length with h2 | h2
  · have h2' : (20 : Int) < (rds.length : Int) := by omega
    obtain ⟨hC, hX⟩ := hbad (fun e => by have := e.n; omega)
    repeat' (first | refine hl_a ?_ | refine hq_a ?_ | refine hl_nil ?_ | refine hq_nil ?_ | refine hq_ga ?_ | refine hq_sk ?_ | refine hq_su ?_ | refine hq_gT ?_ | refine hq_gF ?_ | refine hq_gd (fun h => ?_) (fun h => ?_) | refine hl_ga ?_ | refine hl_sk ?_ | refine hl_su ?_ | refine hl_gT ?_ | refine hl_gF ?_ | refine hl_gd (fun h => ?_) (fun h => ?_) | refine hx_next ?_ | refine hw_seq ?_ | refine hw_region ?_ | refine hw_dr ?_ | refine hw_block ?_ | refine hx_block ?_ | refine hw_tt ?_ | refine hw_ff ?_ | refine hw_iT ?_ | refine hw_iF ?_ | refine hw_skip ?_ | refine hw_ret ?_ | refine hw_exit ?_ | refine hx_then_ret ?_ | refine hx_block_ret ?_ | refine hx_then_exit ?_ | refine hx_block_here ?_ | refine hx_far ?_ | refine hx_any ?_ | (apply ha_end; decide +kernel))
    first | refine hl_q (by decide) (q_call (fun w hm => l00In_c _ _ _ _) rfl) ?_ | refine hq_q (by decide) (q_call (fun w hm => l00In_c _ _ _ _) rfl) ?_ | refine hl_g _ _ rfl rfl (by decide) (q_call (fun w hm => l00In_c _ _ _ _) rfl) ?_ | refine hq_g _ _ rfl rfl (by decide) (q_call (fun w hm => l00In_c _ _ _ _) rfl) ?_
    repeat' (first | refine hl_a ?_ | refine hq_a ?_ | refine hl_nil ?_ | refine hq_nil ?_ | refine hq_ga ?_ | refine hq_sk ?_ | refine hq_su ?_ | refine hq_gT ?_ | refine hq_gF ?_ | refine hq_gd (fun h => ?_) (fun h => ?_) | refine hl_ga ?_ | refine hl_sk ?_ | refine hl_su ?_ | refine hl_gT ?_ | refine hl_gF ?_ | refine hl_gd (fun h => ?_) (fun h => ?_) | refine hx_next ?_ | refine hw_seq ?_ | refine hw_region ?_ | refine hw_dr ?_ | refine hw_block ?_ | refine hx_block ?_ | refine hw_tt ?_ | refine hw_ff ?_ | refine hw_iT ?_ | refine hw_iF ?_ | refine hw_skip ?_ | refine hw_ret ?_ | refine hw_exit ?_ | refine hx_then_ret ?_ | refine hx_block_ret ?_ | refine hx_then_exit ?_ | refine hx_block_here ?_ | refine hx_far ?_ | refine hx_any ?_ | (apply ha_end; decide +kernel))
    refine hl_build0 (by decide) (fun bz => ?_)
    repeat' (first | refine hl_a ?_ | refine hq_a ?_ | refine hl_nil ?_ | refine hq_nil ?_ | refine hq_ga ?_ | refine hq_sk ?_ | refine hq_su ?_ | refine hq_gT ?_ | refine hq_gF ?_ | refine hq_gd (fun h => ?_) (fun h => ?_) | refine hl_ga ?_ | refine hl_sk ?_ | refine hl_su ?_ | refine hl_gT ?_ | refine hl_gF ?_ | refine hl_gd (fun h => ?_) (fun h => ?_) | refine hx_next ?_ | refine hw_seq ?_ | refine hw_region ?_ | refine hw_dr ?_ | refine hw_block ?_ | refine hx_block ?_ | refine hw_tt ?_ | refine hw_ff ?_ | refine hw_iT ?_ | refine hw_iF ?_ | refine hw_skip ?_ | refine hw_ret ?_ | refine hw_exit ?_ | refine hx_then_ret ?_ | refine hx_block_ret ?_ | refine hx_then_exit ?_ | refine hx_block_here ?_ | refine hx_far ?_ | refine hx_any ?_ | (apply ha_end; decide +kernel))
    exact hx_ret2 rfl rfl rfl (fun w hm => ⟨_, _, rfl, Mem.rows (e1 := 82) (e2 := 2) (enc := Value.int .i64) (xss := ([] : List (List Int))) 0 1 hm.empty rfl (by decide) rfl rfl, _, [], by rw [hC], by rw [hX], by rw [hX]; rfl, by rw [hX]; exact lit_ok _ 0 (by decide)⟩)
  have h2' : ¬ (20 : Int) < (rds.length : Int) := by omega
  obtain ⟨n, rfl⟩ : ∃ n : Nat, st = (n : Int) := ⟨st.toNat, by omega⟩
  have hn1 : 1 ≤ n := by omega
  have hn6 : n ≤ 6 := by omega
  repeat' (first | refine hl_a ?_ | refine hq_a ?_ | refine hl_nil ?_ | refine hq_nil ?_ | refine hq_ga ?_ | refine hq_sk ?_ | refine hq_su ?_ | refine hq_gT ?_ | refine hq_gF ?_ | refine hq_gd (fun h => ?_) (fun h => ?_) | refine hl_ga ?_ | refine hl_sk ?_ | refine hl_su ?_ | refine hl_gT ?_ | refine hl_gF ?_ | refine hl_gd (fun h => ?_) (fun h => ?_) | refine hx_next ?_ | refine hw_seq ?_ | refine hw_region ?_ | refine hw_dr ?_ | refine hw_block ?_ | refine hx_block ?_ | refine hw_tt ?_ | refine hw_ff ?_ | refine hw_iT ?_ | refine hw_iF ?_ | refine hw_skip ?_ | refine hw_ret ?_ | refine hw_exit ?_ | refine hx_then_ret ?_ | refine hx_block_ret ?_ | refine hx_then_exit ?_ | refine hx_block_here ?_ | refine hx_far ?_ | refine hx_any ?_ | (apply ha_end; decide +kernel))
  first | refine hl_q (by decide) (q_call (fun w hm => l00In_c _ _ _ _) rfl) ?_ | refine hq_q (by decide) (q_call (fun w hm => l00In_c _ _ _ _) rfl) ?_ | refine hl_g _ _ rfl rfl (by decide) (q_call (fun w hm => l00In_c _ _ _ _) rfl) ?_ | refine hq_g _ _ rfl rfl (by decide) (q_call (fun w hm => l00In_c _ _ _ _) rfl) ?_
  repeat' (first | refine hl_a ?_ | refine hq_a ?_ | refine hl_nil ?_ | refine hq_nil ?_ | refine hq_ga ?_ | refine hq_sk ?_ | refine hq_su ?_ | refine hq_gT ?_ | refine hq_gF ?_ | refine hq_gd (fun h => ?_) (fun h => ?_) | refine hl_ga ?_ | refine hl_sk ?_ | refine hl_su ?_ | refine hl_gT ?_ | refine hl_gF ?_ | refine hl_gd (fun h => ?_) (fun h => ?_) | refine hx_next ?_ | refine hw_seq ?_ | refine hw_region ?_ | refine hw_dr ?_ | refine hw_block ?_ | refine hx_block ?_ | refine hw_tt ?_ | refine hw_ff ?_ | refine hw_iT ?_ | refine hw_iF ?_ | refine hw_skip ?_ | refine hw_ret ?_ | refine hw_exit ?_ | refine hx_then_ret ?_ | refine hx_block_ret ?_ | refine hx_then_exit ?_ | refine hx_block_here ?_ | refine hx_far ?_ | refine hx_any ?_ | (apply ha_end; decide +kernel))
  refine hl_build0 (by decide) (fun b0 => ?_)
  repeat' (first | refine hl_a ?_ | refine hq_a ?_ | refine hl_nil ?_ | refine hq_nil ?_ | refine hq_ga ?_ | refine hq_sk ?_ | refine hq_su ?_ | refine hq_gT ?_ | refine hq_gF ?_ | refine hq_gd (fun h => ?_) (fun h => ?_) | refine hl_ga ?_ | refine hl_sk ?_ | refine hl_su ?_ | refine hl_gT ?_ | refine hl_gF ?_ | refine hl_gd (fun h => ?_) (fun h => ?_) | refine hx_next ?_ | refine hw_seq ?_ | refine hw_region ?_ | refine hw_dr ?_ | refine hw_block ?_ | refine hx_block ?_ | refine hw_tt ?_ | refine hw_ff ?_ | refine hw_iT ?_ | refine hw_iF ?_ | refine hw_skip ?_ | refine hw_ret ?_ | refine hw_exit ?_ | refine hx_then_ret ?_ | refine hx_block_ret ?_ | refine hx_then_exit ?_ | refine hx_block_here ?_ | refine hx_far ?_ | refine hx_any ?_ | (apply ha_end; decide +kernel))
  refine hw_mem (fun w hm => hm.empty) ?_
  refine hw_loop (fun e r m => ∃ (s : Nat) (u : Value) (vs : List Value), r = [rOwn 82 1 u s vs, rStar (rRow 2 (Value.int .i64) vs (tab s fun s => tab n (wf bigF rds 0 s)))] ∧ vs.length = s ∧ s ≤ n ∧ m = n - s ∧ e = [(0, .int .i64 (n : Int)), (1, v), (6, u), (7, .int .i64 (s : Int))])
    ⟨0, _, [], rfl, rfl, Nat.zero_le _, rfl, rfl⟩ ⟨rfl, rfl, rfl, rfl, trivial⟩ ?_
  rintro _ _ _ ⟨s, u, vs, rfl, hvs, hs, rfl, rfl⟩
  repeat' (first | refine hl_a ?_ | refine hq_a ?_ | refine hl_nil ?_ | refine hq_nil ?_ | refine hq_ga ?_ | refine hq_sk ?_ | refine hq_su ?_ | refine hq_gT ?_ | refine hq_gF ?_ | refine hq_gd (fun h => ?_) (fun h => ?_) | refine hl_ga ?_ | refine hl_sk ?_ | refine hl_su ?_ | refine hl_gT ?_ | refine hl_gF ?_ | refine hl_gd (fun h => ?_) (fun h => ?_) | refine hx_next ?_ | refine hw_seq ?_ | refine hw_region ?_ | refine hw_dr ?_ | refine hw_block ?_ | refine hx_block ?_ | refine hw_tt ?_ | refine hw_ff ?_ | refine hw_iT ?_ | refine hw_iF ?_ | refine hw_skip ?_ | refine hw_ret ?_ | refine hw_exit ?_ | refine hx_then_ret ?_ | refine hx_block_ret ?_ | refine hx_then_exit ?_ | refine hx_block_here ?_ | refine hx_far ?_ | refine hx_any ?_ | (apply ha_end; decide +kernel))
  refine hw_if rfl (fun hlt => ?_) (fun hge => ?_)
  · have hs2 : s < n := by omega
    repeat' (first | refine hl_a ?_ | refine hq_a ?_ | refine hl_nil ?_ | refine hq_nil ?_ | refine hq_ga ?_ | refine hq_sk ?_ | refine hq_su ?_ | refine hq_gT ?_ | refine hq_gF ?_ | refine hq_gd (fun h => ?_) (fun h => ?_) | refine hl_ga ?_ | refine hl_sk ?_ | refine hl_su ?_ | refine hl_gT ?_ | refine hl_gF ?_ | refine hl_gd (fun h => ?_) (fun h => ?_) | refine hx_next ?_ | refine hw_seq ?_ | refine hw_region ?_ | refine hw_dr ?_ | refine hw_block ?_ | refine hx_block ?_ | refine hw_tt ?_ | refine hw_ff ?_ | refine hw_iT ?_ | refine hw_iF ?_ | refine hw_skip ?_ | refine hw_ret ?_ | refine hw_exit ?_ | refine hx_then_ret ?_ | refine hx_block_ret ?_ | refine hx_then_exit ?_ | refine hx_block_here ?_ | refine hx_far ?_ | refine hx_any ?_ | (apply ha_end; decide +kernel))
    refine hl_build0 (by decide) (fun b2 => ?_)
    repeat' (first | refine hl_a ?_ | refine hq_a ?_ | refine hl_nil ?_ | refine hq_nil ?_ | refine hq_ga ?_ | refine hq_sk ?_ | refine hq_su ?_ | refine hq_gT ?_ | refine hq_gF ?_ | refine hq_gd (fun h => ?_) (fun h => ?_) | refine hl_ga ?_ | refine hl_sk ?_ | refine hl_su ?_ | refine hl_gT ?_ | refine hl_gF ?_ | refine hl_gd (fun h => ?_) (fun h => ?_) | refine hx_next ?_ | refine hw_seq ?_ | refine hw_region ?_ | refine hw_dr ?_ | refine hw_block ?_ | refine hx_block ?_ | refine hw_tt ?_ | refine hw_ff ?_ | refine hw_iT ?_ | refine hw_iF ?_ | refine hw_skip ?_ | refine hw_ret ?_ | refine hw_exit ?_ | refine hx_then_ret ?_ | refine hx_block_ret ?_ | refine hx_then_exit ?_ | refine hx_block_here ?_ | refine hx_far ?_ | refine hx_any ?_ | (apply ha_end; decide +kernel))
    refine hw_loop (fun e r m => ∃ (t : Nat) (x : Value), r = [rOwn 82 1 u s vs, rStar (rRow 2 (Value.int .i64) vs (tab s fun s => tab n (wf bigF rds 0 s))), rE 2 (Value.int .i64) x (tab t (fun _ => (bigF : Int)))] ∧ SlOk x t ∧ t ≤ n ∧ m = n - t ∧ e = [(0, .int .i64 (n : Int)), (1, v), (6, u), (7, .int .i64 (s : Int)), (8, x), (9, .int .i64 (t : Int))])
      ⟨0, _, rfl, lit_ok _ 0 (by decide), Nat.zero_le _, rfl, rfl⟩ ⟨rfl, rfl, rfl, rfl, rfl, rfl, trivial⟩ ?_
    rintro _ _ _ ⟨t, x, rfl, hx, ht, rfl, rfl⟩
    repeat' (first | refine hl_a ?_ | refine hq_a ?_ | refine hl_nil ?_ | refine hq_nil ?_ | refine hq_ga ?_ | refine hq_sk ?_ | refine hq_su ?_ | refine hq_gT ?_ | refine hq_gF ?_ | refine hq_gd (fun h => ?_) (fun h => ?_) | refine hl_ga ?_ | refine hl_sk ?_ | refine hl_su ?_ | refine hl_gT ?_ | refine hl_gF ?_ | refine hl_gd (fun h => ?_) (fun h => ?_) | refine hx_next ?_ | refine hw_seq ?_ | refine hw_region ?_ | refine hw_dr ?_ | refine hw_block ?_ | refine hx_block ?_ | refine hw_tt ?_ | refine hw_ff ?_ | refine hw_iT ?_ | refine hw_iF ?_ | refine hw_skip ?_ | refine hw_ret ?_ | refine hw_exit ?_ | refine hx_then_ret ?_ | refine hx_block_ret ?_ | refine hx_then_exit ?_ | refine hx_block_here ?_ | refine hx_far ?_ | refine hx_any ?_ | (apply ha_end; decide +kernel))
    refine hw_if rfl (fun hlt2 => ?_) (fun hge2 => ?_)
    · have ht2 : t < n := by omega
      repeat' (first | refine hl_a ?_ | refine hq_a ?_ | refine hl_nil ?_ | refine hq_nil ?_ | refine hq_ga ?_ | refine hq_sk ?_ | refine hq_su ?_ | refine hq_gT ?_ | refine hq_gF ?_ | refine hq_gd (fun h => ?_) (fun h => ?_) | refine hl_ga ?_ | refine hl_sk ?_ | refine hl_su ?_ | refine hl_gT ?_ | refine hl_gF ?_ | refine hl_gd (fun h => ?_) (fun h => ?_) | refine hx_next ?_ | refine hw_seq ?_ | refine hw_region ?_ | refine hw_dr ?_ | refine hw_block ?_ | refine hx_block ?_ | refine hw_tt ?_ | refine hw_ff ?_ | refine hw_iT ?_ | refine hw_iF ?_ | refine hw_skip ?_ | refine hw_ret ?_ | refine hw_exit ?_ | refine hx_then_ret ?_ | refine hx_block_ret ?_ | refine hx_then_exit ?_ | refine hx_block_here ?_ | refine hx_far ?_ | refine hx_any ?_ | (apply ha_end; decide +kernel))
      refine hl_pushE 2 rfl (by decide) (by decide) bigF rfl rfl rfl (fun b => rfl) (by rw [tab_length]; omega) (by decide) (fun x' bq hx' => ?_)
      repeat' (first | refine hl_a ?_ | refine hq_a ?_ | refine hl_nil ?_ | refine hq_nil ?_ | refine hq_ga ?_ | refine hq_sk ?_ | refine hq_su ?_ | refine hq_gT ?_ | refine hq_gF ?_ | refine hq_gd (fun h => ?_) (fun h => ?_) | refine hl_ga ?_ | refine hl_sk ?_ | refine hl_su ?_ | refine hl_gT ?_ | refine hl_gF ?_ | refine hl_gd (fun h => ?_) (fun h => ?_) | refine hx_next ?_ | refine hw_seq ?_ | refine hw_region ?_ | refine hw_dr ?_ | refine hw_block ?_ | refine hx_block ?_ | refine hw_tt ?_ | refine hw_ff ?_ | refine hw_iT ?_ | refine hw_iF ?_ | refine hw_skip ?_ | refine hw_ret ?_ | refine hw_exit ?_ | refine hx_then_ret ?_ | refine hx_block_ret ?_ | refine hx_then_exit ?_ | refine hx_block_here ?_ | refine hx_far ?_ | refine hx_any ?_ | (apply ha_end; decide +kernel))
      refine hx_round ⟨t + 1, x', by rw [tab_succ]; rfl, by simpa [tab_length] using hx', ht2, rfl, rfl⟩ (by omega) ⟨rfl, rfl, rfl, rfl, rfl, rfl, trivial⟩
    · have e : t = n := by omega
      subst e
      repeat' (first | refine hl_a ?_ | refine hq_a ?_ | refine hl_nil ?_ | refine hq_nil ?_ | refine hq_ga ?_ | refine hq_sk ?_ | refine hq_su ?_ | refine hq_gT ?_ | refine hq_gF ?_ | refine hq_gd (fun h => ?_) (fun h => ?_) | refine hl_ga ?_ | refine hl_sk ?_ | refine hl_su ?_ | refine hl_gT ?_ | refine hl_gF ?_ | refine hl_gd (fun h => ?_) (fun h => ?_) | refine hx_next ?_ | refine hw_seq ?_ | refine hw_region ?_ | refine hw_dr ?_ | refine hw_block ?_ | refine hx_block ?_ | refine hw_tt ?_ | refine hw_ff ?_ | refine hw_iT ?_ | refine hw_iF ?_ | refine hw_skip ?_ | refine hw_ret ?_ | refine hw_exit ?_ | refine hx_then_ret ?_ | refine hx_block_ret ?_ | refine hx_then_exit ?_ | refine hx_block_here ?_ | refine hx_far ?_ | refine hx_any ?_ | (apply ha_end; decide +kernel))
      refine hl_storeE 2 s 0 rfl rfl (by rw [tab_length]; exact hs2) rfl rfl ?_
      rw [row_0 bigF rds t s]
      repeat' (first | refine hl_a ?_ | refine hq_a ?_ | refine hl_nil ?_ | refine hq_nil ?_ | refine hq_ga ?_ | refine hq_sk ?_ | refine hq_su ?_ | refine hq_gT ?_ | refine hq_gF ?_ | refine hq_gd (fun h => ?_) (fun h => ?_) | refine hl_ga ?_ | refine hl_sk ?_ | refine hl_su ?_ | refine hl_gT ?_ | refine hl_gF ?_ | refine hl_gd (fun h => ?_) (fun h => ?_) | refine hx_next ?_ | refine hw_seq ?_ | refine hw_region ?_ | refine hw_dr ?_ | refine hw_block ?_ | refine hx_block ?_ | refine hw_tt ?_ | refine hw_ff ?_ | refine hw_iT ?_ | refine hw_iF ?_ | refine hw_skip ?_ | refine hw_ret ?_ | refine hw_exit ?_ | refine hx_then_ret ?_ | refine hx_block_ret ?_ | refine hx_then_exit ?_ | refine hx_block_here ?_ | refine hx_far ?_ | refine hx_any ?_ | (apply ha_end; decide +kernel))
      refine hl_push 0 rfl (by decide) (by decide) rfl hx.one rfl (fun b => rfl) (by omega) (by decide) (fun u' bq hu' => ?_)
      repeat' (first | refine hl_a ?_ | refine hq_a ?_ | refine hl_nil ?_ | refine hq_nil ?_ | refine hq_ga ?_ | refine hq_sk ?_ | refine hq_su ?_ | refine hq_gT ?_ | refine hq_gF ?_ | refine hq_gd (fun h => ?_) (fun h => ?_) | refine hl_ga ?_ | refine hl_sk ?_ | refine hl_su ?_ | refine hl_gT ?_ | refine hl_gF ?_ | refine hl_gd (fun h => ?_) (fun h => ?_) | refine hx_next ?_ | refine hw_seq ?_ | refine hw_region ?_ | refine hw_dr ?_ | refine hw_block ?_ | refine hx_block ?_ | refine hw_tt ?_ | refine hw_ff ?_ | refine hw_iT ?_ | refine hw_iF ?_ | refine hw_skip ?_ | refine hw_ret ?_ | refine hw_exit ?_ | refine hx_then_ret ?_ | refine hx_block_ret ?_ | refine hx_then_exit ?_ | refine hx_block_here ?_ | refine hx_far ?_ | refine hx_any ?_ | (apply ha_end; decide +kernel))
      refine hx_mem (rs' := [rOwn 82 1 u' (s + 1) (vs ++ [x]), rStar (rRow 2 (Value.int .i64) (vs ++ [x]) (tab (s + 1) fun s => tab t (wf bigF rds 0 s)))]) (fun w hm => ?_) ?_
      · rw [tab_succ, rRow_snoc _ _ _ _ (by rw [tab_length]; exact hvs)]
        exact Mem.pack [_] hm
      · exact hx_round ⟨s + 1, u', vs ++ [x], rfl, by simp [hvs], hs2, rfl, rfl⟩ (by omega) ⟨rfl, rfl, rfl, rfl, trivial⟩
  have e : s = n := by omega
  subst e
  repeat' (first | refine hl_a ?_ | refine hq_a ?_ | refine hl_nil ?_ | refine hq_nil ?_ | refine hq_ga ?_ | refine hq_sk ?_ | refine hq_su ?_ | refine hq_gT ?_ | refine hq_gF ?_ | refine hq_gd (fun h => ?_) (fun h => ?_) | refine hl_ga ?_ | refine hl_sk ?_ | refine hl_su ?_ | refine hl_gT ?_ | refine hl_gF ?_ | refine hl_gd (fun h => ?_) (fun h => ?_) | refine hx_next ?_ | refine hw_seq ?_ | refine hw_region ?_ | refine hw_dr ?_ | refine hw_block ?_ | refine hx_block ?_ | refine hw_tt ?_ | refine hw_ff ?_ | refine hw_iT ?_ | refine hw_iF ?_ | refine hw_skip ?_ | refine hw_ret ?_ | refine hw_exit ?_ | refine hx_then_ret ?_ | refine hx_block_ret ?_ | refine hx_then_exit ?_ | refine hx_block_here ?_ | refine hx_far ?_ | refine hx_any ?_ | (apply ha_end; decide +kernel))
  refine hw_mem (rs' := [rRows 82 2 (Value.int .i64) u vs (mat s (wf bigF rds 0))]) (fun w hm => Mem.rows 0 1 hm hvs.symm (by decide) rfl rfl) ?_
  refine hw_fact (fun w hm => slOk_mat 0 rfl hvs hm) (fun hsl2 => ?_)
  obtain ⟨hu, hrow⟩ := hsl2
  have hlr : ∀ (f : Nat → Nat → Int) (T : List Res) (c : Nat), c < s → Ld w (rRows 82 2 (Value.int .i64) u vs (mat s f) :: T) (vAt u c) (vs.getD c undef) := fun f T c hc => ld_rows 0 rfl (by omega)
  refine hw_loop (fun e r m => ∃ i : Nat, r = [rRows 82 2 (Value.int .i64) u vs (mat s (wf bigF rds i))] ∧ i ≤ rds.length ∧ (∀ j, j < i → RoadOk s (rds.getD j rd0)) ∧ m = rds.length - i ∧ e = [(0, .int .i64 (s : Int)), (1, v), (6, u), (10, .int .i64 (i : Int))])
    ⟨0, rfl, Nat.zero_le _, by omega, rfl, rfl⟩ ⟨rfl, rfl, rfl, rfl, trivial⟩ ?_
  rintro _ _ _ ⟨i, rfl, hi, hall, rfl, rfl⟩
  repeat' (first | refine hl_a ?_ | refine hq_a ?_ | refine hl_nil ?_ | refine hq_nil ?_ | refine hq_ga ?_ | refine hq_sk ?_ | refine hq_su ?_ | refine hq_gT ?_ | refine hq_gF ?_ | refine hq_gd (fun h => ?_) (fun h => ?_) | refine hl_ga ?_ | refine hl_sk ?_ | refine hl_su ?_ | refine hl_gT ?_ | refine hl_gF ?_ | refine hl_gd (fun h => ?_) (fun h => ?_) | refine hx_next ?_ | refine hw_seq ?_ | refine hw_region ?_ | refine hw_dr ?_ | refine hw_block ?_ | refine hx_block ?_ | refine hw_tt ?_ | refine hw_ff ?_ | refine hw_iT ?_ | refine hw_iF ?_ | refine hw_skip ?_ | refine hw_ret ?_ | refine hw_exit ?_ | refine hx_then_ret ?_ | refine hx_block_ret ?_ | refine hx_then_exit ?_ | refine hx_block_here ?_ | refine hx_far ?_ | refine hx_any ?_ | (apply ha_end; decide +kernel))
  refine hw_if rfl (fun hlt => ?_) (fun hge => ?_)
  · have hi2 : i < rds.length := by omega
    have c0 := hr.c0 i hi2
    have c1 := hr.c1 i hi2
    have c2 := hr.c2 i hi2
    have hno : ¬ RoadOk s (rds.getD i rd0) → rlC (s : Int) rds = 2 ∧ rlX (s : Int) rds = [] := fun h => hbad (fun e => h (by have := e.r i hi2; rwa [Int.toNat_natCast] at this))
    have hwf : wf bigF rds (i + 1) = addR (wf bigF rds i) (rds.getD i rd0) := rfl
    generalize hf : wf bigF rds i = f at hwf
    generalize hr9 : rds.getD i rd0 = rr at c0 c1 c2 hno hwf
    obtain ⟨a, b, len⟩ := rr
    repeat' (first | refine hl_a ?_ | refine hq_a ?_ | refine hl_nil ?_ | refine hq_nil ?_ | refine hq_ga ?_ | refine hq_sk ?_ | refine hq_su ?_ | refine hq_gT ?_ | refine hq_gF ?_ | refine hq_gd (fun h => ?_) (fun h => ?_) | refine hl_ga ?_ | refine hl_sk ?_ | refine hl_su ?_ | refine hl_gT ?_ | refine hl_gF ?_ | refine hl_gd (fun h => ?_) (fun h => ?_) | refine hx_next ?_ | refine hw_seq ?_ | refine hw_region ?_ | refine hw_dr ?_ | refine hw_block ?_ | refine hx_block ?_ | refine hw_tt ?_ | refine hw_ff ?_ | refine hw_iT ?_ | refine hw_iF ?_ | refine hw_skip ?_ | refine hw_ret ?_ | refine hw_exit ?_ | refine hx_then_ret ?_ | refine hx_block_ret ?_ | refine hx_then_exit ?_ | refine hx_block_here ?_ | refine hx_far ?_ | refine hx_any ?_ | (apply ha_end; decide +kernel))
    first | refine hl_q (by decide) (q_loadA3 rfl (ld_base c0) (ld_base c1) (ld_base c2)) ?_ | refine hq_q (by decide) (q_loadA3 rfl (ld_base c0) (ld_base c1) (ld_base c2)) ?_ | refine hl_g _ _ rfl rfl (by decide) (q_loadA3 rfl (ld_base c0) (ld_base c1) (ld_base c2)) ?_ | refine hq_g _ _ rfl rfl (by decide) (q_loadA3 rfl (ld_base c0) (ld_base c1) (ld_base c2)) ?_
    refine hl_alloc (by decide) (fun bx => ?_)
    refine hl_storeA 1 rfl rfl rfl rfl rfl (by intro x hx; simp at hx; rcases hx with rfl | rfl | rfl <;> rfl) ?_
    rcases Classical.em (0 ≤ a ∧ a ≤ (s : Int) - 1) with ha | ha
    case inr =>
      obtain ⟨hC, hX⟩ := hno (fun e => ha e.a)
      repeat' (first | refine hl_a ?_ | refine hq_a ?_ | refine hl_nil ?_ | refine hq_nil ?_ | refine hq_ga ?_ | refine hq_sk ?_ | refine hq_su ?_ | refine hq_gT ?_ | refine hq_gF ?_ | refine hq_gd (fun h => ?_) (fun h => ?_) | refine hl_ga ?_ | refine hl_sk ?_ | refine hl_su ?_ | refine hl_gT ?_ | refine hl_gF ?_ | refine hl_gd (fun h => ?_) (fun h => ?_) | refine hx_next ?_ | refine hw_seq ?_ | refine hw_region ?_ | refine hw_dr ?_ | refine hw_block ?_ | refine hx_block ?_ | refine hw_tt ?_ | refine hw_ff ?_ | refine hw_iT ?_ | refine hw_iF ?_ | refine hw_skip ?_ | refine hw_ret ?_ | refine hw_exit ?_ | refine hx_then_ret ?_ | refine hx_block_ret ?_ | refine hx_then_exit ?_ | refine hx_block_here ?_ | refine hx_far ?_ | refine hx_any ?_ | (apply ha_end; decide +kernel))
      first | refine hl_q (by decide) (q_call (fun w hm => l00In_c _ _ _ _) rfl) ?_ | refine hq_q (by decide) (q_call (fun w hm => l00In_c _ _ _ _) rfl) ?_ | refine hl_g _ _ rfl rfl (by decide) (q_call (fun w hm => l00In_c _ _ _ _) rfl) ?_ | refine hq_g _ _ rfl rfl (by decide) (q_call (fun w hm => l00In_c _ _ _ _) rfl) ?_
      repeat' (first | refine hl_a ?_ | refine hq_a ?_ | refine hl_nil ?_ | refine hq_nil ?_ | refine hq_ga ?_ | refine hq_sk ?_ | refine hq_su ?_ | refine hq_gT ?_ | refine hq_gF ?_ | refine hq_gd (fun h => ?_) (fun h => ?_) | refine hl_ga ?_ | refine hl_sk ?_ | refine hl_su ?_ | refine hl_gT ?_ | refine hl_gF ?_ | refine hl_gd (fun h => ?_) (fun h => ?_) | refine hx_next ?_ | refine hw_seq ?_ | refine hw_region ?_ | refine hw_dr ?_ | refine hw_block ?_ | refine hx_block ?_ | refine hw_tt ?_ | refine hw_ff ?_ | refine hw_iT ?_ | refine hw_iF ?_ | refine hw_skip ?_ | refine hw_ret ?_ | refine hw_exit ?_ | refine hx_then_ret ?_ | refine hx_block_ret ?_ | refine hx_then_exit ?_ | refine hx_block_here ?_ | refine hx_far ?_ | refine hx_any ?_ | (apply ha_end; decide +kernel))
      refine hl_build0 (by decide) (fun bz => ?_)
      repeat' (first | refine hl_a ?_ | refine hq_a ?_ | refine hl_nil ?_ | refine hq_nil ?_ | refine hq_ga ?_ | refine hq_sk ?_ | refine hq_su ?_ | refine hq_gT ?_ | refine hq_gF ?_ | refine hq_gd (fun h => ?_) (fun h => ?_) | refine hl_ga ?_ | refine hl_sk ?_ | refine hl_su ?_ | refine hl_gT ?_ | refine hl_gF ?_ | refine hl_gd (fun h => ?_) (fun h => ?_) | refine hx_next ?_ | refine hw_seq ?_ | refine hw_region ?_ | refine hw_dr ?_ | refine hw_block ?_ | refine hx_block ?_ | refine hw_tt ?_ | refine hw_ff ?_ | refine hw_iT ?_ | refine hw_iF ?_ | refine hw_skip ?_ | refine hw_ret ?_ | refine hw_exit ?_ | refine hx_then_ret ?_ | refine hx_block_ret ?_ | refine hx_then_exit ?_ | refine hx_block_here ?_ | refine hx_far ?_ | refine hx_any ?_ | (apply ha_end; decide +kernel))
      exact hx_ret2 rfl rfl rfl (fun w hm => ⟨_, _, rfl, Mem.rows (e1 := 82) (e2 := 2) (enc := Value.int .i64) (xss := ([] : List (List Int))) 2 3 hm.empty rfl (by decide) rfl rfl, _, [], by rw [hC], by rw [hX], by rw [hX]; rfl, by rw [hX]; exact lit_ok _ 0 (by decide)⟩)
    have ha' : ¬ ¬ (0 ≤ a ∧ a ≤ (s : Int) - 1) := fun e => e ha
    rcases Classical.em (0 ≤ b ∧ b ≤ (s : Int) - 1) with hb | hb
    case inr =>
      obtain ⟨hC, hX⟩ := hno (fun e => hb e.b)
      repeat' (first | refine hl_a ?_ | refine hq_a ?_ | refine hl_nil ?_ | refine hq_nil ?_ | refine hq_ga ?_ | refine hq_sk ?_ | refine hq_su ?_ | refine hq_gT ?_ | refine hq_gF ?_ | refine hq_gd (fun h => ?_) (fun h => ?_) | refine hl_ga ?_ | refine hl_sk ?_ | refine hl_su ?_ | refine hl_gT ?_ | refine hl_gF ?_ | refine hl_gd (fun h => ?_) (fun h => ?_) | refine hx_next ?_ | refine hw_seq ?_ | refine hw_region ?_ | refine hw_dr ?_ | refine hw_block ?_ | refine hx_block ?_ | refine hw_tt ?_ | refine hw_ff ?_ | refine hw_iT ?_ | refine hw_iF ?_ | refine hw_skip ?_ | refine hw_ret ?_ | refine hw_exit ?_ | refine hx_then_ret ?_ | refine hx_block_ret ?_ | refine hx_then_exit ?_ | refine hx_block_here ?_ | refine hx_far ?_ | refine hx_any ?_ | (apply ha_end; decide +kernel))
      first | refine hl_q (by decide) (q_call (fun w hm => l00In_c _ _ _ _) rfl) ?_ | refine hq_q (by decide) (q_call (fun w hm => l00In_c _ _ _ _) rfl) ?_ | refine hl_g _ _ rfl rfl (by decide) (q_call (fun w hm => l00In_c _ _ _ _) rfl) ?_ | refine hq_g _ _ rfl rfl (by decide) (q_call (fun w hm => l00In_c _ _ _ _) rfl) ?_
      repeat' (first | refine hl_a ?_ | refine hq_a ?_ | refine hl_nil ?_ | refine hq_nil ?_ | refine hq_ga ?_ | refine hq_sk ?_ | refine hq_su ?_ | refine hq_gT ?_ | refine hq_gF ?_ | refine hq_gd (fun h => ?_) (fun h => ?_) | refine hl_ga ?_ | refine hl_sk ?_ | refine hl_su ?_ | refine hl_gT ?_ | refine hl_gF ?_ | refine hl_gd (fun h => ?_) (fun h => ?_) | refine hx_next ?_ | refine hw_seq ?_ | refine hw_region ?_ | refine hw_dr ?_ | refine hw_block ?_ | refine hx_block ?_ | refine hw_tt ?_ | refine hw_ff ?_ | refine hw_iT ?_ | refine hw_iF ?_ | refine hw_skip ?_ | refine hw_ret ?_ | refine hw_exit ?_ | refine hx_then_ret ?_ | refine hx_block_ret ?_ | refine hx_then_exit ?_ | refine hx_block_here ?_ | refine hx_far ?_ | refine hx_any ?_ | (apply ha_end; decide +kernel))
      first | refine hl_q (by decide) (q_call (fun w hm => l00In_c _ _ _ _) rfl) ?_ | refine hq_q (by decide) (q_call (fun w hm => l00In_c _ _ _ _) rfl) ?_ | refine hl_g _ _ rfl rfl (by decide) (q_call (fun w hm => l00In_c _ _ _ _) rfl) ?_ | refine hq_g _ _ rfl rfl (by decide) (q_call (fun w hm => l00In_c _ _ _ _) rfl) ?_
      repeat' (first | refine hl_a ?_ | refine hq_a ?_ | refine hl_nil ?_ | refine hq_nil ?_ | refine hq_ga ?_ | refine hq_sk ?_ | refine hq_su ?_ | refine hq_gT ?_ | refine hq_gF ?_ | refine hq_gd (fun h => ?_) (fun h => ?_) | refine hl_ga ?_ | refine hl_sk ?_ | refine hl_su ?_ | refine hl_gT ?_ | refine hl_gF ?_ | refine hl_gd (fun h => ?_) (fun h => ?_) | refine hx_next ?_ | refine hw_seq ?_ | refine hw_region ?_ | refine hw_dr ?_ | refine hw_block ?_ | refine hx_block ?_ | refine hw_tt ?_ | refine hw_ff ?_ | refine hw_iT ?_ | refine hw_iF ?_ | refine hw_skip ?_ | refine hw_ret ?_ | refine hw_exit ?_ | refine hx_then_ret ?_ | refine hx_block_ret ?_ | refine hx_then_exit ?_ | refine hx_block_here ?_ | refine hx_far ?_ | refine hx_any ?_ | (apply ha_end; decide +kernel))
      refine hl_build0 (by decide) (fun bz => ?_)
      repeat' (first | refine hl_a ?_ | refine hq_a ?_ | refine hl_nil ?_ | refine hq_nil ?_ | refine hq_ga ?_ | refine hq_sk ?_ | refine hq_su ?_ | refine hq_gT ?_ | refine hq_gF ?_ | refine hq_gd (fun h => ?_) (fun h => ?_) | refine hl_ga ?_ | refine hl_sk ?_ | refine hl_su ?_ | refine hl_gT ?_ | refine hl_gF ?_ | refine hl_gd (fun h => ?_) (fun h => ?_) | refine hx_next ?_ | refine hw_seq ?_ | refine hw_region ?_ | refine hw_dr ?_ | refine hw_block ?_ | refine hx_block ?_ | refine hw_tt ?_ | refine hw_ff ?_ | refine hw_iT ?_ | refine hw_iF ?_ | refine hw_skip ?_ | refine hw_ret ?_ | refine hw_exit ?_ | refine hx_then_ret ?_ | refine hx_block_ret ?_ | refine hx_then_exit ?_ | refine hx_block_here ?_ | refine hx_far ?_ | refine hx_any ?_ | (apply ha_end; decide +kernel))
      exact hx_ret2 rfl rfl rfl (fun w hm => ⟨_, _, rfl, Mem.rows (e1 := 82) (e2 := 2) (enc := Value.int .i64) (xss := ([] : List (List Int))) 2 3 hm.empty rfl (by decide) rfl rfl, _, [], by rw [hC], by rw [hX], by rw [hX]; rfl, by rw [hX]; exact lit_ok _ 0 (by decide)⟩)
    have hb' : ¬ ¬ (0 ≤ b ∧ b ≤ (s : Int) - 1) := fun e => e hb
    rcases Classical.em (a = b) with hab | hab
    · obtain ⟨hC, hX⟩ := hno (fun e => e.ne hab)
      repeat' (first | refine hl_a ?_ | refine hq_a ?_ | refine hl_nil ?_ | refine hq_nil ?_ | refine hq_ga ?_ | refine hq_sk ?_ | refine hq_su ?_ | refine hq_gT ?_ | refine hq_gF ?_ | refine hq_gd (fun h => ?_) (fun h => ?_) | refine hl_ga ?_ | refine hl_sk ?_ | refine hl_su ?_ | refine hl_gT ?_ | refine hl_gF ?_ | refine hl_gd (fun h => ?_) (fun h => ?_) | refine hx_next ?_ | refine hw_seq ?_ | refine hw_region ?_ | refine hw_dr ?_ | refine hw_block ?_ | refine hx_block ?_ | refine hw_tt ?_ | refine hw_ff ?_ | refine hw_iT ?_ | refine hw_iF ?_ | refine hw_skip ?_ | refine hw_ret ?_ | refine hw_exit ?_ | refine hx_then_ret ?_ | refine hx_block_ret ?_ | refine hx_then_exit ?_ | refine hx_block_here ?_ | refine hx_far ?_ | refine hx_any ?_ | (apply ha_end; decide +kernel))
      first | refine hl_q (by decide) (q_call (fun w hm => l00In_c _ _ _ _) rfl) ?_ | refine hq_q (by decide) (q_call (fun w hm => l00In_c _ _ _ _) rfl) ?_ | refine hl_g _ _ rfl rfl (by decide) (q_call (fun w hm => l00In_c _ _ _ _) rfl) ?_ | refine hq_g _ _ rfl rfl (by decide) (q_call (fun w hm => l00In_c _ _ _ _) rfl) ?_
      repeat' (first | refine hl_a ?_ | refine hq_a ?_ | refine hl_nil ?_ | refine hq_nil ?_ | refine hq_ga ?_ | refine hq_sk ?_ | refine hq_su ?_ | refine hq_gT ?_ | refine hq_gF ?_ | refine hq_gd (fun h => ?_) (fun h => ?_) | refine hl_ga ?_ | refine hl_sk ?_ | refine hl_su ?_ | refine hl_gT ?_ | refine hl_gF ?_ | refine hl_gd (fun h => ?_) (fun h => ?_) | refine hx_next ?_ | refine hw_seq ?_ | refine hw_region ?_ | refine hw_dr ?_ | refine hw_block ?_ | refine hx_block ?_ | refine hw_tt ?_ | refine hw_ff ?_ | refine hw_iT ?_ | refine hw_iF ?_ | refine hw_skip ?_ | refine hw_ret ?_ | refine hw_exit ?_ | refine hx_then_ret ?_ | refine hx_block_ret ?_ | refine hx_then_exit ?_ | refine hx_block_here ?_ | refine hx_far ?_ | refine hx_any ?_ | (apply ha_end; decide +kernel))
      first | refine hl_q (by decide) (q_call (fun w hm => l00In_c _ _ _ _) rfl) ?_ | refine hq_q (by decide) (q_call (fun w hm => l00In_c _ _ _ _) rfl) ?_ | refine hl_g _ _ rfl rfl (by decide) (q_call (fun w hm => l00In_c _ _ _ _) rfl) ?_ | refine hq_g _ _ rfl rfl (by decide) (q_call (fun w hm => l00In_c _ _ _ _) rfl) ?_
      repeat' (first | refine hl_a ?_ | refine hq_a ?_ | refine hl_nil ?_ | refine hq_nil ?_ | refine hq_ga ?_ | refine hq_sk ?_ | refine hq_su ?_ | refine hq_gT ?_ | refine hq_gF ?_ | refine hq_gd (fun h => ?_) (fun h => ?_) | refine hl_ga ?_ | refine hl_sk ?_ | refine hl_su ?_ | refine hl_gT ?_ | refine hl_gF ?_ | refine hl_gd (fun h => ?_) (fun h => ?_) | refine hx_next ?_ | refine hw_seq ?_ | refine hw_region ?_ | refine hw_dr ?_ | refine hw_block ?_ | refine hx_block ?_ | refine hw_tt ?_ | refine hw_ff ?_ | refine hw_iT ?_ | refine hw_iF ?_ | refine hw_skip ?_ | refine hw_ret ?_ | refine hw_exit ?_ | refine hx_then_ret ?_ | refine hx_block_ret ?_ | refine hx_then_exit ?_ | refine hx_block_here ?_ | refine hx_far ?_ | refine hx_any ?_ | (apply ha_end; decide +kernel))
      refine hl_build0 (by decide) (fun bz => ?_)
      repeat' (first | refine hl_a ?_ | refine hq_a ?_ | refine hl_nil ?_ | refine hq_nil ?_ | refine hq_ga ?_ | refine hq_sk ?_ | refine hq_su ?_ | refine hq_gT ?_ | refine hq_gF ?_ | refine hq_gd (fun h => ?_) (fun h => ?_) | refine hl_ga ?_ | refine hl_sk ?_ | refine hl_su ?_ | refine hl_gT ?_ | refine hl_gF ?_ | refine hl_gd (fun h => ?_) (fun h => ?_) | refine hx_next ?_ | refine hw_seq ?_ | refine hw_region ?_ | refine hw_dr ?_ | refine hw_block ?_ | refine hx_block ?_ | refine hw_tt ?_ | refine hw_ff ?_ | refine hw_iT ?_ | refine hw_iF ?_ | refine hw_skip ?_ | refine hw_ret ?_ | refine hw_exit ?_ | refine hx_then_ret ?_ | refine hx_block_ret ?_ | refine hx_then_exit ?_ | refine hx_block_here ?_ | refine hx_far ?_ | refine hx_any ?_ | (apply ha_end; decide +kernel))
      exact hx_ret2 rfl rfl rfl (fun w hm => ⟨_, _, rfl, Mem.rows (e1 := 82) (e2 := 2) (enc := Value.int .i64) (xss := ([] : List (List Int))) 2 3 hm.empty rfl (by decide) rfl rfl, _, [], by rw [hC], by rw [hX], by rw [hX]; rfl, by rw [hX]; exact lit_ok _ 0 (by decide)⟩)
    rcases Classical.em (1 ≤ len ∧ len ≤ 100) with hln | hln
    case inr =>
      obtain ⟨hC, hX⟩ := hno (fun e => hln e.l)
      repeat' (first | refine hl_a ?_ | refine hq_a ?_ | refine hl_nil ?_ | refine hq_nil ?_ | refine hq_ga ?_ | refine hq_sk ?_ | refine hq_su ?_ | refine hq_gT ?_ | refine hq_gF ?_ | refine hq_gd (fun h => ?_) (fun h => ?_) | refine hl_ga ?_ | refine hl_sk ?_ | refine hl_su ?_ | refine hl_gT ?_ | refine hl_gF ?_ | refine hl_gd (fun h => ?_) (fun h => ?_) | refine hx_next ?_ | refine hw_seq ?_ | refine hw_region ?_ | refine hw_dr ?_ | refine hw_block ?_ | refine hx_block ?_ | refine hw_tt ?_ | refine hw_ff ?_ | refine hw_iT ?_ | refine hw_iF ?_ | refine hw_skip ?_ | refine hw_ret ?_ | refine hw_exit ?_ | refine hx_then_ret ?_ | refine hx_block_ret ?_ | refine hx_then_exit ?_ | refine hx_block_here ?_ | refine hx_far ?_ | refine hx_any ?_ | (apply ha_end; decide +kernel))
      first | refine hl_q (by decide) (q_call (fun w hm => l00In_c _ _ _ _) rfl) ?_ | refine hq_q (by decide) (q_call (fun w hm => l00In_c _ _ _ _) rfl) ?_ | refine hl_g _ _ rfl rfl (by decide) (q_call (fun w hm => l00In_c _ _ _ _) rfl) ?_ | refine hq_g _ _ rfl rfl (by decide) (q_call (fun w hm => l00In_c _ _ _ _) rfl) ?_
      repeat' (first | refine hl_a ?_ | refine hq_a ?_ | refine hl_nil ?_ | refine hq_nil ?_ | refine hq_ga ?_ | refine hq_sk ?_ | refine hq_su ?_ | refine hq_gT ?_ | refine hq_gF ?_ | refine hq_gd (fun h => ?_) (fun h => ?_) | refine hl_ga ?_ | refine hl_sk ?_ | refine hl_su ?_ | refine hl_gT ?_ | refine hl_gF ?_ | refine hl_gd (fun h => ?_) (fun h => ?_) | refine hx_next ?_ | refine hw_seq ?_ | refine hw_region ?_ | refine hw_dr ?_ | refine hw_block ?_ | refine hx_block ?_ | refine hw_tt ?_ | refine hw_ff ?_ | refine hw_iT ?_ | refine hw_iF ?_ | refine hw_skip ?_ | refine hw_ret ?_ | refine hw_exit ?_ | refine hx_then_ret ?_ | refine hx_block_ret ?_ | refine hx_then_exit ?_ | refine hx_block_here ?_ | refine hx_far ?_ | refine hx_any ?_ | (apply ha_end; decide +kernel))
      first | refine hl_q (by decide) (q_call (fun w hm => l00In_c _ _ _ _) rfl) ?_ | refine hq_q (by decide) (q_call (fun w hm => l00In_c _ _ _ _) rfl) ?_ | refine hl_g _ _ rfl rfl (by decide) (q_call (fun w hm => l00In_c _ _ _ _) rfl) ?_ | refine hq_g _ _ rfl rfl (by decide) (q_call (fun w hm => l00In_c _ _ _ _) rfl) ?_
      repeat' (first | refine hl_a ?_ | refine hq_a ?_ | refine hl_nil ?_ | refine hq_nil ?_ | refine hq_ga ?_ | refine hq_sk ?_ | refine hq_su ?_ | refine hq_gT ?_ | refine hq_gF ?_ | refine hq_gd (fun h => ?_) (fun h => ?_) | refine hl_ga ?_ | refine hl_sk ?_ | refine hl_su ?_ | refine hl_gT ?_ | refine hl_gF ?_ | refine hl_gd (fun h => ?_) (fun h => ?_) | refine hx_next ?_ | refine hw_seq ?_ | refine hw_region ?_ | refine hw_dr ?_ | refine hw_block ?_ | refine hx_block ?_ | refine hw_tt ?_ | refine hw_ff ?_ | refine hw_iT ?_ | refine hw_iF ?_ | refine hw_skip ?_ | refine hw_ret ?_ | refine hw_exit ?_ | refine hx_then_ret ?_ | refine hx_block_ret ?_ | refine hx_then_exit ?_ | refine hx_block_here ?_ | refine hx_far ?_ | refine hx_any ?_ | (apply ha_end; decide +kernel))
      first | refine hl_q (by decide) (q_call (fun w hm => l00In_c _ _ _ _) rfl) ?_ | refine hq_q (by decide) (q_call (fun w hm => l00In_c _ _ _ _) rfl) ?_ | refine hl_g _ _ rfl rfl (by decide) (q_call (fun w hm => l00In_c _ _ _ _) rfl) ?_ | refine hq_g _ _ rfl rfl (by decide) (q_call (fun w hm => l00In_c _ _ _ _) rfl) ?_
      repeat' (first | refine hl_a ?_ | refine hq_a ?_ | refine hl_nil ?_ | refine hq_nil ?_ | refine hq_ga ?_ | refine hq_sk ?_ | refine hq_su ?_ | refine hq_gT ?_ | refine hq_gF ?_ | refine hq_gd (fun h => ?_) (fun h => ?_) | refine hl_ga ?_ | refine hl_sk ?_ | refine hl_su ?_ | refine hl_gT ?_ | refine hl_gF ?_ | refine hl_gd (fun h => ?_) (fun h => ?_) | refine hx_next ?_ | refine hw_seq ?_ | refine hw_region ?_ | refine hw_dr ?_ | refine hw_block ?_ | refine hx_block ?_ | refine hw_tt ?_ | refine hw_ff ?_ | refine hw_iT ?_ | refine hw_iF ?_ | refine hw_skip ?_ | refine hw_ret ?_ | refine hw_exit ?_ | refine hx_then_ret ?_ | refine hx_block_ret ?_ | refine hx_then_exit ?_ | refine hx_block_here ?_ | refine hx_far ?_ | refine hx_any ?_ | (apply ha_end; decide +kernel))
      refine hl_build0 (by decide) (fun bz => ?_)
      repeat' (first | refine hl_a ?_ | refine hq_a ?_ | refine hl_nil ?_ | refine hq_nil ?_ | refine hq_ga ?_ | refine hq_sk ?_ | refine hq_su ?_ | refine hq_gT ?_ | refine hq_gF ?_ | refine hq_gd (fun h => ?_) (fun h => ?_) | refine hl_ga ?_ | refine hl_sk ?_ | refine hl_su ?_ | refine hl_gT ?_ | refine hl_gF ?_ | refine hl_gd (fun h => ?_) (fun h => ?_) | refine hx_next ?_ | refine hw_seq ?_ | refine hw_region ?_ | refine hw_dr ?_ | refine hw_block ?_ | refine hx_block ?_ | refine hw_tt ?_ | refine hw_ff ?_ | refine hw_iT ?_ | refine hw_iF ?_ | refine hw_skip ?_ | refine hw_ret ?_ | refine hw_exit ?_ | refine hx_then_ret ?_ | refine hx_block_ret ?_ | refine hx_then_exit ?_ | refine hx_block_here ?_ | refine hx_far ?_ | refine hx_any ?_ | (apply ha_end; decide +kernel))
      exact hx_ret2 rfl rfl rfl (fun w hm => ⟨_, _, rfl, Mem.rows (e1 := 82) (e2 := 2) (enc := Value.int .i64) (xss := ([] : List (List Int))) 2 3 hm.empty rfl (by decide) rfl rfl, _, [], by rw [hC], by rw [hX], by rw [hX]; rfl, by rw [hX]; exact lit_ok _ 0 (by decide)⟩)
    have hln' : ¬ ¬ (1 ≤ len ∧ len ≤ 100) := fun e => e hln
    have hok : RoadOk s ⟨a, b, len⟩ := ⟨ha, hb, hab, hln⟩
    obtain ⟨A, rfl⟩ : ∃ A : Nat, a = (A : Int) := ⟨a.toNat, by omega⟩
    obtain ⟨B, rfl⟩ : ∃ B : Nat, b = (B : Int) := ⟨b.toNat, by omega⟩
    have hA : A < s := by omega
    have hB : B < s := by omega
    have hrA := hrow A hA
    have hrB := hrow B hB
    have hadd : addR f ⟨(A : Int), (B : Int), len⟩ = upd (upd f A B (min (f A B) len)) B A (min (f A B) len) := by unfold addR; rw [Int.toNat_natCast, Int.toNat_natCast]
    repeat' (first | refine hl_a ?_ | refine hq_a ?_ | refine hl_nil ?_ | refine hq_nil ?_ | refine hq_ga ?_ | refine hq_sk ?_ | refine hq_su ?_ | refine hq_gT ?_ | refine hq_gF ?_ | refine hq_gd (fun h => ?_) (fun h => ?_) | refine hl_ga ?_ | refine hl_sk ?_ | refine hl_su ?_ | refine hl_gT ?_ | refine hl_gF ?_ | refine hl_gd (fun h => ?_) (fun h => ?_) | refine hx_next ?_ | refine hw_seq ?_ | refine hw_region ?_ | refine hw_dr ?_ | refine hw_block ?_ | refine hx_block ?_ | refine hw_tt ?_ | refine hw_ff ?_ | refine hw_iT ?_ | refine hw_iF ?_ | refine hw_skip ?_ | refine hw_ret ?_ | refine hw_exit ?_ | refine hx_then_ret ?_ | refine hx_block_ret ?_ | refine hx_then_exit ?_ | refine hx_block_here ?_ | refine hx_far ?_ | refine hx_any ?_ | (apply ha_end; decide +kernel))
    first | refine hl_q (by decide) (q_call (fun w hm => l00In_c _ _ _ _) rfl) ?_ | refine hq_q (by decide) (q_call (fun w hm => l00In_c _ _ _ _) rfl) ?_ | refine hl_g _ _ rfl rfl (by decide) (q_call (fun w hm => l00In_c _ _ _ _) rfl) ?_ | refine hq_g _ _ rfl rfl (by decide) (q_call (fun w hm => l00In_c _ _ _ _) rfl) ?_
    repeat' (first | refine hl_a ?_ | refine hq_a ?_ | refine hl_nil ?_ | refine hq_nil ?_ | refine hq_ga ?_ | refine hq_sk ?_ | refine hq_su ?_ | refine hq_gT ?_ | refine hq_gF ?_ | refine hq_gd (fun h => ?_) (fun h => ?_) | refine hl_ga ?_ | refine hl_sk ?_ | refine hl_su ?_ | refine hl_gT ?_ | refine hl_gF ?_ | refine hl_gd (fun h => ?_) (fun h => ?_) | refine hx_next ?_ | refine hw_seq ?_ | refine hw_region ?_ | refine hw_dr ?_ | refine hw_block ?_ | refine hx_block ?_ | refine hw_tt ?_ | refine hw_ff ?_ | refine hw_iT ?_ | refine hw_iF ?_ | refine hw_skip ?_ | refine hw_ret ?_ | refine hw_exit ?_ | refine hx_then_ret ?_ | refine hx_block_ret ?_ | refine hx_then_exit ?_ | refine hx_block_here ?_ | refine hx_far ?_ | refine hx_any ?_ | (apply ha_end; decide +kernel))
    first | refine hl_q (by decide) (q_call (fun w hm => l00In_c _ _ _ _) rfl) ?_ | refine hq_q (by decide) (q_call (fun w hm => l00In_c _ _ _ _) rfl) ?_ | refine hl_g _ _ rfl rfl (by decide) (q_call (fun w hm => l00In_c _ _ _ _) rfl) ?_ | refine hq_g _ _ rfl rfl (by decide) (q_call (fun w hm => l00In_c _ _ _ _) rfl) ?_
    repeat' (first | refine hl_a ?_ | refine hq_a ?_ | refine hl_nil ?_ | refine hq_nil ?_ | refine hq_ga ?_ | refine hq_sk ?_ | refine hq_su ?_ | refine hq_gT ?_ | refine hq_gF ?_ | refine hq_gd (fun h => ?_) (fun h => ?_) | refine hl_ga ?_ | refine hl_sk ?_ | refine hl_su ?_ | refine hl_gT ?_ | refine hl_gF ?_ | refine hl_gd (fun h => ?_) (fun h => ?_) | refine hx_next ?_ | refine hw_seq ?_ | refine hw_region ?_ | refine hw_dr ?_ | refine hw_block ?_ | refine hx_block ?_ | refine hw_tt ?_ | refine hw_ff ?_ | refine hw_iT ?_ | refine hw_iF ?_ | refine hw_skip ?_ | refine hw_ret ?_ | refine hw_exit ?_ | refine hx_then_ret ?_ | refine hx_block_ret ?_ | refine hx_then_exit ?_ | refine hx_block_here ?_ | refine hx_far ?_ | refine hx_any ?_ | (apply ha_end; decide +kernel))
    first | refine hl_q (by decide) (q_call (fun w hm => l00In_c _ _ _ _) rfl) ?_ | refine hq_q (by decide) (q_call (fun w hm => l00In_c _ _ _ _) rfl) ?_ | refine hl_g _ _ rfl rfl (by decide) (q_call (fun w hm => l00In_c _ _ _ _) rfl) ?_ | refine hq_g _ _ rfl rfl (by decide) (q_call (fun w hm => l00In_c _ _ _ _) rfl) ?_
    repeat' (first | refine hl_a ?_ | refine hq_a ?_ | refine hl_nil ?_ | refine hq_nil ?_ | refine hq_ga ?_ | refine hq_sk ?_ | refine hq_su ?_ | refine hq_gT ?_ | refine hq_gF ?_ | refine hq_gd (fun h => ?_) (fun h => ?_) | refine hl_ga ?_ | refine hl_sk ?_ | refine hl_su ?_ | refine hl_gT ?_ | refine hl_gF ?_ | refine hl_gd (fun h => ?_) (fun h => ?_) | refine hx_next ?_ | refine hw_seq ?_ | refine hw_region ?_ | refine hw_block ?_ | refine hx_block ?_ | refine hw_tt ?_ | refine hw_ff ?_ | refine hw_iT ?_ | refine hw_iF ?_ | refine hw_skip ?_ | refine hw_ret ?_ | refine hw_exit ?_ | refine hx_then_ret ?_ | refine hx_block_ret ?_ | refine hx_then_exit ?_ | refine hx_block_here ?_ | refine hx_far ?_ | refine hx_any ?_ | (apply ha_end; decide +kernel))
    have hq1 := hlr f [rBlk bx #[.int .i64 (A : Int), .int .i64 (B : Int), .int .i64 len] 94] A hA
    have hq2 : Ld w [rRows 82 2 (Value.int .i64) u vs (mat s f), rBlk bx #[.int .i64 (A : Int), .int .i64 (B : Int), .int .i64 len] 94] (vAt (vs.getD A undef) B) (.int .i64 (f A B)) := ld_mat 0 rfl hvs hA hB rfl
    refine hw_g [rRows 82 2 (Value.int .i64) u vs (mat s f), rBlk bx #[.int .i64 (A : Int), .int .i64 (B : Int), .int .i64 len] 94] 20 (by kernel_rfl) ?_
    first | refine hg_t 0 ?_ | refine hg_tn 0 ?_
    first | refine hg_t 1 ?_ | refine hg_tn 1 ?_
    first | refine hg_t 2 ?_ | refine hg_tn 2 ?_
    first | refine hg_t 3 ?_ | refine hg_tn 3 ?_
    first | refine hg_t 4 ?_ | refine hg_tn 4 ?_
    first | refine hg_t 5 ?_ | refine hg_tn 5 ?_
    first | refine hg_t 6 ?_ | refine hg_tn 6 ?_
    first | refine hg_t 7 ?_ | refine hg_tn 7 ?_
    first | refine hg_t 8 ?_ | refine hg_tn 8 ?_
    first | refine hg_t 9 ?_ | refine hg_tn 9 ?_
    first | refine hg_t 10 ?_ | refine hg_tn 10 ?_
    first | refine hg_t 11 ?_ | refine hg_tn 11 ?_
    first | refine hg_t 12 ?_ | refine hg_tn 12 ?_
    first | refine hg_t 13 ?_ | refine hg_tn 13 ?_
    first | refine hg_t 14 ?_ | refine hg_tn 14 ?_
    first | refine hg_t 15 ?_ | refine hg_tn 15 ?_
    first | refine hg_t 16 ?_ | refine hg_tn 16 ?_
    first | refine hg_t 17 ?_ | refine hg_tn 17 ?_
    refine hg_1 18 (by decide +kernel) rfl ?_
    first | refine hl_q (by decide) (q_call (fun w hm => lMin_c _ _ w) rfl) ?_ | refine hq_q (by decide) (q_call (fun w hm => lMin_c _ _ w) rfl) ?_ | refine hl_g _ _ rfl rfl (by decide) (q_call (fun w hm => lMin_c _ _ w) rfl) ?_ | refine hq_g _ _ rfl rfl (by decide) (q_call (fun w hm => lMin_c _ _ w) rfl) ?_
    refine hl_nil ?_
    refine hx_hg (by first | exact fun w hm => hm.none | exact fun w hm => Mem.keep _ hm) ?_
    refine hg_1 19 (by decide +kernel) rfl ?_
    refine hl_a ?_
    refine hl_nil ?_
    refine hx_hg (by first | exact fun w hm => hm.none | exact fun w hm => Mem.keep _ hm) ?_
    refine hg_1 20 (by decide +kernel) rfl ?_
    refine hl_storeMat 0 A B (min (f A B) len) rfl hvs hA hB rfl rfl ?_
    refine hl_nil ?_
    refine hx_hgT rfl ?_
    refine hg_end (by decide +kernel) ?_
    repeat' (first | refine hl_a ?_ | refine hq_a ?_ | refine hl_nil ?_ | refine hq_nil ?_ | refine hq_ga ?_ | refine hq_sk ?_ | refine hq_su ?_ | refine hq_gT ?_ | refine hq_gF ?_ | refine hq_gd (fun h => ?_) (fun h => ?_) | refine hl_ga ?_ | refine hl_sk ?_ | refine hl_su ?_ | refine hl_gT ?_ | refine hl_gF ?_ | refine hl_gd (fun h => ?_) (fun h => ?_) | refine hx_next ?_ | refine hw_seq ?_ | refine hw_region ?_ | refine hw_block ?_ | refine hx_block ?_ | refine hw_tt ?_ | refine hw_ff ?_ | refine hw_iT ?_ | refine hw_iF ?_ | refine hw_skip ?_ | refine hw_ret ?_ | refine hw_exit ?_ | refine hx_then_ret ?_ | refine hx_block_ret ?_ | refine hx_then_exit ?_ | refine hx_block_here ?_ | refine hx_far ?_ | refine hx_any ?_ | (apply ha_end; decide +kernel))
    have hq3 := hlr (upd f A B (min (f A B) len)) [rBlk bx #[.int .i64 (A : Int), .int .i64 (B : Int), .int .i64 len] 94] A hA
    have hq4 := hlr (upd f A B (min (f A B) len)) [rBlk bx #[.int .i64 (A : Int), .int .i64 (B : Int), .int .i64 len] 94] B hB
    have hq5 : Ld w [rRows 82 2 (Value.int .i64) u vs (mat s (upd f A B (min (f A B) len))), rBlk bx #[.int .i64 (A : Int), .int .i64 (B : Int), .int .i64 len] 94] (vAt (vs.getD A undef) B) (.int .i64 (min (f A B) len)) := ld_mat 0 rfl hvs hA hB (by unfold upd; rw [if_pos ⟨rfl, rfl⟩])
    refine hw_g [rRows 82 2 (Value.int .i64) u vs (mat s (upd f A B (min (f A B) len))), rBlk bx #[.int .i64 (A : Int), .int .i64 (B : Int), .int .i64 len] 94] 17 (by kernel_rfl) ?_
    first | refine hg_t 0 ?_ | refine hg_tn 0 ?_
    first | refine hg_t 1 ?_ | refine hg_tn 1 ?_
    first | refine hg_t 2 ?_ | refine hg_tn 2 ?_
    first | refine hg_t 3 ?_ | refine hg_tn 3 ?_
    first | refine hg_t 4 ?_ | refine hg_tn 4 ?_
    first | refine hg_t 5 ?_ | refine hg_tn 5 ?_
    first | refine hg_t 6 ?_ | refine hg_tn 6 ?_
    first | refine hg_t 7 ?_ | refine hg_tn 7 ?_
    first | refine hg_t 8 ?_ | refine hg_tn 8 ?_
    first | refine hg_t 9 ?_ | refine hg_tn 9 ?_
    first | refine hg_t 10 ?_ | refine hg_tn 10 ?_
    first | refine hg_t 11 ?_ | refine hg_tn 11 ?_
    first | refine hg_t 12 ?_ | refine hg_tn 12 ?_
    first | refine hg_t 13 ?_ | refine hg_tn 13 ?_
    first | refine hg_t 14 ?_ | refine hg_tn 14 ?_
    first | refine hg_t 15 ?_ | refine hg_tn 15 ?_
    refine hg_1 16 (by decide +kernel) rfl ?_
    refine hl_a ?_
    refine hl_nil ?_
    refine hx_hg (by first | exact fun w hm => hm.none | exact fun w hm => Mem.keep _ hm) ?_
    refine hg_1 17 (by decide +kernel) rfl ?_
    refine hl_storeMat 0 B A (min (f A B) len) rfl hvs hB hA rfl rfl ?_
    refine hl_nil ?_
    refine hx_hgT rfl ?_
    refine hg_end (by decide +kernel) ?_
    repeat' (first | refine hl_a ?_ | refine hq_a ?_ | refine hl_nil ?_ | refine hq_nil ?_ | refine hq_ga ?_ | refine hq_sk ?_ | refine hq_su ?_ | refine hq_gT ?_ | refine hq_gF ?_ | refine hq_gd (fun h => ?_) (fun h => ?_) | refine hl_ga ?_ | refine hl_sk ?_ | refine hl_su ?_ | refine hl_gT ?_ | refine hl_gF ?_ | refine hl_gd (fun h => ?_) (fun h => ?_) | refine hx_next ?_ | refine hw_seq ?_ | refine hw_region ?_ | refine hw_block ?_ | refine hx_block ?_ | refine hw_tt ?_ | refine hw_ff ?_ | refine hw_iT ?_ | refine hw_iF ?_ | refine hw_skip ?_ | refine hw_ret ?_ | refine hw_exit ?_ | refine hx_then_ret ?_ | refine hx_block_ret ?_ | refine hx_then_exit ?_ | refine hx_block_here ?_ | refine hx_far ?_ | refine hx_any ?_ | (apply ha_end; decide +kernel))
    refine hx_mem (rs' := [rRows 82 2 (Value.int .i64) u vs (mat s (wf bigF rds (i + 1)))]) (fun w hm => by rw [hwf, hadd]; exact hm.pick [0] (by decide) rfl) ?_
    refine hx_round ⟨i + 1, rfl, hi2, fun j hj => ?_, rfl, rfl⟩ (by omega) ⟨rfl, rfl, rfl, rfl, trivial⟩
    by_cases e : j = i
    · rw [e, hr9]; exact hok
    · exact hall j (by omega)
  have e : i = rds.length := by omega
  subst e
  have hRl : RlOk (s : Int) rds := ⟨h1, h2, fun i hi => by rw [Int.toNat_natCast]; exact hall i hi⟩
  have htb : Tbl s bigF (wf bigF rds rds.length) := wf_tbl (by decide) hall _ (Nat.le_refl _)
  have hnn := htb.nonneg (by decide)
  have hdg := htb.diag
  have hbd := htb.bd (by decide)
  have hfarb : (bigF : Int) ≤ 1073741824 := by decide
  have hend : fw (wf bigF rds rds.length) s = rlF (s : Int) rds := by unfold rlF; rw [Int.toNat_natCast]
  generalize hW : wf bigF rds rds.length = W at *
  repeat' (first | refine hl_a ?_ | refine hq_a ?_ | refine hl_nil ?_ | refine hq_nil ?_ | refine hq_ga ?_ | refine hq_sk ?_ | refine hq_su ?_ | refine hq_gT ?_ | refine hq_gF ?_ | refine hq_gd (fun h => ?_) (fun h => ?_) | refine hl_ga ?_ | refine hl_sk ?_ | refine hl_su ?_ | refine hl_gT ?_ | refine hl_gF ?_ | refine hl_gd (fun h => ?_) (fun h => ?_) | refine hx_next ?_ | refine hw_seq ?_ | refine hw_region ?_ | refine hw_dr ?_ | refine hw_block ?_ | refine hx_block ?_ | refine hw_tt ?_ | refine hw_ff ?_ | refine hw_iT ?_ | refine hw_iF ?_ | refine hw_skip ?_ | refine hw_ret ?_ | refine hw_exit ?_ | refine hx_then_ret ?_ | refine hx_block_ret ?_ | refine hx_then_exit ?_ | refine hx_block_here ?_ | refine hx_far ?_ | refine hx_any ?_ | (apply ha_end; decide +kernel))
  refine hw_loop (fun e r m => ∃ k : Nat, r = [rRows 82 2 (Value.int .i64) u vs (mat s (fw W k))] ∧ k ≤ s ∧ m = s - k ∧ e = [(0, .int .i64 (s : Int)), (6, u), (12, .int .i64 (k : Int))])
    ⟨0, rfl, Nat.zero_le _, rfl, rfl⟩ ⟨rfl, rfl, rfl, trivial⟩ ?_
  rintro _ _ _ ⟨k, rfl, hk, rfl, rfl⟩
  repeat' (first | refine hl_a ?_ | refine hq_a ?_ | refine hl_nil ?_ | refine hq_nil ?_ | refine hq_ga ?_ | refine hq_sk ?_ | refine hq_su ?_ | refine hq_gT ?_ | refine hq_gF ?_ | refine hq_gd (fun h => ?_) (fun h => ?_) | refine hl_ga ?_ | refine hl_sk ?_ | refine hl_su ?_ | refine hl_gT ?_ | refine hl_gF ?_ | refine hl_gd (fun h => ?_) (fun h => ?_) | refine hx_next ?_ | refine hw_seq ?_ | refine hw_region ?_ | refine hw_dr ?_ | refine hw_block ?_ | refine hx_block ?_ | refine hw_tt ?_ | refine hw_ff ?_ | refine hw_iT ?_ | refine hw_iF ?_ | refine hw_skip ?_ | refine hw_ret ?_ | refine hw_exit ?_ | refine hx_then_ret ?_ | refine hx_block_ret ?_ | refine hx_then_exit ?_ | refine hx_block_here ?_ | refine hx_far ?_ | refine hx_any ?_ | (apply ha_end; decide +kernel))
  refine hw_if rfl (fun hltk => ?_) (fun hgek => ?_)
  · have hk2 : k < s := by omega
    repeat' (first | refine hl_a ?_ | refine hq_a ?_ | refine hl_nil ?_ | refine hq_nil ?_ | refine hq_ga ?_ | refine hq_sk ?_ | refine hq_su ?_ | refine hq_gT ?_ | refine hq_gF ?_ | refine hq_gd (fun h => ?_) (fun h => ?_) | refine hl_ga ?_ | refine hl_sk ?_ | refine hl_su ?_ | refine hl_gT ?_ | refine hl_gF ?_ | refine hl_gd (fun h => ?_) (fun h => ?_) | refine hx_next ?_ | refine hw_seq ?_ | refine hw_region ?_ | refine hw_dr ?_ | refine hw_block ?_ | refine hx_block ?_ | refine hw_tt ?_ | refine hw_ff ?_ | refine hw_iT ?_ | refine hw_iF ?_ | refine hw_skip ?_ | refine hw_ret ?_ | refine hw_exit ?_ | refine hx_then_ret ?_ | refine hx_block_ret ?_ | refine hx_then_exit ?_ | refine hx_block_here ?_ | refine hx_far ?_ | refine hx_any ?_ | (apply ha_end; decide +kernel))
    rw [← mix_0 W k]
    refine hw_loop (fun e r m => ∃ p : Nat, r = [rRows 82 2 (Value.int .i64) u vs (mat s (mix W k p 0))] ∧ p ≤ s ∧ m = s - p ∧ e = [(0, .int .i64 (s : Int)), (6, u), (12, .int .i64 (k : Int)), (13, .int .i64 (p : Int))])
      ⟨0, rfl, Nat.zero_le _, rfl, rfl⟩ ⟨rfl, rfl, rfl, rfl, trivial⟩ ?_
    rintro _ _ _ ⟨p, rfl, hp, rfl, rfl⟩
    repeat' (first | refine hl_a ?_ | refine hq_a ?_ | refine hl_nil ?_ | refine hq_nil ?_ | refine hq_ga ?_ | refine hq_sk ?_ | refine hq_su ?_ | refine hq_gT ?_ | refine hq_gF ?_ | refine hq_gd (fun h => ?_) (fun h => ?_) | refine hl_ga ?_ | refine hl_sk ?_ | refine hl_su ?_ | refine hl_gT ?_ | refine hl_gF ?_ | refine hl_gd (fun h => ?_) (fun h => ?_) | refine hx_next ?_ | refine hw_seq ?_ | refine hw_region ?_ | refine hw_dr ?_ | refine hw_block ?_ | refine hx_block ?_ | refine hw_tt ?_ | refine hw_ff ?_ | refine hw_iT ?_ | refine hw_iF ?_ | refine hw_skip ?_ | refine hw_ret ?_ | refine hw_exit ?_ | refine hx_then_ret ?_ | refine hx_block_ret ?_ | refine hx_then_exit ?_ | refine hx_block_here ?_ | refine hx_far ?_ | refine hx_any ?_ | (apply ha_end; decide +kernel))
    refine hw_if rfl (fun hltp => ?_) (fun hgep => ?_)
    · have hp2 : p < s := by omega
      repeat' (first | refine hl_a ?_ | refine hq_a ?_ | refine hl_nil ?_ | refine hq_nil ?_ | refine hq_ga ?_ | refine hq_sk ?_ | refine hq_su ?_ | refine hq_gT ?_ | refine hq_gF ?_ | refine hq_gd (fun h => ?_) (fun h => ?_) | refine hl_ga ?_ | refine hl_sk ?_ | refine hl_su ?_ | refine hl_gT ?_ | refine hl_gF ?_ | refine hl_gd (fun h => ?_) (fun h => ?_) | refine hx_next ?_ | refine hw_seq ?_ | refine hw_region ?_ | refine hw_dr ?_ | refine hw_block ?_ | refine hx_block ?_ | refine hw_tt ?_ | refine hw_ff ?_ | refine hw_iT ?_ | refine hw_iF ?_ | refine hw_skip ?_ | refine hw_ret ?_ | refine hw_exit ?_ | refine hx_then_ret ?_ | refine hx_block_ret ?_ | refine hx_then_exit ?_ | refine hx_block_here ?_ | refine hx_far ?_ | refine hx_any ?_ | (apply ha_end; decide +kernel))
      refine hw_loop (fun e r m => ∃ t : Nat, r = [rRows 82 2 (Value.int .i64) u vs (mat s (mix W k p t))] ∧ t ≤ s ∧ m = s - t ∧ e = [(0, .int .i64 (s : Int)), (6, u), (12, .int .i64 (k : Int)), (13, .int .i64 (p : Int)), (14, .int .i64 (t : Int))])
        ⟨0, rfl, Nat.zero_le _, rfl, rfl⟩ ⟨rfl, rfl, rfl, rfl, rfl, trivial⟩ ?_
      rintro _ _ _ ⟨t, rfl, ht, rfl, rfl⟩
      repeat' (first | refine hl_a ?_ | refine hq_a ?_ | refine hl_nil ?_ | refine hq_nil ?_ | refine hq_ga ?_ | refine hq_sk ?_ | refine hq_su ?_ | refine hq_gT ?_ | refine hq_gF ?_ | refine hq_gd (fun h => ?_) (fun h => ?_) | refine hl_ga ?_ | refine hl_sk ?_ | refine hl_su ?_ | refine hl_gT ?_ | refine hl_gF ?_ | refine hl_gd (fun h => ?_) (fun h => ?_) | refine hx_next ?_ | refine hw_seq ?_ | refine hw_region ?_ | refine hw_block ?_ | refine hx_block ?_ | refine hw_tt ?_ | refine hw_ff ?_ | refine hw_iT ?_ | refine hw_iF ?_ | refine hw_skip ?_ | refine hw_ret ?_ | refine hw_exit ?_ | refine hx_then_ret ?_ | refine hx_block_ret ?_ | refine hx_then_exit ?_ | refine hx_block_here ?_ | refine hx_far ?_ | refine hx_any ?_ | (apply ha_end; decide +kernel))
      refine hw_if rfl (fun hltt => ?_) (fun hget => ?_)
      · have ht2 : t < s := by omega
        have hrp := hrow p hp2
        have hrk := hrow k hk2
        have b1 := hbd k p k
        have b2 := hbd k k t
        have q1 := hlr (mix W k p t) [] p hp2
        have q2 := hlr (mix W k p t) [] k hk2
        have q3 : Ld w [rRows 82 2 (Value.int .i64) u vs (mat s (mix W k p t))] (vAt (vs.getD p undef) t) (.int .i64 (fw W k p t)) := ld_mat 0 rfl hvs hp2 ht2 (mix_st W k p t)
        have q4 : Ld w [rRows 82 2 (Value.int .i64) u vs (mat s (mix W k p t))] (vAt (vs.getD p undef) k) (.int .i64 (fw W k p k)) := ld_mat 0 rfl hvs hp2 hk2 (mix_sk hnn hdg k p t)
        have q5 : Ld w [rRows 82 2 (Value.int .i64) u vs (mat s (mix W k p t))] (vAt (vs.getD k undef) t) (.int .i64 (fw W k k t)) := ld_mat 0 rfl hvs hk2 ht2 (mix_kt hnn hdg k p t)
        have hfw : min (fw W k p t) (fw W k p k + fw W k k t) = fw W (k + 1) p t := rfl
        repeat' (first | refine hl_a ?_ | refine hq_a ?_ | refine hl_nil ?_ | refine hq_nil ?_ | refine hq_ga ?_ | refine hq_sk ?_ | refine hq_su ?_ | refine hq_gT ?_ | refine hq_gF ?_ | refine hq_gd (fun h => ?_) (fun h => ?_) | refine hl_ga ?_ | refine hl_sk ?_ | refine hl_su ?_ | refine hl_gT ?_ | refine hl_gF ?_ | refine hl_gd (fun h => ?_) (fun h => ?_) | refine hx_next ?_ | refine hw_seq ?_ | refine hw_region ?_ | refine hw_block ?_ | refine hx_block ?_ | refine hw_tt ?_ | refine hw_ff ?_ | refine hw_iT ?_ | refine hw_iF ?_ | refine hw_skip ?_ | refine hw_ret ?_ | refine hw_exit ?_ | refine hx_then_ret ?_ | refine hx_block_ret ?_ | refine hx_then_exit ?_ | refine hx_block_here ?_ | refine hx_far ?_ | refine hx_any ?_ | (apply ha_end; decide +kernel))
        refine hw_g [rRows 82 2 (Value.int .i64) u vs (mat s (mix W k p t))] 29 (by kernel_rfl) ?_
        first | refine hg_t 0 ?_ | refine hg_tn 0 ?_
        first | refine hg_t 1 ?_ | refine hg_tn 1 ?_
        first | refine hg_t 2 ?_ | refine hg_tn 2 ?_
        first | refine hg_t 3 ?_ | refine hg_tn 3 ?_
        first | refine hg_t 4 ?_ | refine hg_tn 4 ?_
        first | refine hg_t 5 ?_ | refine hg_tn 5 ?_
        first | refine hg_t 6 ?_ | refine hg_tn 6 ?_
        first | refine hg_t 7 ?_ | refine hg_tn 7 ?_
        first | refine hg_t 8 ?_ | refine hg_tn 8 ?_
        first | refine hg_t 9 ?_ | refine hg_tn 9 ?_
        first | refine hg_t 10 ?_ | refine hg_tn 10 ?_
        first | refine hg_t 11 ?_ | refine hg_tn 11 ?_
        first | refine hg_t 12 ?_ | refine hg_tn 12 ?_
        first | refine hg_t 13 ?_ | refine hg_tn 13 ?_
        first | refine hg_t 14 ?_ | refine hg_tn 14 ?_
        first | refine hg_t 15 ?_ | refine hg_tn 15 ?_
        first | refine hg_t 16 ?_ | refine hg_tn 16 ?_
        first | refine hg_t 17 ?_ | refine hg_tn 17 ?_
        first | refine hg_t 18 ?_ | refine hg_tn 18 ?_
        first | refine hg_t 19 ?_ | refine hg_tn 19 ?_
        first | refine hg_t 20 ?_ | refine hg_tn 20 ?_
        first | refine hg_t 21 ?_ | refine hg_tn 21 ?_
        first | refine hg_t 22 ?_ | refine hg_tn 22 ?_
        first | refine hg_t 23 ?_ | refine hg_tn 23 ?_
        first | refine hg_t 24 ?_ | refine hg_tn 24 ?_
        first | refine hg_t 25 ?_ | refine hg_tn 25 ?_
        first | refine hg_t 26 ?_ | refine hg_tn 26 ?_
        refine hg_1 27 (by decide +kernel) rfl ?_
        first | refine hl_q (by decide) (q_call (fun w hm => lMin_c _ _ w) rfl) ?_ | refine hq_q (by decide) (q_call (fun w hm => lMin_c _ _ w) rfl) ?_ | refine hl_g _ _ rfl rfl (by decide) (q_call (fun w hm => lMin_c _ _ w) rfl) ?_ | refine hq_g _ _ rfl rfl (by decide) (q_call (fun w hm => lMin_c _ _ w) rfl) ?_
        rw [hfw]
        refine hl_nil ?_
        refine hx_hg (by first | exact fun w hm => hm.none | exact fun w hm => Mem.keep _ hm) ?_
        refine hg_1 28 (by decide +kernel) rfl ?_
        refine hl_a ?_
        refine hl_nil ?_
        refine hx_hg (by first | exact fun w hm => hm.none | exact fun w hm => Mem.keep _ hm) ?_
        refine hg_1 29 (by decide +kernel) rfl ?_
        refine hl_storeMat 0 p t (fw W (k + 1) p t) rfl hvs hp2 ht2 rfl rfl ?_
        refine hl_nil ?_
        refine hx_hgT rfl ?_
        refine hg_end (by decide +kernel) ?_
        rw [mix_upd]
        repeat' (first | refine hl_a ?_ | refine hq_a ?_ | refine hl_nil ?_ | refine hq_nil ?_ | refine hq_ga ?_ | refine hq_sk ?_ | refine hq_su ?_ | refine hq_gT ?_ | refine hq_gF ?_ | refine hq_gd (fun h => ?_) (fun h => ?_) | refine hl_ga ?_ | refine hl_sk ?_ | refine hl_su ?_ | refine hl_gT ?_ | refine hl_gF ?_ | refine hl_gd (fun h => ?_) (fun h => ?_) | refine hx_next ?_ | refine hw_seq ?_ | refine hw_region ?_ | refine hw_dr ?_ | refine hw_block ?_ | refine hx_block ?_ | refine hw_tt ?_ | refine hw_ff ?_ | refine hw_iT ?_ | refine hw_iF ?_ | refine hw_skip ?_ | refine hw_ret ?_ | refine hw_exit ?_ | refine hx_then_ret ?_ | refine hx_block_ret ?_ | refine hx_then_exit ?_ | refine hx_block_here ?_ | refine hx_far ?_ | refine hx_any ?_ | (apply ha_end; decide +kernel))
        refine hx_round ⟨t + 1, rfl, ht2, rfl, rfl⟩ (by omega) ⟨rfl, rfl, rfl, rfl, rfl, trivial⟩
      · have e : t = s := by omega
        subst e
        rw [mix_row]
        repeat' (first | refine hl_a ?_ | refine hq_a ?_ | refine hl_nil ?_ | refine hq_nil ?_ | refine hq_ga ?_ | refine hq_sk ?_ | refine hq_su ?_ | refine hq_gT ?_ | refine hq_gF ?_ | refine hq_gd (fun h => ?_) (fun h => ?_) | refine hl_ga ?_ | refine hl_sk ?_ | refine hl_su ?_ | refine hl_gT ?_ | refine hl_gF ?_ | refine hl_gd (fun h => ?_) (fun h => ?_) | refine hx_next ?_ | refine hw_seq ?_ | refine hw_region ?_ | refine hw_dr ?_ | refine hw_block ?_ | refine hx_block ?_ | refine hw_tt ?_ | refine hw_ff ?_ | refine hw_iT ?_ | refine hw_iF ?_ | refine hw_skip ?_ | refine hw_ret ?_ | refine hw_exit ?_ | refine hx_then_ret ?_ | refine hx_block_ret ?_ | refine hx_then_exit ?_ | refine hx_block_here ?_ | refine hx_far ?_ | refine hx_any ?_ | (apply ha_end; decide +kernel))
        refine hx_round ⟨p + 1, rfl, hp2, rfl, rfl⟩ (by omega) ⟨rfl, rfl, rfl, rfl, trivial⟩
    · have e : p = s := by omega
      subst e
      rw [mix_n]
      repeat' (first | refine hl_a ?_ | refine hq_a ?_ | refine hl_nil ?_ | refine hq_nil ?_ | refine hq_ga ?_ | refine hq_sk ?_ | refine hq_su ?_ | refine hq_gT ?_ | refine hq_gF ?_ | refine hq_gd (fun h => ?_) (fun h => ?_) | refine hl_ga ?_ | refine hl_sk ?_ | refine hl_su ?_ | refine hl_gT ?_ | refine hl_gF ?_ | refine hl_gd (fun h => ?_) (fun h => ?_) | refine hx_next ?_ | refine hw_seq ?_ | refine hw_region ?_ | refine hw_dr ?_ | refine hw_block ?_ | refine hx_block ?_ | refine hw_tt ?_ | refine hw_ff ?_ | refine hw_iT ?_ | refine hw_iF ?_ | refine hw_skip ?_ | refine hw_ret ?_ | refine hw_exit ?_ | refine hx_then_ret ?_ | refine hx_block_ret ?_ | refine hx_then_exit ?_ | refine hx_block_here ?_ | refine hx_far ?_ | refine hx_any ?_ | (apply ha_end; decide +kernel))
      refine hx_round ⟨k + 1, rfl, hk2, rfl, rfl⟩ (by omega) ⟨rfl, rfl, rfl, trivial⟩
  have e : k = s := by omega
  subst e
  repeat' (first | refine hl_a ?_ | refine hq_a ?_ | refine hl_nil ?_ | refine hq_nil ?_ | refine hq_ga ?_ | refine hq_sk ?_ | refine hq_su ?_ | refine hq_gT ?_ | refine hq_gF ?_ | refine hq_gd (fun h => ?_) (fun h => ?_) | refine hl_ga ?_ | refine hl_sk ?_ | refine hl_su ?_ | refine hl_gT ?_ | refine hl_gF ?_ | refine hl_gd (fun h => ?_) (fun h => ?_) | refine hx_next ?_ | refine hw_seq ?_ | refine hw_region ?_ | refine hw_dr ?_ | refine hw_block ?_ | refine hx_block ?_ | refine hw_tt ?_ | refine hw_ff ?_ | refine hw_iT ?_ | refine hw_iF ?_ | refine hw_skip ?_ | refine hw_ret ?_ | refine hw_exit ?_ | refine hx_then_ret ?_ | refine hx_block_ret ?_ | refine hx_then_exit ?_ | refine hx_block_here ?_ | refine hx_far ?_ | refine hx_any ?_ | (apply ha_end; decide +kernel))
  rw [hend]
  have hr0 := hrow 0 (by omega)
  have h0k : 0 < k := by omega
  have hl0 := hlr (rlF (k : Int) rds) [] 0 h0k
  refine hw_loop (fun e r m => r = [rRows 82 2 (Value.int .i64) u vs (mat k (rlF (k : Int) rds))] ∧ ∃ t : Nat, t ≤ k ∧ (∀ j, j < t → rlF (k : Int) rds 0 j < bigF) ∧ m = k - t ∧ e = [(0, .int .i64 (k : Int)), (6, u), (15, .int .i64 (t : Int))])
    ⟨rfl, 0, Nat.zero_le _, by omega, rfl, rfl⟩ ⟨rfl, rfl, rfl, trivial⟩ ?_
  rintro _ _ _ ⟨rfl, t, ht, hall2, rfl, rfl⟩
  repeat' (first | refine hl_a ?_ | refine hq_a ?_ | refine hl_nil ?_ | refine hq_nil ?_ | refine hq_ga ?_ | refine hq_sk ?_ | refine hq_su ?_ | refine hq_gT ?_ | refine hq_gF ?_ | refine hq_gd (fun h => ?_) (fun h => ?_) | refine hl_ga ?_ | refine hl_sk ?_ | refine hl_su ?_ | refine hl_gT ?_ | refine hl_gF ?_ | refine hl_gd (fun h => ?_) (fun h => ?_) | refine hx_next ?_ | refine hw_seq ?_ | refine hw_region ?_ | refine hw_dr ?_ | refine hw_block ?_ | refine hx_block ?_ | refine hw_tt ?_ | refine hw_ff ?_ | refine hw_iT ?_ | refine hw_iF ?_ | refine hw_skip ?_ | refine hw_ret ?_ | refine hw_exit ?_ | refine hx_then_ret ?_ | refine hx_block_ret ?_ | refine hx_then_exit ?_ | refine hx_block_here ?_ | refine hx_far ?_ | refine hx_any ?_ | (apply ha_end; decide +kernel))
  refine hw_if rfl (fun hltt => ?_) (fun hget => ?_)
  · have ht2 : t < k := by omega
    have q1 : Ld w [rRows 82 2 (Value.int .i64) u vs (mat k (rlF (k : Int) rds))] (vAt (vs.getD 0 undef) t) (.int .i64 (rlF (k : Int) rds 0 t)) := ld_mat 0 rfl hvs h0k ht2 rfl
    rcases Int.lt_or_le (rlF (k : Int) rds 0 t) bigF with hb | hb
    · have hb' : ¬ (1073741824 ≤ rlF (k : Int) rds 0 t) := by unfold bigF at hb; omega
      repeat' (first | refine hl_a ?_ | refine hq_a ?_ | refine hl_nil ?_ | refine hq_nil ?_ | refine hq_ga ?_ | refine hq_sk ?_ | refine hq_su ?_ | refine hq_gT ?_ | refine hq_gF ?_ | refine hq_gd (fun h => ?_) (fun h => ?_) | refine hl_ga ?_ | refine hl_sk ?_ | refine hl_su ?_ | refine hl_gT ?_ | refine hl_gF ?_ | refine hl_gd (fun h => ?_) (fun h => ?_) | refine hx_next ?_ | refine hw_seq ?_ | refine hw_region ?_ | refine hw_dr ?_ | refine hw_block ?_ | refine hx_block ?_ | refine hw_tt ?_ | refine hw_ff ?_ | refine hw_iT ?_ | refine hw_iF ?_ | refine hw_skip ?_ | refine hw_ret ?_ | refine hw_exit ?_ | refine hx_then_ret ?_ | refine hx_block_ret ?_ | refine hx_then_exit ?_ | refine hx_block_here ?_ | refine hx_far ?_ | refine hx_any ?_ | (apply ha_end; decide +kernel))
      refine hx_round ⟨rfl, t + 1, ht2, fun j hj => ?_, rfl, rfl⟩ (by omega) ⟨rfl, rfl, rfl, trivial⟩
      by_cases e : j = t
      · rw [e]; exact hb
      · exact hall2 j (by omega)
    · have hb' : 1073741824 ≤ rlF (k : Int) rds 0 t := hb
      have hnc : ¬ RlCon (k : Int) rds := fun e => by have := e t (by rw [Int.toNat_natCast]; exact ht2); omega
      have hC : rlC (k : Int) rds = 4 := by rw [rlC, if_pos hRl, if_neg hnc]
      have hX : rlX (k : Int) rds = [] := by rw [rlX, if_pos hRl, if_neg hnc]
      repeat' (first | refine hl_a ?_ | refine hq_a ?_ | refine hl_nil ?_ | refine hq_nil ?_ | refine hq_ga ?_ | refine hq_sk ?_ | refine hq_su ?_ | refine hq_gT ?_ | refine hq_gF ?_ | refine hq_gd (fun h => ?_) (fun h => ?_) | refine hl_ga ?_ | refine hl_sk ?_ | refine hl_su ?_ | refine hl_gT ?_ | refine hl_gF ?_ | refine hl_gd (fun h => ?_) (fun h => ?_) | refine hx_next ?_ | refine hw_seq ?_ | refine hw_region ?_ | refine hw_dr ?_ | refine hw_block ?_ | refine hx_block ?_ | refine hw_tt ?_ | refine hw_ff ?_ | refine hw_iT ?_ | refine hw_iF ?_ | refine hw_skip ?_ | refine hw_ret ?_ | refine hw_exit ?_ | refine hx_then_ret ?_ | refine hx_block_ret ?_ | refine hx_then_exit ?_ | refine hx_block_here ?_ | refine hx_far ?_ | refine hx_any ?_ | (apply ha_end; decide +kernel))
      refine hl_build0 (by decide) (fun bz => ?_)
      repeat' (first | refine hl_a ?_ | refine hq_a ?_ | refine hl_nil ?_ | refine hq_nil ?_ | refine hq_ga ?_ | refine hq_sk ?_ | refine hq_su ?_ | refine hq_gT ?_ | refine hq_gF ?_ | refine hq_gd (fun h => ?_) (fun h => ?_) | refine hl_ga ?_ | refine hl_sk ?_ | refine hl_su ?_ | refine hl_gT ?_ | refine hl_gF ?_ | refine hl_gd (fun h => ?_) (fun h => ?_) | refine hx_next ?_ | refine hw_seq ?_ | refine hw_region ?_ | refine hw_dr ?_ | refine hw_block ?_ | refine hx_block ?_ | refine hw_tt ?_ | refine hw_ff ?_ | refine hw_iT ?_ | refine hw_iF ?_ | refine hw_skip ?_ | refine hw_ret ?_ | refine hw_exit ?_ | refine hx_then_ret ?_ | refine hx_block_ret ?_ | refine hx_then_exit ?_ | refine hx_block_here ?_ | refine hx_far ?_ | refine hx_any ?_ | (apply ha_end; decide +kernel))
      exact hx_ret2 rfl rfl rfl (fun w hm => ⟨_, _, rfl, Mem.rows (e1 := 82) (e2 := 2) (enc := Value.int .i64) (xss := ([] : List (List Int))) 1 2 hm.empty rfl (by decide) rfl rfl, _, [], by rw [hC], by rw [hX], by rw [hX]; rfl, by rw [hX]; exact lit_ok _ 0 (by decide)⟩)
  · have hc : RlCon (k : Int) rds := fun j hj => hall2 j (by rw [Int.toNat_natCast] at hj; omega)
    have hC : rlC (k : Int) rds = 0 := by rw [rlC, if_pos hRl, if_pos hc]
    have hX : rlX (k : Int) rds = mat k (rlF (k : Int) rds) := by rw [rlX, if_pos hRl, if_pos hc, Int.toNat_natCast]; rfl
    repeat' (first | refine hl_a ?_ | refine hq_a ?_ | refine hl_nil ?_ | refine hq_nil ?_ | refine hq_ga ?_ | refine hq_sk ?_ | refine hq_su ?_ | refine hq_gT ?_ | refine hq_gF ?_ | refine hq_gd (fun h => ?_) (fun h => ?_) | refine hl_ga ?_ | refine hl_sk ?_ | refine hl_su ?_ | refine hl_gT ?_ | refine hl_gF ?_ | refine hl_gd (fun h => ?_) (fun h => ?_) | refine hx_next ?_ | refine hw_seq ?_ | refine hw_region ?_ | refine hw_dr ?_ | refine hw_block ?_ | refine hx_block ?_ | refine hw_tt ?_ | refine hw_ff ?_ | refine hw_iT ?_ | refine hw_iF ?_ | refine hw_skip ?_ | refine hw_ret ?_ | refine hw_exit ?_ | refine hx_then_ret ?_ | refine hx_block_ret ?_ | refine hx_then_exit ?_ | refine hx_block_here ?_ | refine hx_far ?_ | refine hx_any ?_ | (apply ha_end; decide +kernel))
    exact hx_ret2 rfl rfl rfl (fun w hm => ⟨_, _, rfl, hm, u, vs, by rw [hC], by rw [hX], by rw [hX, mat_length]; exact hvs, by rw [hX, mat_length]; exact hu⟩)
theorem specRoadLengths_c (st : Int) (v : Value) (rds : List RoadR) (w : World) (hst : I64 st) (hr : RdR w v rds) : Gives Try.prog 23 [.int .i64 st, v] w (L2Out 82 2 (rlX st rds) (rlC st rds)) := by
  refine calls_hw Try.func23 Try.ntmps23 rfl rfl ?_
  repeat' (first | refine hl_a ?_ | refine hq_a ?_ | refine hl_nil ?_ | refine hq_nil ?_ | refine hq_ga ?_ | refine hq_sk ?_ | refine hq_su ?_ | refine hq_gT ?_ | refine hq_gF ?_ | refine hq_gd (fun h => ?_) (fun h => ?_) | refine hl_ga ?_ | refine hl_sk ?_ | refine hl_su ?_ | refine hl_gT ?_ | refine hl_gF ?_ | refine hl_gd (fun h => ?_) (fun h => ?_) | refine hx_next ?_ | refine hw_seq ?_ | refine hw_region ?_ | refine hw_dr ?_ | refine hw_block ?_ | refine hx_block ?_ | refine hw_tt ?_ | refine hw_ff ?_ | refine hw_iT ?_ | refine hw_iF ?_ | refine hw_skip ?_ | refine hw_ret ?_ | refine hw_exit ?_ | refine hx_then_ret ?_ | refine hx_block_ret ?_ | refine hx_then_exit ?_ | refine hx_block_here ?_ | refine hx_far ?_ | refine hx_any ?_ | (apply ha_end; decide +kernel))
  refine hl_call (by decide) (fun w hm => l04Lengths_c st v rds w hst (hr.up hm.below)) rfl ?_
  rintro _ _ ⟨u, vs, rfl, rfl, hl, hu⟩
  repeat' (first | refine hl_a ?_ | refine hq_a ?_ | refine hl_nil ?_ | refine hq_nil ?_ | refine hq_ga ?_ | refine hq_sk ?_ | refine hq_su ?_ | refine hq_gT ?_ | refine hq_gF ?_ | refine hq_gd (fun h => ?_) (fun h => ?_) | refine hl_ga ?_ | refine hl_sk ?_ | refine hl_su ?_ | refine hl_gT ?_ | refine hl_gF ?_ | refine hl_gd (fun h => ?_) (fun h => ?_) | refine hx_next ?_ | refine hw_seq ?_ | refine hw_region ?_ | refine hw_dr ?_ | refine hw_block ?_ | refine hx_block ?_ | refine hw_tt ?_ | refine hw_ff ?_ | refine hw_iT ?_ | refine hw_iF ?_ | refine hw_skip ?_ | refine hw_ret ?_ | refine hw_exit ?_ | refine hx_then_ret ?_ | refine hx_block_ret ?_ | refine hx_then_exit ?_ | refine hx_block_here ?_ | refine hx_far ?_ | refine hx_any ?_ | (apply ha_end; decide +kernel))
  exact hx_ret2 rfl rfl rfl (fun w hm => ⟨_, _, rfl, hm, u, vs, rfl, rfl, hl, hu⟩)
end Go.Proofs.Ytgeidbjcphjbiaa
