/- Contracts: runs by draws; searches in lists. -/
import Derived.Test.YtgeidbjcphjbiaaF16
namespace Go.Proofs.Ytgeidbjcphjbiaa
open Go.Eng Go.RowKit
set_option linter.unusedVariables false

/-- The first place with a property, or -1. -/
def findI (p : Int → Bool) : List Int → Nat → Int
  | [], _ => -1
  | x :: xs, k => if p x = true then (k : Int) else findI p xs (k + 1)
theorem findI_step (p : Int → Bool) (xs : List Int) (k : Nat) (hk : k < xs.length) : findI p (xs.drop k) k = if p (xs.getD k 0) = true then (k : Int) else findI p (xs.drop (k + 1)) (k + 1) := by
  rw [List.drop_eq_getElem_cons hk, getD_lt _ _ _ hk]; rfl
theorem findI_end (p : Int → Bool) (xs : List Int) (k : Nat) (hk : xs.length ≤ k) : findI p (xs.drop k) k = -1 := by rw [List.drop_eq_nil_of_le hk]; rfl
theorem findI_ge (p : Int → Bool) : ∀ (xs : List Int) (k : Nat), 0 ≤ findI p xs k ↔ ∃ x ∈ xs, p x = true
  | [], k => by simp [findI]
  | x :: xs, k => by
    simp only [findI]
    split
    · rename_i h; first | (simp [h]; done) | (simp [h]; omega)
    · rename_i h; rw [findI_ge p xs (k + 1)]; simp [h]
theorem findI_le (p : Int → Bool) : ∀ (xs : List Int) (k : Nat), findI p xs k ≤ k + xs.length
  | [], k => by simp [findI] <;> omega
  | x :: xs, k => by
    simp only [findI]
    split
    · first | (simp; done) | (simp; omega)
    · have := findI_le p xs (k + 1); simp; omega
theorem indexFunc_c (f : FuncId) [hB : Body Try.prog f] (caps : List Value) (v : Value) (xs : List Int) (p : Int → Bool) (w : World) (hx : RdE (Value.int .i64) 0 w v xs)
    (hf : ∀ w', Below w.heap.size w w' → ∀ i, i < xs.length → Ret Try.prog f (.int .i64 (xs.getD i 0) :: caps) w' (.bool (p (xs.getD i 0)))) :
    Ret Try.prog 138 [v, .func (.func f) #[] caps.toArray] w (.int .i64 (findI p xs 0)) := by
  refine calls_hw Try.func138 Try.ntmps138 rfl rfl ?_
  have hs := hx.sl
  have hle := hs.le
  repeat' (first | refine hl_a ?_ | refine hq_a ?_ | refine hl_nil ?_ | refine hq_nil ?_ | refine hq_ga ?_ | refine hq_sk ?_ | refine hq_su ?_ | refine hq_gT ?_ | refine hq_gF ?_ | refine hq_gd (fun h => ?_) (fun h => ?_) | refine hl_ga ?_ | refine hl_sk ?_ | refine hl_su ?_ | refine hl_gT ?_ | refine hl_gF ?_ | refine hl_gd (fun h => ?_) (fun h => ?_) | refine hx_next ?_ | refine hw_seq ?_ | refine hw_region ?_ | refine hw_dr ?_ | refine hw_block ?_ | refine hx_block ?_ | refine hw_tt ?_ | refine hw_ff ?_ | refine hw_iT ?_ | refine hw_iF ?_ | refine hw_skip ?_ | refine hw_ret ?_ | refine hw_exit ?_ | refine hx_then_ret ?_ | refine hx_block_ret ?_ | refine hx_then_exit ?_ | refine hx_block_here ?_ | refine hx_far ?_ | refine hx_any ?_ | (apply ha_end; decide +kernel))
  refine hw_loop (fun e r m => r = [] ∧ ∃ k : Nat, k ≤ xs.length ∧ m = xs.length - k ∧ e = [(0, v), (1, .func (.func f) #[] caps.toArray), (7, .int .i64 (xs.length : Int)), (8, .int .i64 k)] ∧ findI p (xs.drop k) k = findI p xs 0)
    ⟨rfl, 0, Nat.zero_le _, rfl, rfl, rfl⟩ ⟨rfl, rfl, rfl, rfl, trivial⟩ ?_
  rintro _ _ _ ⟨rfl, k, hk, rfl, rfl, hinv⟩
  repeat' (first | refine hl_a ?_ | refine hq_a ?_ | refine hl_nil ?_ | refine hq_nil ?_ | refine hq_ga ?_ | refine hq_sk ?_ | refine hq_su ?_ | refine hq_gT ?_ | refine hq_gF ?_ | refine hq_gd (fun h => ?_) (fun h => ?_) | refine hl_ga ?_ | refine hl_sk ?_ | refine hl_su ?_ | refine hl_gT ?_ | refine hl_gF ?_ | refine hl_gd (fun h => ?_) (fun h => ?_) | refine hx_next ?_ | refine hw_seq ?_ | refine hw_region ?_ | refine hw_dr ?_ | refine hw_block ?_ | refine hx_block ?_ | refine hw_tt ?_ | refine hw_ff ?_ | refine hw_iT ?_ | refine hw_iF ?_ | refine hw_skip ?_ | refine hw_ret ?_ | refine hw_exit ?_ | refine hx_then_ret ?_ | refine hx_block_ret ?_ | refine hx_then_exit ?_ | refine hx_block_here ?_ | refine hx_far ?_ | refine hx_any ?_ | (apply ha_end; decide +kernel))
  refine hw_if rfl (fun hlt => ?_) (fun hge => ?_)
  · have hk2 : k < xs.length := by omega
    have hc := hx.get k hk2
    rw [findI_step _ _ _ hk2] at hinv
    have hcall : ∀ w', Mem w [] w' → Ret Try.prog f (.int .i64 (xs.getD k 0) :: caps) w' (.bool (p (xs.getD k 0))) := fun w' hm => hf w' hm.below k hk2
    rcases Bool.eq_false_or_eq_true (p (xs.getD k 0)) with hp | hp <;> rw [hp] at hcall
    · repeat' (first | refine hl_a ?_ | refine hq_a ?_ | refine hl_nil ?_ | refine hq_nil ?_ | refine hq_ga ?_ | refine hq_sk ?_ | refine hq_su ?_ | refine hq_gT ?_ | refine hq_gF ?_ | refine hq_gd (fun h => ?_) (fun h => ?_) | refine hl_ga ?_ | refine hl_sk ?_ | refine hl_su ?_ | refine hl_gT ?_ | refine hl_gF ?_ | refine hl_gd (fun h => ?_) (fun h => ?_) | refine hx_next ?_ | refine hw_seq ?_ | refine hw_region ?_ | refine hw_dr ?_ | refine hw_block ?_ | refine hx_block ?_ | refine hw_tt ?_ | refine hw_ff ?_ | refine hw_iT ?_ | refine hw_iF ?_ | refine hw_skip ?_ | refine hw_ret ?_ | refine hw_exit ?_ | refine hx_then_ret ?_ | refine hx_block_ret ?_ | refine hx_then_exit ?_ | refine hx_block_here ?_ | refine hx_far ?_ | refine hx_any ?_ | (apply ha_end; decide +kernel))
      first | refine hl_q (by decide) (q_callv (vs := [.int .i64 (xs.getD k 0)]) rfl rfl hcall) ?_ | refine hq_q (by decide) (q_callv (vs := [.int .i64 (xs.getD k 0)]) rfl rfl hcall) ?_ | refine hl_g _ _ rfl rfl (by decide) (q_callv (vs := [.int .i64 (xs.getD k 0)]) rfl rfl hcall) ?_ | refine hq_g _ _ rfl rfl (by decide) (q_callv (vs := [.int .i64 (xs.getD k 0)]) rfl rfl hcall) ?_
      repeat' (first | refine hl_a ?_ | refine hq_a ?_ | refine hl_nil ?_ | refine hq_nil ?_ | refine hq_ga ?_ | refine hq_sk ?_ | refine hq_su ?_ | refine hq_gT ?_ | refine hq_gF ?_ | refine hq_gd (fun h => ?_) (fun h => ?_) | refine hl_ga ?_ | refine hl_sk ?_ | refine hl_su ?_ | refine hl_gT ?_ | refine hl_gF ?_ | refine hl_gd (fun h => ?_) (fun h => ?_) | refine hx_next ?_ | refine hw_seq ?_ | refine hw_region ?_ | refine hw_dr ?_ | refine hw_block ?_ | refine hx_block ?_ | refine hw_tt ?_ | refine hw_ff ?_ | refine hw_iT ?_ | refine hw_iF ?_ | refine hw_skip ?_ | refine hw_ret ?_ | refine hw_exit ?_ | refine hx_then_ret ?_ | refine hx_block_ret ?_ | refine hx_then_exit ?_ | refine hx_block_here ?_ | refine hx_far ?_ | refine hx_any ?_ | (apply ha_end; decide +kernel))
      refine hx_ret1 rfl rfl (fun w hm => ⟨?_, hm.none⟩)
      rw [if_pos hp] at hinv; rw [hinv]
    · repeat' (first | refine hl_a ?_ | refine hq_a ?_ | refine hl_nil ?_ | refine hq_nil ?_ | refine hq_ga ?_ | refine hq_sk ?_ | refine hq_su ?_ | refine hq_gT ?_ | refine hq_gF ?_ | refine hq_gd (fun h => ?_) (fun h => ?_) | refine hl_ga ?_ | refine hl_sk ?_ | refine hl_su ?_ | refine hl_gT ?_ | refine hl_gF ?_ | refine hl_gd (fun h => ?_) (fun h => ?_) | refine hx_next ?_ | refine hw_seq ?_ | refine hw_region ?_ | refine hw_dr ?_ | refine hw_block ?_ | refine hx_block ?_ | refine hw_tt ?_ | refine hw_ff ?_ | refine hw_iT ?_ | refine hw_iF ?_ | refine hw_skip ?_ | refine hw_ret ?_ | refine hw_exit ?_ | refine hx_then_ret ?_ | refine hx_block_ret ?_ | refine hx_then_exit ?_ | refine hx_block_here ?_ | refine hx_far ?_ | refine hx_any ?_ | (apply ha_end; decide +kernel))
      first | refine hl_q (by decide) (q_callv (vs := [.int .i64 (xs.getD k 0)]) rfl rfl hcall) ?_ | refine hq_q (by decide) (q_callv (vs := [.int .i64 (xs.getD k 0)]) rfl rfl hcall) ?_ | refine hl_g _ _ rfl rfl (by decide) (q_callv (vs := [.int .i64 (xs.getD k 0)]) rfl rfl hcall) ?_ | refine hq_g _ _ rfl rfl (by decide) (q_callv (vs := [.int .i64 (xs.getD k 0)]) rfl rfl hcall) ?_
      repeat' (first | refine hl_a ?_ | refine hq_a ?_ | refine hl_nil ?_ | refine hq_nil ?_ | refine hq_ga ?_ | refine hq_sk ?_ | refine hq_su ?_ | refine hq_gT ?_ | refine hq_gF ?_ | refine hq_gd (fun h => ?_) (fun h => ?_) | refine hl_ga ?_ | refine hl_sk ?_ | refine hl_su ?_ | refine hl_gT ?_ | refine hl_gF ?_ | refine hl_gd (fun h => ?_) (fun h => ?_) | refine hx_next ?_ | refine hw_seq ?_ | refine hw_region ?_ | refine hw_dr ?_ | refine hw_block ?_ | refine hx_block ?_ | refine hw_tt ?_ | refine hw_ff ?_ | refine hw_iT ?_ | refine hw_iF ?_ | refine hw_skip ?_ | refine hw_ret ?_ | refine hw_exit ?_ | refine hx_then_ret ?_ | refine hx_block_ret ?_ | refine hx_then_exit ?_ | refine hx_block_here ?_ | refine hx_far ?_ | refine hx_any ?_ | (apply ha_end; decide +kernel))
      refine hx_round ⟨rfl, k + 1, hk2, rfl, rfl, by rw [← hinv, if_neg (by rw [hp]; exact Bool.false_ne_true)]⟩ (by omega) ⟨rfl, rfl, rfl, rfl, trivial⟩
  · repeat' (first | refine hl_a ?_ | refine hq_a ?_ | refine hl_nil ?_ | refine hq_nil ?_ | refine hq_ga ?_ | refine hq_sk ?_ | refine hq_su ?_ | refine hq_gT ?_ | refine hq_gF ?_ | refine hq_gd (fun h => ?_) (fun h => ?_) | refine hl_ga ?_ | refine hl_sk ?_ | refine hl_su ?_ | refine hl_gT ?_ | refine hl_gF ?_ | refine hl_gd (fun h => ?_) (fun h => ?_) | refine hx_next ?_ | refine hw_seq ?_ | refine hw_region ?_ | refine hw_dr ?_ | refine hw_block ?_ | refine hx_block ?_ | refine hw_tt ?_ | refine hw_ff ?_ | refine hw_iT ?_ | refine hw_iF ?_ | refine hw_skip ?_ | refine hw_ret ?_ | refine hw_exit ?_ | refine hx_then_ret ?_ | refine hx_block_ret ?_ | refine hx_then_exit ?_ | refine hx_block_here ?_ | refine hx_far ?_ | refine hx_any ?_ | (apply ha_end; decide +kernel))
    refine hx_ret1 rfl rfl (fun w hm => ⟨?_, hm.none⟩)
    rw [findI_end _ _ _ (by omega)] at hinv; rw [hinv]
theorem containsFunc_c (f : FuncId) [hB : Body Try.prog f] (caps : List Value) (v : Value) (xs : List Int) (p : Int → Bool) (w : World) (hx : RdE (Value.int .i64) 0 w v xs)
    (hf : ∀ w', Below w.heap.size w w' → ∀ i, i < xs.length → Ret Try.prog f (.int .i64 (xs.getD i 0) :: caps) w' (.bool (p (xs.getD i 0)))) :
    Ret Try.prog 134 [v, .func (.func f) #[] caps.toArray] w (.bool (decide (∃ x ∈ xs, p x = true))) := by
  refine calls_hw Try.func134 Try.ntmps134 rfl rfl ?_
  repeat' (first | refine hl_a ?_ | refine hq_a ?_ | refine hl_nil ?_ | refine hq_nil ?_ | refine hq_ga ?_ | refine hq_sk ?_ | refine hq_su ?_ | refine hq_gT ?_ | refine hq_gF ?_ | refine hq_gd (fun h => ?_) (fun h => ?_) | refine hl_ga ?_ | refine hl_sk ?_ | refine hl_su ?_ | refine hl_gT ?_ | refine hl_gF ?_ | refine hl_gd (fun h => ?_) (fun h => ?_) | refine hx_next ?_ | refine hw_seq ?_ | refine hw_region ?_ | refine hw_dr ?_ | refine hw_block ?_ | refine hx_block ?_ | refine hw_tt ?_ | refine hw_ff ?_ | refine hw_iT ?_ | refine hw_iF ?_ | refine hw_skip ?_ | refine hw_ret ?_ | refine hw_exit ?_ | refine hx_then_ret ?_ | refine hx_block_ret ?_ | refine hx_then_exit ?_ | refine hx_block_here ?_ | refine hx_far ?_ | refine hx_any ?_ | (apply ha_end; decide +kernel))
  first | refine hl_q (by decide) (q_call (fun w hm => indexFunc_c f caps v xs p w (hx.up hm.below) (fun w' hb => hf w' (hm.below.trans (hb.mono hm.below.size)))) rfl) ?_ | refine hq_q (by decide) (q_call (fun w hm => indexFunc_c f caps v xs p w (hx.up hm.below) (fun w' hb => hf w' (hm.below.trans (hb.mono hm.below.size)))) rfl) ?_ | refine hl_g _ _ rfl rfl (by decide) (q_call (fun w hm => indexFunc_c f caps v xs p w (hx.up hm.below) (fun w' hb => hf w' (hm.below.trans (hb.mono hm.below.size)))) rfl) ?_ | refine hq_g _ _ rfl rfl (by decide) (q_call (fun w hm => indexFunc_c f caps v xs p w (hx.up hm.below) (fun w' hb => hf w' (hm.below.trans (hb.mono hm.below.size)))) rfl) ?_
  repeat' (first | refine hl_a ?_ | refine hq_a ?_ | refine hl_nil ?_ | refine hq_nil ?_ | refine hq_ga ?_ | refine hq_sk ?_ | refine hq_su ?_ | refine hq_gT ?_ | refine hq_gF ?_ | refine hq_gd (fun h => ?_) (fun h => ?_) | refine hl_ga ?_ | refine hl_sk ?_ | refine hl_su ?_ | refine hl_gT ?_ | refine hl_gF ?_ | refine hl_gd (fun h => ?_) (fun h => ?_) | refine hx_next ?_ | refine hw_seq ?_ | refine hw_region ?_ | refine hw_dr ?_ | refine hw_block ?_ | refine hx_block ?_ | refine hw_tt ?_ | refine hw_ff ?_ | refine hw_iT ?_ | refine hw_iF ?_ | refine hw_skip ?_ | refine hw_ret ?_ | refine hw_exit ?_ | refine hx_then_ret ?_ | refine hx_block_ret ?_ | refine hx_then_exit ?_ | refine hx_block_here ?_ | refine hx_far ?_ | refine hx_any ?_ | (apply ha_end; decide +kernel))
  refine hx_ret1 rfl rfl (fun w hm => ⟨?_, hm.none⟩)
  have h := findI_ge p xs 0
  simp only [h]

theorem dec_true {p : Prop} {dp : Decidable p} (h : p) : some (Value.bool true) = some (Value.bool (@decide p dp)) := by rw [decide_eq_true h]
theorem dec_false {p : Prop} {dp : Decidable p} (h : ¬ p) : some (Value.bool false) = some (Value.bool (@decide p dp)) := by rw [decide_eq_false h]
/-- In which state a run is. -/
def stAt (xss : List (List Int)) (s : Int) (ds : List Int) : Nat → Int
  | 0 => s
  | k + 1 => stepTo xss (stAt xss s ds k) (ds.getD k 0)
structure RunOk (st tot : Int) (s : Int) (ds : List Int) : Prop where
  s0 : 0 ≤ s ∧ s ≤ st - 1
  len : ds.length ≤ 200
  ds : ∀ i, i < ds.length → 0 ≤ ds.getD i 0 ∧ ds.getD i 0 ≤ tot - 1
noncomputable instance (st tot s : Int) (ds : List Int) : Decidable (RunOk st tot s ds) := Classical.propDecidable _
theorem stAt_ok {st tot s : Int} {xss : List (List Int)} {ds : List Int} (hv : Valid st tot xss) (h : RunOk st tot s ds) : ∀ k, k ≤ ds.length → 0 ≤ stAt xss s ds k ∧ stAt xss s ds k ≤ st - 1
  | 0, _ => h.s0
  | k + 1, hk => (stepTo_ok hv _ _ (stAt_ok hv h k (by omega)) (h.ds k (by omega))).2
noncomputable def runXs (st tot : Int) (xss : List (List Int)) (s : Int) (ds : List Int) : List Int := if Valid st tot xss ∧ RunOk st tot s ds then tab (ds.length + 1) (stAt xss s ds) else []
noncomputable def runC (st tot : Int) (xss : List (List Int)) (s : Int) (ds : List Int) : Int := if Valid st tot xss then if RunOk st tot s ds then 0 else 2 else 1
theorem runXs_small (st tot : Int) (xss : List (List Int)) (s : Int) (ds : List Int) : (runXs st tot xss s ds).length ≤ 1048576 := by
  unfold runXs
  split
  · rename_i h; have := h.2.len; rw [tab_length]; omega
  · simp
theorem lsErr (e : TypeId) (c : Int) {v : Value} {rs : List Res} (hv : SlOk v 0) (h : rs = [rE e (Value.int .i64) v []]) : LsOut e [] c (.tuple #[v, .int .i64 c]) rs := ⟨v, rfl, h, hv⟩

end Go.Proofs.Ytgeidbjcphjbiaa
