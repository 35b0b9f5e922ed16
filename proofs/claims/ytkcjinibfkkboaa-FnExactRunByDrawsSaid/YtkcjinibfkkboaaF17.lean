/- Contracts: runs by draws; searches in lists. -/
import Derived.Test.YtkcjinibfkkboaaF16
namespace Go.Proofs.Ytkcjinibfkkboaa
open Go.Eng Go.RowKit
set_option linter.unusedVariables false

/-- The first place with a property, or -1. -/
def findI (p : Int → Bool) : List Int → Nat → Int
  | [], _ => -1
  | x :: xs, k => if p x = true then (k : Int) else findI p xs (k + 1)
theorem findI_step (p : Int → Bool) (xs : List Int) (k : Nat) (hk : k < xs.length) : findI p (xs.drop k) k = if p (xs.getD k 0) = true then (k : Int) else findI p (xs.drop (k + 1)) (k + 1) := by
  rw [List.drop_eq_getElem_cons hk, getD_lt _ _ _ hk]; rfl
theorem findI_end (p : Int → Bool) (xs : List Int) (k : Nat) (hk : xs.length ≤ k) : findI p (xs.drop k) k = -1 := by rw [List.drop_eq_nil_of_le hk]; rfl
theorem findI_ge (p : Int → Bool) : ∀ (xs : List Int) (k : Nat), 0 ≤ findI p xs k ↔ ∃ x ∈ xs, p x = true
  | [], k => by simp [findI]
  | x :: xs, k => by
    simp only [findI]
    split
    · rename_i h; first | (simp [h]; done) | (simp [h]; omega)
    · rename_i h; rw [findI_ge p xs (k + 1)]; simp [h]
theorem findI_le (p : Int → Bool) : ∀ (xs : List Int) (k : Nat), findI p xs k ≤ k + xs.length
  | [], k => by simp [findI] <;> omega
  | x :: xs, k => by
    simp only [findI]
    split
    · first | (simp; done) | (simp; omega)
    · have := findI_le p xs (k + 1); simp; omega
theorem indexFunc_c (f : FuncId) [hB : Body Try.prog f] (caps : List Value) (v : Value) (xs : List Int) (p : Int → Bool) (w : World) (hx : RdE (Value.int .i64) 0 w v xs)
    (hf : ∀ w', Below w.heap.size w w' → ∀ i, i < xs.length → Ret Try.prog f (.int .i64 (xs.getD i 0) :: caps) w' (.bool (p (xs.getD i 0)))) :
    Ret Try.prog 93 [v, .func (.func f) #[] caps.toArray] w (.int .i64 (findI p xs 0)) := by
  refine calls_hw Try.func93 Try.ntmps93 rfl rfl ?_
  have hs := hx.sl
  have hle := hs.le
  repeat' (first | refine hl_a ?_ | refine hq_a ?_ | refine hl_nil ?_ | refine hq_nil ?_ | refine hq_ga ?_ | refine hq_sk ?_ | refine hq_su ?_ | refine hq_gT ?_ | refine hq_gF ?_ | refine hq_gd (fun h => ?_) (fun h => ?_) | refine hl_ga ?_ | refine hl_sk ?_ | refine hl_su ?_ | refine hl_gT ?_ | refine hl_gF ?_ | refine hl_gd (fun h => ?_) (fun h => ?_) | refine hx_next ?_ | refine hw_seq ?_ | refine hw_region ?_ | refine hw_dr ?_ | refine hw_block ?_ | refine hx_block ?_ | refine hw_tt ?_ | refine hw_ff ?_ | refine hw_iT ?_ | refine hw_iF ?_ | refine hw_skip ?_ | refine hw_ret ?_ | refine hw_exit ?_ | refine hx_then_ret ?_ | refine hx_block_ret ?_ | refine hx_then_exit ?_ | refine hx_block_here ?_ | refine hx_far ?_ | refine hx_any ?_ | (apply ha_end; decide +kernel))
  refine hw_loop (fun e r m => r = [] ∧ ∃ k : Nat, k ≤ xs.length ∧ m = xs.length - k ∧ e = [(0, v), (1, .func (.func f) #[] caps.toArray), (7, .int .i64 (xs.length : Int)), (8, .int .i64 k)] ∧ findI p (xs.drop k) k = findI p xs 0)
    ⟨rfl, 0, Nat.zero_le _, rfl, rfl, rfl⟩ ⟨rfl, rfl, rfl, rfl, trivial⟩ ?_
  rintro _ _ _ ⟨rfl, k, hk, rfl, rfl, hinv⟩
  repeat' (first | refine hl_a ?_ | refine hq_a ?_ | refine hl_nil ?_ | refine hq_nil ?_ | refine hq_ga ?_ | refine hq_sk ?_ | refine hq_su ?_ | refine hq_gT ?_ | refine hq_gF ?_ | refine hq_gd (fun h => ?_) (fun h => ?_) | refine hl_ga ?_ | refine hl_sk ?_ | refine hl_su ?_ | refine hl_gT ?_ | refine hl_gF ?_ | refine hl_gd (fun h => ?_) (fun h => ?_) | refine hx_next ?_ | refine hw_seq ?_ | refine hw_region ?_ | refine hw_dr ?_ | refine hw_block ?_ | refine hx_block ?_ | refine hw_tt ?_ | refine hw_ff ?_ | refine hw_iT ?_ | refine hw_iF ?_ | refine hw_skip ?_ | refine hw_ret ?_ | refine hw_exit ?_ | refine hx_then_ret ?_ | refine hx_block_ret ?_ | refine hx_then_exit ?_ | refine hx_block_here ?_ | refine hx_far ?_ | refine hx_any ?_ | (apply ha_end; decide +kernel))
  refine hw_if rfl (fun hlt => ?_) (fun hge => ?_)
  · have hk2 : k < xs.length := by omega
    have hc := hx.get k hk2
    rw [findI_step _ _ _ hk2] at hinv
    have hcall : ∀ w', Mem w [] w' → Ret Try.prog f (.int .i64 (xs.getD k 0) :: caps) w' (.bool (p (xs.getD k 0))) := fun w' hm => hf w' hm.below k hk2
    rcases Bool.eq_false_or_eq_true (p (xs.getD k 0)) with hp | hp <;> rw [hp] at hcall
    · repeat' (first | refine hl_a ?_ | refine hq_a ?_ | refine hl_nil ?_ | refine hq_nil ?_ | refine hq_ga ?_ | refine hq_sk ?_ | refine hq_su ?_ | refine hq_gT ?_ | refine hq_gF ?_ | refine hq_gd (fun h => ?_) (fun h => ?_) | refine hl_ga ?_ | refine hl_sk ?_ | refine hl_su ?_ | refine hl_gT ?_ | refine hl_gF ?_ | refine hl_gd (fun h => ?_) (fun h => ?_) | refine hx_next ?_ | refine hw_seq ?_ | refine hw_region ?_ | refine hw_dr ?_ | refine hw_block ?_ | refine hx_block ?_ | refine hw_tt ?_ | refine hw_ff ?_ | refine hw_iT ?_ | refine hw_iF ?_ | refine hw_skip ?_ | refine hw_ret ?_ | refine hw_exit ?_ | refine hx_then_ret ?_ | refine hx_block_ret ?_ | refine hx_then_exit ?_ | refine hx_block_here ?_ | refine hx_far ?_ | refine hx_any ?_ | (apply ha_end; decide +kernel))
      first | refine hl_q (by decide) (q_callv (vs := [.int .i64 (xs.getD k 0)]) rfl rfl hcall) ?_ | refine hq_q (by decide) (q_callv (vs := [.int .i64 (xs.getD k 0)]) rfl rfl hcall) ?_ | refine hl_g _ _ rfl rfl (by decide) (q_callv (vs := [.int .i64 (xs.getD k 0)]) rfl rfl hcall) ?_ | refine hq_g _ _ rfl rfl (by decide) (q_callv (vs := [.int .i64 (xs.getD k 0)]) rfl rfl hcall) ?_
      repeat' (first | refine hl_a ?_ | refine hq_a ?_ | refine hl_nil ?_ | refine hq_nil ?_ | refine hq_ga ?_ | refine hq_sk ?_ | refine hq_su ?_ | refine hq_gT ?_ | refine hq_gF ?_ | refine hq_gd (fun h => ?_) (fun h => ?_) | refine hl_ga ?_ | refine hl_sk ?_ | refine hl_su ?_ | refine hl_gT ?_ | refine hl_gF ?_ | refine hl_gd (fun h => ?_) (fun h => ?_) | refine hx_next ?_ | refine hw_seq ?_ | refine hw_region ?_ | refine hw_dr ?_ | refine hw_block ?_ | refine hx_block ?_ | refine hw_tt ?_ | refine hw_ff ?_ | refine hw_iT ?_ | refine hw_iF ?_ | refine hw_skip ?_ | refine hw_ret ?_ | refine hw_exit ?_ | refine hx_then_ret ?_ | refine hx_block_ret ?_ | refine hx_then_exit ?_ | refine hx_block_here ?_ | refine hx_far ?_ | refine hx_any ?_ | (apply ha_end; decide +kernel))
      refine hx_ret1 rfl rfl (fun w hm => ⟨?_, hm.none⟩)
      rw [if_pos hp] at hinv; rw [hinv]
    · repeat' (first | refine hl_a ?_ | refine hq_a ?_ | refine hl_nil ?_ | refine hq_nil ?_ | refine hq_ga ?_ | refine hq_sk ?_ | refine hq_su ?_ | refine hq_gT ?_ | refine hq_gF ?_ | refine hq_gd (fun h => ?_) (fun h => ?_) | refine hl_ga ?_ | refine hl_sk ?_ | refine hl_su ?_ | refine hl_gT ?_ | refine hl_gF ?_ | refine hl_gd (fun h => ?_) (fun h => ?_) | refine hx_next ?_ | refine hw_seq ?_ | refine hw_region ?_ | refine hw_dr ?_ | refine hw_block ?_ | refine hx_block ?_ | refine hw_tt ?_ | refine hw_ff ?_ | refine hw_iT ?_ | refine hw_iF ?_ | refine hw_skip ?_ | refine hw_ret ?_ | refine hw_exit ?_ | refine hx_then_ret ?_ | refine hx_block_ret ?_ | refine hx_then_exit ?_ | refine hx_block_here ?_ | refine hx_far ?_ | refine hx_any ?_ | (apply ha_end; decide +kernel))
      first | refine hl_q (by decide) (q_callv (vs := [.int .i64 (xs.getD k 0)]) rfl rfl hcall) ?_ | refine hq_q (by decide) (q_callv (vs := [.int .i64 (xs.getD k 0)]) rfl rfl hcall) ?_ | refine hl_g _ _ rfl rfl (by decide) (q_callv (vs := [.int .i64 (xs.getD k 0)]) rfl rfl hcall) ?_ | refine hq_g _ _ rfl rfl (by decide) (q_callv (vs := [.int .i64 (xs.getD k 0)]) rfl rfl hcall) ?_
      repeat' (first | refine hl_a ?_ | refine hq_a ?_ | refine hl_nil ?_ | refine hq_nil ?_ | refine hq_ga ?_ | refine hq_sk ?_ | refine hq_su ?_ | refine hq_gT ?_ | refine hq_gF ?_ | refine hq_gd (fun h => ?_) (fun h => ?_) | refine hl_ga ?_ | refine hl_sk ?_ | refine hl_su ?_ | refine hl_gT ?_ | refine hl_gF ?_ | refine hl_gd (fun h => ?_) (fun h => ?_) | refine hx_next ?_ | refine hw_seq ?_ | refine hw_region ?_ | refine hw_dr ?_ | refine hw_block ?_ | refine hx_block ?_ | refine hw_tt ?_ | refine hw_ff ?_ | refine hw_iT ?_ | refine hw_iF ?_ | refine hw_skip ?_ | refine hw_ret ?_ | refine hw_exit ?_ | refine hx_then_ret ?_ | refine hx_block_ret ?_ | refine hx_then_exit ?_ | refine hx_block_here ?_ | refine hx_far ?_ | refine hx_any ?_ | (apply ha_end; decide +kernel))
      refine hx_round ⟨rfl, k + 1, hk2, rfl, rfl, by rw [← hinv, if_neg (by rw [hp]; exact Bool.false_ne_true)]⟩ (by omega) ⟨rfl, rfl, rfl, rfl, trivial⟩
  · repeat' (first | refine hl_a ?_ | refine hq_a ?_ | refine hl_nil ?_ | refine hq_nil ?_ | refine hq_ga ?_ | refine hq_sk ?_ | refine hq_su ?_ | refine hq_gT ?_ | refine hq_gF ?_ | refine hq_gd (fun h => ?_) (fun h => ?_) | refine hl_ga ?_ | refine hl_sk ?_ | refine hl_su ?_ | refine hl_gT ?_ | refine hl_gF ?_ | refine hl_gd (fun h => ?_) (fun h => ?_) | refine hx_next ?_ | refine hw_seq ?_ | refine hw_region ?_ | refine hw_dr ?_ | refine hw_block ?_ | refine hx_block ?_ | refine hw_tt ?_ | refine hw_ff ?_ | refine hw_iT ?_ | refine hw_iF ?_ | refine hw_skip ?_ | refine hw_ret ?_ | refine hw_exit ?_ | refine hx_then_ret ?_ | refine hx_block_ret ?_ | refine hx_then_exit ?_ | refine hx_block_here ?_ | refine hx_far ?_ | refine hx_any ?_ | (apply ha_end; decide +kernel))
    refine hx_ret1 rfl rfl (fun w hm => ⟨?_, hm.none⟩)
    rw [findI_end _ _ _ (by omega)] at hinv; rw [hinv]
theorem containsFunc_c (f : FuncId) [hB : Body Try.prog f] (caps : List Value) (v : Value) (xs : List Int) (p : Int → Bool) (w : World) (hx : RdE (Value.int .i64) 0 w v xs)
    (hf : ∀ w', Below w.heap.size w w' → ∀ i, i < xs.length → Ret Try.prog f (.int .i64 (xs.getD i 0) :: caps) w' (.bool (p (xs.getD i 0)))) :
    Ret Try.prog 63 [v, .func (.func f) #[] caps.toArray] w (.bool (decide (∃ x ∈ xs, p x = true))) := by
  refine calls_hw Try.func63 Try.ntmps63 rfl rfl ?_
  repeat' (first | refine hl_a ?_ | refine hq_a ?_ | refine hl_nil ?_ | refine hq_nil ?_ | refine hq_ga ?_ | refine hq_sk ?_ | refine hq_su ?_ | refine hq_gT ?_ | refine hq_gF ?_ | refine hq_gd (fun h => ?_) (fun h => ?_) | refine hl_ga ?_ | refine hl_sk ?_ | refine hl_su ?_ | refine hl_gT ?_ | refine hl_gF ?_ | refine hl_gd (fun h => ?_) (fun h => ?_) | refine hx_next ?_ | refine hw_seq ?_ | refine hw_region ?_ | refine hw_dr ?_ | refine hw_block ?_ | refine hx_block ?_ | refine hw_tt ?_ | refine hw_ff ?_ | refine hw_iT ?_ | refine hw_iF ?_ | refine hw_skip ?_ | refine hw_ret ?_ | refine hw_exit ?_ | refine hx_then_ret ?_ | refine hx_block_ret ?_ | refine hx_then_exit ?_ | refine hx_block_here ?_ | refine hx_far ?_ | refine hx_any ?_ | (apply ha_end; decide +kernel))
  first | refine hl_q (by decide) (q_call (fun w hm => indexFunc_c f caps v xs p w (hx.up hm.below) (fun w' hb => hf w' (hm.below.trans (hb.mono hm.below.size)))) rfl) ?_ | refine hq_q (by decide) (q_call (fun w hm => indexFunc_c f caps v xs p w (hx.up hm.below) (fun w' hb => hf w' (hm.below.trans (hb.mono hm.below.size)))) rfl) ?_ | refine hl_g _ _ rfl rfl (by decide) (q_call (fun w hm => indexFunc_c f caps v xs p w (hx.up hm.below) (fun w' hb => hf w' (hm.below.trans (hb.mono hm.below.size)))) rfl) ?_ | refine hq_g _ _ rfl rfl (by decide) (q_call (fun w hm => indexFunc_c f caps v xs p w (hx.up hm.below) (fun w' hb => hf w' (hm.below.trans (hb.mono hm.below.size)))) rfl) ?_
  repeat' (first | refine hl_a ?_ | refine hq_a ?_ | refine hl_nil ?_ | refine hq_nil ?_ | refine hq_ga ?_ | refine hq_sk ?_ | refine hq_su ?_ | refine hq_gT ?_ | refine hq_gF ?_ | refine hq_gd (fun h => ?_) (fun h => ?_) | refine hl_ga ?_ | refine hl_sk ?_ | refine hl_su ?_ | refine hl_gT ?_ | refine hl_gF ?_ | refine hl_gd (fun h => ?_) (fun h => ?_) | refine hx_next ?_ | refine hw_seq ?_ | refine hw_region ?_ | refine hw_dr ?_ | refine hw_block ?_ | refine hx_block ?_ | refine hw_tt ?_ | refine hw_ff ?_ | refine hw_iT ?_ | refine hw_iF ?_ | refine hw_skip ?_ | refine hw_ret ?_ | refine hw_exit ?_ | refine hx_then_ret ?_ | refine hx_block_ret ?_ | refine hx_then_exit ?_ | refine hx_block_here ?_ | refine hx_far ?_ | refine hx_any ?_ | (apply ha_end; decide +kernel))
  refine hx_ret1 rfl rfl (fun w hm => ⟨?_, hm.none⟩)
  have h := findI_ge p xs 0
  simp only [h]

theorem dec_true {p : Prop} {dp : Decidable p} (h : p) : some (Value.bool true) = some (Value.bool (@decide p dp)) := by rw [decide_eq_true h]
theorem dec_false {p : Prop} {dp : Decidable p} (h : ¬ p) : some (Value.bool false) = some (Value.bool (@decide p dp)) := by rw [decide_eq_false h]
/-- In which state a run is. -/
def stAt (xss : List (List Int)) (s : Int) (ds : List Int) : Nat → Int
  | 0 => s
  | k + 1 => stepTo xss (stAt xss s ds k) (ds.getD k 0)
structure RunOk (st tot : Int) (s : Int) (ds : List Int) : Prop where
  s0 : 0 ≤ s ∧ s ≤ st - 1
  len : ds.length ≤ 200
  ds : ∀ i, i < ds.length → 0 ≤ ds.getD i 0 ∧ ds.getD i 0 ≤ tot - 1
noncomputable instance (st tot s : Int) (ds : List Int) : Decidable (RunOk st tot s ds) := Classical.propDecidable _
theorem stAt_ok {st tot s : Int} {xss : List (List Int)} {ds : List Int} (hv : Valid st tot xss) (h : RunOk st tot s ds) : ∀ k, k ≤ ds.length → 0 ≤ stAt xss s ds k ∧ stAt xss s ds k ≤ st - 1
  | 0, _ => h.s0
  | k + 1, hk => (stepTo_ok hv _ _ (stAt_ok hv h k (by omega)) (h.ds k (by omega))).2
noncomputable def runXs (st tot : Int) (xss : List (List Int)) (s : Int) (ds : List Int) : List Int := if Valid st tot xss ∧ RunOk st tot s ds then tab (ds.length + 1) (stAt xss s ds) else []
noncomputable def runC (st tot : Int) (xss : List (List Int)) (s : Int) (ds : List Int) : Int := if Valid st tot xss then if RunOk st tot s ds then 0 else 2 else 1
theorem runXs_small (st tot : Int) (xss : List (List Int)) (s : Int) (ds : List Int) : (runXs st tot xss s ds).length ≤ 1048576 := by
  unfold runXs
  split
  · rename_i h; have := h.2.len; rw [tab_length]; omega
  · simp
theorem lsErr (e : TypeId) (c : Int) {v : Value} {rs : List Res} (hv : SlOk v 0) (h : rs = [rE e (Value.int .i64) v []]) : LsOut e [] c (.tuple #[v, .int .i64 c]) rs := ⟨v, rfl, h, hv⟩

theorem run1_c {p : Addr} {st tot : Int} {v : Value} {xss : List (List Int)} {row : Nat → Value} {w : World} (d : Int) (hp : PtC w p st tot v xss row) (hv : Valid st tot xss) :
    Ret Try.prog 64 [.int .i64 d, .pointer (some p)] w (.bool (decide (¬ (0 ≤ d ∧ d ≤ tot - 1)))) := by
  refine calls_hw Try.func64 Try.ntmps64 rfl rfl ?_
  obtain ⟨h0, h1, h2, hr⟩ := hp
  obtain ⟨i1, i2, i3, i4⟩ := i64_valid hv
  have hl : ∀ rs : List Res, ∀ (i : Nat) (u : Value), (#[.int .i64 st, .int .i64 tot, v] : Array Value)[i]? = some u → Ld w rs (p.add i) u := fun rs i u hu => by
    match i, hu with
    | 0, hu => cases hu; exact ld_base h0
    | 1, hu => cases hu; exact ld_base h1
    | 2, hu => cases hu; exact ld_base h2
    | i + 3, hu => simp at hu
  repeat' (first | refine hl_a ?_ | refine hq_a ?_ | refine hl_nil ?_ | refine hq_nil ?_ | refine hq_ga ?_ | refine hq_sk ?_ | refine hq_su ?_ | refine hq_gT ?_ | refine hq_gF ?_ | refine hq_gd (fun h => ?_) (fun h => ?_) | refine hl_ga ?_ | refine hl_sk ?_ | refine hl_su ?_ | refine hl_gT ?_ | refine hl_gF ?_ | refine hl_gd (fun h => ?_) (fun h => ?_) | refine hx_next ?_ | refine hw_seq ?_ | refine hw_region ?_ | refine hw_dr ?_ | refine hw_block ?_ | refine hx_block ?_ | refine hw_tt ?_ | refine hw_ff ?_ | refine hw_iT ?_ | refine hw_iF ?_ | refine hw_skip ?_ | refine hw_ret ?_ | refine hw_exit ?_ | refine hx_then_ret ?_ | refine hx_block_ret ?_ | refine hx_then_exit ?_ | refine hx_block_here ?_ | refine hx_far ?_ | refine hx_any ?_ | (apply ha_end; decide +kernel))
  first | refine hl_q (by decide) (q_loadA (cs := #[.int .i64 st, .int .i64 tot, v]) rfl rfl (hl _)) ?_ | refine hq_q (by decide) (q_loadA (cs := #[.int .i64 st, .int .i64 tot, v]) rfl rfl (hl _)) ?_ | refine hl_g _ _ rfl rfl (by decide) (q_loadA (cs := #[.int .i64 st, .int .i64 tot, v]) rfl rfl (hl _)) ?_ | refine hq_g _ _ rfl rfl (by decide) (q_loadA (cs := #[.int .i64 st, .int .i64 tot, v]) rfl rfl (hl _)) ?_
  repeat' (first | refine hl_a ?_ | refine hq_a ?_ | refine hl_nil ?_ | refine hq_nil ?_ | refine hq_ga ?_ | refine hq_sk ?_ | refine hq_su ?_ | refine hq_gT ?_ | refine hq_gF ?_ | refine hq_gd (fun h => ?_) (fun h => ?_) | refine hl_ga ?_ | refine hl_sk ?_ | refine hl_su ?_ | refine hl_gT ?_ | refine hl_gF ?_ | refine hl_gd (fun h => ?_) (fun h => ?_) | refine hx_next ?_ | refine hw_seq ?_ | refine hw_region ?_ | refine hw_dr ?_ | refine hw_block ?_ | refine hx_block ?_ | refine hw_tt ?_ | refine hw_ff ?_ | refine hw_iT ?_ | refine hw_iF ?_ | refine hw_skip ?_ | refine hw_ret ?_ | refine hw_exit ?_ | refine hx_then_ret ?_ | refine hx_block_ret ?_ | refine hx_then_exit ?_ | refine hx_block_here ?_ | refine hx_far ?_ | refine hx_any ?_ | (apply ha_end; decide +kernel))
  first | refine hl_q (by decide) (q_call (fun w hm => isDraw_c st tot v d w i2 i4) rfl) ?_ | refine hq_q (by decide) (q_call (fun w hm => isDraw_c st tot v d w i2 i4) rfl) ?_ | refine hl_g _ _ rfl rfl (by decide) (q_call (fun w hm => isDraw_c st tot v d w i2 i4) rfl) ?_ | refine hq_g _ _ rfl rfl (by decide) (q_call (fun w hm => isDraw_c st tot v d w i2 i4) rfl) ?_
  repeat' (first | refine hl_a ?_ | refine hq_a ?_ | refine hl_nil ?_ | refine hq_nil ?_ | refine hq_ga ?_ | refine hq_sk ?_ | refine hq_su ?_ | refine hq_gT ?_ | refine hq_gF ?_ | refine hq_gd (fun h => ?_) (fun h => ?_) | refine hl_ga ?_ | refine hl_sk ?_ | refine hl_su ?_ | refine hl_gT ?_ | refine hl_gF ?_ | refine hl_gd (fun h => ?_) (fun h => ?_) | refine hx_next ?_ | refine hw_seq ?_ | refine hw_region ?_ | refine hw_dr ?_ | refine hw_block ?_ | refine hx_block ?_ | refine hw_tt ?_ | refine hw_ff ?_ | refine hw_iT ?_ | refine hw_iF ?_ | refine hw_skip ?_ | refine hw_ret ?_ | refine hw_exit ?_ | refine hx_then_ret ?_ | refine hx_block_ret ?_ | refine hx_then_exit ?_ | refine hx_block_here ?_ | refine hx_far ?_ | refine hx_any ?_ | (apply ha_end; decide +kernel))
  exact hx_ret1 rfl rfl (fun w hm => ⟨rfl, hm.none⟩)
set_option maxHeartbeats 1000000 in
theorem implRunByDraws_c (st tot : Int) (v : Value) (xss : List (List Int)) (row : Nat → Value) (s : Int) (vo : Value) (ds : List Int) (w : World) (hr : RdS (Value.int .i64) 0 w v xss row) (hs : I64 s) (hx : RdE (Value.int .i64) 0 w vo ds) :
    Gives Try.prog 23 [chV st tot v, .int .i64 s, vo] w (LsOut 2 (runXs st tot xss s ds) (runC st tot xss s ds)) := by
  refine calls_hw Try.func23 Try.ntmps23 rfl rfl ?_
  have hxl := hx.sl
  have hle := hxl.le
  repeat' (first | refine hl_a ?_ | refine hq_a ?_ | refine hl_nil ?_ | refine hq_nil ?_ | refine hq_ga ?_ | refine hq_sk ?_ | refine hq_su ?_ | refine hq_gT ?_ | refine hq_gF ?_ | refine hq_gd (fun h => ?_) (fun h => ?_) | refine hl_ga ?_ | refine hl_sk ?_ | refine hl_su ?_ | refine hl_gT ?_ | refine hl_gF ?_ | refine hl_gd (fun h => ?_) (fun h => ?_) | refine hx_next ?_ | refine hw_seq ?_ | refine hw_region ?_ | refine hw_dr ?_ | refine hw_block ?_ | refine hx_block ?_ | refine hw_tt ?_ | refine hw_ff ?_ | refine hw_iT ?_ | refine hw_iF ?_ | refine hw_skip ?_ | refine hw_ret ?_ | refine hw_exit ?_ | refine hx_then_ret ?_ | refine hx_block_ret ?_ | refine hx_then_exit ?_ | refine hx_block_here ?_ | refine hx_far ?_ | refine hx_any ?_ | (apply ha_end; decide +kernel))
  refine hl_box (by decide) rfl (fun b => ?_)
  repeat' (first | refine hl_a ?_ | refine hq_a ?_ | refine hl_nil ?_ | refine hq_nil ?_ | refine hq_ga ?_ | refine hq_sk ?_ | refine hq_su ?_ | refine hq_gT ?_ | refine hq_gF ?_ | refine hq_gd (fun h => ?_) (fun h => ?_) | refine hl_ga ?_ | refine hl_sk ?_ | refine hl_su ?_ | refine hl_gT ?_ | refine hl_gF ?_ | refine hl_gd (fun h => ?_) (fun h => ?_) | refine hx_next ?_ | refine hw_seq ?_ | refine hw_region ?_ | refine hw_dr ?_ | refine hw_block ?_ | refine hx_block ?_ | refine hw_tt ?_ | refine hw_ff ?_ | refine hw_iT ?_ | refine hw_iF ?_ | refine hw_skip ?_ | refine hw_ret ?_ | refine hw_exit ?_ | refine hx_then_ret ?_ | refine hx_block_ret ?_ | refine hx_then_exit ?_ | refine hx_block_here ?_ | refine hx_far ?_ | refine hx_any ?_ | (apply ha_end; decide +kernel))
  first | refine hl_q (by decide) (q_call (fun w hm => implValidChain_c st tot v xss row w (hr.up hm.below)) rfl) ?_ | refine hq_q (by decide) (q_call (fun w hm => implValidChain_c st tot v xss row w (hr.up hm.below)) rfl) ?_ | refine hl_g _ _ rfl rfl (by decide) (q_call (fun w hm => implValidChain_c st tot v xss row w (hr.up hm.below)) rfl) ?_ | refine hq_g _ _ rfl rfl (by decide) (q_call (fun w hm => implValidChain_c st tot v xss row w (hr.up hm.below)) rfl) ?_
  repeat' (first | refine hl_a ?_ | refine hq_a ?_ | refine hl_nil ?_ | refine hq_nil ?_ | refine hq_ga ?_ | refine hq_sk ?_ | refine hq_su ?_ | refine hq_gT ?_ | refine hq_gF ?_ | refine hq_gd (fun h => ?_) (fun h => ?_) | refine hl_ga ?_ | refine hl_sk ?_ | refine hl_su ?_ | refine hl_gT ?_ | refine hl_gF ?_ | refine hl_gd (fun h => ?_) (fun h => ?_) | refine hx_next ?_ | refine hw_seq ?_ | refine hw_region ?_ | refine hw_dr ?_ | refine hw_block ?_ | refine hx_block ?_ | refine hw_tt ?_ | refine hw_ff ?_ | refine hw_iT ?_ | refine hw_iF ?_ | refine hw_skip ?_ | refine hw_ret ?_ | refine hw_exit ?_ | refine hx_then_ret ?_ | refine hx_block_ret ?_ | refine hx_then_exit ?_ | refine hx_block_here ?_ | refine hx_far ?_ | refine hx_any ?_ | (apply ha_end; decide +kernel))
  refine hw_if rfl (fun h => ?_) (fun h => ?_)
  · repeat' (first | refine hl_a ?_ | refine hq_a ?_ | refine hl_nil ?_ | refine hq_nil ?_ | refine hq_ga ?_ | refine hq_sk ?_ | refine hq_su ?_ | refine hq_gT ?_ | refine hq_gF ?_ | refine hq_gd (fun h => ?_) (fun h => ?_) | refine hl_ga ?_ | refine hl_sk ?_ | refine hl_su ?_ | refine hl_gT ?_ | refine hl_gF ?_ | refine hl_gd (fun h => ?_) (fun h => ?_) | refine hx_next ?_ | refine hw_seq ?_ | refine hw_region ?_ | refine hw_dr ?_ | refine hw_block ?_ | refine hx_block ?_ | refine hw_tt ?_ | refine hw_ff ?_ | refine hw_iT ?_ | refine hw_iF ?_ | refine hw_skip ?_ | refine hw_ret ?_ | refine hw_exit ?_ | refine hx_then_ret ?_ | refine hx_block_ret ?_ | refine hx_then_exit ?_ | refine hx_block_here ?_ | refine hx_far ?_ | refine hx_any ?_ | (apply ha_end; decide +kernel))
    exact hx_ret2 rfl rfl rfl (fun w hm => ⟨_, _, rfl, hm.none.nilE 2 (Value.int .i64), by rw [runXs, runC, if_neg (fun e => h e.1), if_neg h]; exact lsErr _ 1 nil_ok rfl⟩)
  have hv := Classical.not_not.1 h
  obtain ⟨i1, i2, i3, i4⟩ := i64_valid hv
  have hbad : ¬ RunOk st tot s ds → runXs st tot xss s ds = [] ∧ runC st tot xss s ds = 2 := fun hn => ⟨by rw [runXs, if_neg (fun e => hn e.2)], by rw [runC, if_pos hv, if_neg hn]⟩
  repeat (first | refine hx_next ?_ | refine hw_seq ?_ | refine hw_block ?_ | refine hx_block ?_ | refine hw_tt ?_ | refine hw_ff ?_ | refine hw_iT ?_ | refine hw_iF ?_ | refine hw_skip ?_)
  refine hw_regJ [(1, .int .i64 s), (2, vo), (3, .pointer (some ⟨b, 0, none⟩)), (27, .bool (decide (¬ RunOk st tot s ds)))] [rBlk b #[.int .i64 st, .int .i64 tot, v] 28] ?_ ?_
  · repeat' (first | refine hl_a ?_ | refine hq_a ?_ | refine hl_nil ?_ | refine hq_nil ?_ | refine hq_ga ?_ | refine hq_sk ?_ | refine hq_su ?_ | refine hq_gT ?_ | refine hq_gF ?_ | refine hq_gd (fun h => ?_) (fun h => ?_) | refine hl_ga ?_ | refine hl_sk ?_ | refine hl_su ?_ | refine hl_gT ?_ | refine hl_gF ?_ | refine hl_gd (fun h => ?_) (fun h => ?_) | refine hx_next ?_ | refine hw_seq ?_ | refine hw_region ?_ | refine hw_dr ?_ | refine hw_block ?_ | refine hx_block ?_ | refine hw_tt ?_ | refine hw_ff ?_ | refine hw_iT ?_ | refine hw_iF ?_ | refine hw_skip ?_ | refine hw_ret ?_ | refine hw_exit ?_ | refine hx_then_ret ?_ | refine hx_block_ret ?_ | refine hx_then_exit ?_ | refine hx_block_here ?_ | refine hx_far ?_ | refine hx_any ?_ | (apply ha_end; decide +kernel))
    first | refine hl_q (by decide) (q_call (fun w hm => isState_c st tot v s w i1 i3) rfl) ?_ | refine hq_q (by decide) (q_call (fun w hm => isState_c st tot v s w i1 i3) rfl) ?_ | refine hl_g _ _ rfl rfl (by decide) (q_call (fun w hm => isState_c st tot v s w i1 i3) rfl) ?_ | refine hq_g _ _ rfl rfl (by decide) (q_call (fun w hm => isState_c st tot v s w i1 i3) rfl) ?_
    rcases Classical.em (0 ≤ s ∧ s ≤ st - 1) with h1 | h1
    · have h1' : ¬ ¬ (0 ≤ s ∧ s ≤ st - 1) := fun e => e h1
      rcases Classical.em ((200 : Int) < (ds.length : Int)) with h2 | h2
      · repeat' (first | refine hl_a ?_ | refine hq_a ?_ | refine hl_nil ?_ | refine hq_nil ?_ | refine hq_ga ?_ | refine hq_sk ?_ | refine hq_su ?_ | refine hq_gT ?_ | refine hq_gF ?_ | refine hq_gd (fun h => ?_) (fun h => ?_) | refine hl_ga ?_ | refine hl_sk ?_ | refine hl_su ?_ | refine hl_gT ?_ | refine hl_gF ?_ | refine hl_gd (fun h => ?_) (fun h => ?_) | refine hx_next ?_ | refine hw_seq ?_ | refine hw_region ?_ | refine hw_dr ?_ | refine hw_block ?_ | refine hx_block ?_ | refine hw_tt ?_ | refine hw_ff ?_ | refine hw_iT ?_ | refine hw_iF ?_ | refine hw_skip ?_ | refine hw_ret ?_ | refine hw_exit ?_ | refine hx_then_ret ?_ | refine hx_block_ret ?_ | refine hx_then_exit ?_ | refine hx_block_here ?_ | refine hx_far ?_ | refine hx_any ?_ | (apply ha_end; decide +kernel))
        refine hx_join ⟨rfl, rfl, rfl, ?_, trivial⟩ (fun w hm => Mem.keep _ hm)
        exact dec_true (p := ¬ RunOk st tot s ds) (fun e => by have := e.len; omega)
      · repeat' (first | refine hl_a ?_ | refine hq_a ?_ | refine hl_nil ?_ | refine hq_nil ?_ | refine hq_ga ?_ | refine hq_sk ?_ | refine hq_su ?_ | refine hq_gT ?_ | refine hq_gF ?_ | refine hq_gd (fun h => ?_) (fun h => ?_) | refine hl_ga ?_ | refine hl_sk ?_ | refine hl_su ?_ | refine hl_gT ?_ | refine hl_gF ?_ | refine hl_gd (fun h => ?_) (fun h => ?_) | refine hx_next ?_ | refine hw_seq ?_ | refine hw_region ?_ | refine hw_dr ?_ | refine hw_block ?_ | refine hx_block ?_ | refine hw_tt ?_ | refine hw_ff ?_ | refine hw_iT ?_ | refine hw_iF ?_ | refine hw_skip ?_ | refine hw_ret ?_ | refine hw_exit ?_ | refine hx_then_ret ?_ | refine hx_block_ret ?_ | refine hx_then_exit ?_ | refine hx_block_here ?_ | refine hx_far ?_ | refine hx_any ?_ | (apply ha_end; decide +kernel))
        first | refine hl_q (by decide) (q_fn [.pointer (some ⟨b, 0, none⟩)] rfl) ?_ | refine hq_q (by decide) (q_fn [.pointer (some ⟨b, 0, none⟩)] rfl) ?_ | refine hl_g _ _ rfl rfl (by decide) (q_fn [.pointer (some ⟨b, 0, none⟩)] rfl) ?_ | refine hq_g _ _ rfl rfl (by decide) (q_fn [.pointer (some ⟨b, 0, none⟩)] rfl) ?_
        first | refine hl_q (by decide) (q_call (fun w hm => containsFunc_c 64 [.pointer (some ⟨b, 0, none⟩)] vo ds (fun d => decide (¬ (0 ≤ d ∧ d ≤ tot - 1))) w (hx.up hm.below) (fun w' hb i hi => run1_c _ ((ptC_blk 0 rfl hm (hr.up hm.below)).up hb) hv)) rfl) ?_ | refine hq_q (by decide) (q_call (fun w hm => containsFunc_c 64 [.pointer (some ⟨b, 0, none⟩)] vo ds (fun d => decide (¬ (0 ≤ d ∧ d ≤ tot - 1))) w (hx.up hm.below) (fun w' hb i hi => run1_c _ ((ptC_blk 0 rfl hm (hr.up hm.below)).up hb) hv)) rfl) ?_ | refine hl_g _ _ rfl rfl (by decide) (q_call (fun w hm => containsFunc_c 64 [.pointer (some ⟨b, 0, none⟩)] vo ds (fun d => decide (¬ (0 ≤ d ∧ d ≤ tot - 1))) w (hx.up hm.below) (fun w' hb i hi => run1_c _ ((ptC_blk 0 rfl hm (hr.up hm.below)).up hb) hv)) rfl) ?_ | refine hq_g _ _ rfl rfl (by decide) (q_call (fun w hm => containsFunc_c 64 [.pointer (some ⟨b, 0, none⟩)] vo ds (fun d => decide (¬ (0 ≤ d ∧ d ≤ tot - 1))) w (hx.up hm.below) (fun w' hb i hi => run1_c _ ((ptC_blk 0 rfl hm (hr.up hm.below)).up hb) hv)) rfl) ?_
        repeat' (first | refine hl_a ?_ | refine hq_a ?_ | refine hl_nil ?_ | refine hq_nil ?_ | refine hq_ga ?_ | refine hq_sk ?_ | refine hq_su ?_ | refine hq_gT ?_ | refine hq_gF ?_ | refine hq_gd (fun h => ?_) (fun h => ?_) | refine hl_ga ?_ | refine hl_sk ?_ | refine hl_su ?_ | refine hl_gT ?_ | refine hl_gF ?_ | refine hl_gd (fun h => ?_) (fun h => ?_) | refine hx_next ?_ | refine hw_seq ?_ | refine hw_region ?_ | refine hw_dr ?_ | refine hw_block ?_ | refine hx_block ?_ | refine hw_tt ?_ | refine hw_ff ?_ | refine hw_iT ?_ | refine hw_iF ?_ | refine hw_skip ?_ | refine hw_ret ?_ | refine hw_exit ?_ | refine hx_then_ret ?_ | refine hx_block_ret ?_ | refine hx_then_exit ?_ | refine hx_block_here ?_ | refine hx_far ?_ | refine hx_any ?_ | (apply ha_end; decide +kernel))
        refine hx_join ⟨rfl, rfl, rfl, ?_, trivial⟩ (fun w hm => Mem.keep _ hm)
        refine dec_congr (p := ∃ x ∈ ds, (fun d => decide (¬ (0 ≤ d ∧ d ≤ tot - 1))) x = true) (q := ¬ RunOk st tot s ds) ⟨fun ⟨x, hx1, hx2⟩ e => ?_, fun e => Classical.byContradiction fun e2 => e ⟨h1, by omega, fun i hi => Classical.byContradiction fun e3 => e2 ⟨_, getD_mem hi, decide_eq_true e3⟩⟩⟩
        obtain ⟨i, hi, rfl⟩ := mem_getD hx1
        exact (of_decide_eq_true hx2) (e.ds i hi)
    · repeat' (first | refine hl_a ?_ | refine hq_a ?_ | refine hl_nil ?_ | refine hq_nil ?_ | refine hq_ga ?_ | refine hq_sk ?_ | refine hq_su ?_ | refine hq_gT ?_ | refine hq_gF ?_ | refine hq_gd (fun h => ?_) (fun h => ?_) | refine hl_ga ?_ | refine hl_sk ?_ | refine hl_su ?_ | refine hl_gT ?_ | refine hl_gF ?_ | refine hl_gd (fun h => ?_) (fun h => ?_) | refine hx_next ?_ | refine hw_seq ?_ | refine hw_region ?_ | refine hw_dr ?_ | refine hw_block ?_ | refine hx_block ?_ | refine hw_tt ?_ | refine hw_ff ?_ | refine hw_iT ?_ | refine hw_iF ?_ | refine hw_skip ?_ | refine hw_ret ?_ | refine hw_exit ?_ | refine hx_then_ret ?_ | refine hx_block_ret ?_ | refine hx_then_exit ?_ | refine hx_block_here ?_ | refine hx_far ?_ | refine hx_any ?_ | (apply ha_end; decide +kernel))
      refine hx_join ⟨rfl, rfl, rfl, ?_, trivial⟩ (fun w hm => Mem.keep _ hm)
      exact dec_true (p := ¬ RunOk st tot s ds) (fun e => h1 e.s0)
  repeat' (first | refine hl_a ?_ | refine hq_a ?_ | refine hl_nil ?_ | refine hq_nil ?_ | refine hq_ga ?_ | refine hq_sk ?_ | refine hq_su ?_ | refine hq_gT ?_ | refine hq_gF ?_ | refine hq_gd (fun h => ?_) (fun h => ?_) | refine hl_ga ?_ | refine hl_sk ?_ | refine hl_su ?_ | refine hl_gT ?_ | refine hl_gF ?_ | refine hl_gd (fun h => ?_) (fun h => ?_) | refine hx_next ?_ | refine hw_seq ?_ | refine hw_region ?_ | refine hw_dr ?_ | refine hw_block ?_ | refine hx_block ?_ | refine hw_tt ?_ | refine hw_ff ?_ | refine hw_iT ?_ | refine hw_iF ?_ | refine hw_skip ?_ | refine hw_ret ?_ | refine hw_exit ?_ | refine hx_then_ret ?_ | refine hx_block_ret ?_ | refine hx_then_exit ?_ | refine hx_block_here ?_ | refine hx_far ?_ | refine hx_any ?_ | (apply ha_end; decide +kernel))
  refine hw_if rfl (fun h2 => ?_) (fun h2 => ?_)
  · obtain ⟨e1, e2⟩ := hbad h2
    repeat' (first | refine hl_a ?_ | refine hq_a ?_ | refine hl_nil ?_ | refine hq_nil ?_ | refine hq_ga ?_ | refine hq_sk ?_ | refine hq_su ?_ | refine hq_gT ?_ | refine hq_gF ?_ | refine hq_gd (fun h => ?_) (fun h => ?_) | refine hl_ga ?_ | refine hl_sk ?_ | refine hl_su ?_ | refine hl_gT ?_ | refine hl_gF ?_ | refine hl_gd (fun h => ?_) (fun h => ?_) | refine hx_next ?_ | refine hw_seq ?_ | refine hw_region ?_ | refine hw_dr ?_ | refine hw_block ?_ | refine hx_block ?_ | refine hw_tt ?_ | refine hw_ff ?_ | refine hw_iT ?_ | refine hw_iF ?_ | refine hw_skip ?_ | refine hw_ret ?_ | refine hw_exit ?_ | refine hx_then_ret ?_ | refine hx_block_ret ?_ | refine hx_then_exit ?_ | refine hx_block_here ?_ | refine hx_far ?_ | refine hx_any ?_ | (apply ha_end; decide +kernel))
    exact hx_ret2 rfl rfl rfl (fun w hm => ⟨_, _, rfl, hm.none.nilE 2 (Value.int .i64), by rw [e1, e2]; exact lsErr _ 2 nil_ok rfl⟩)
  have hro := Classical.not_not.1 h2
  have hlen := hro.len
  repeat' (first | refine hl_a ?_ | refine hq_a ?_ | refine hl_nil ?_ | refine hq_nil ?_ | refine hq_ga ?_ | refine hq_sk ?_ | refine hq_su ?_ | refine hq_gT ?_ | refine hq_gF ?_ | refine hq_gd (fun h => ?_) (fun h => ?_) | refine hl_ga ?_ | refine hl_sk ?_ | refine hl_su ?_ | refine hl_gT ?_ | refine hl_gF ?_ | refine hl_gd (fun h => ?_) (fun h => ?_) | refine hx_next ?_ | refine hw_seq ?_ | refine hw_region ?_ | refine hw_dr ?_ | refine hw_block ?_ | refine hx_block ?_ | refine hw_tt ?_ | refine hw_ff ?_ | refine hw_iT ?_ | refine hw_iF ?_ | refine hw_skip ?_ | refine hw_ret ?_ | refine hw_exit ?_ | refine hx_then_ret ?_ | refine hx_block_ret ?_ | refine hx_then_exit ?_ | refine hx_block_here ?_ | refine hx_far ?_ | refine hx_any ?_ | (apply ha_end; decide +kernel))
  refine hl_build1 (by decide) rfl rfl rfl (fun b1 => ?_)
  repeat' (first | refine hl_a ?_ | refine hq_a ?_ | refine hl_nil ?_ | refine hq_nil ?_ | refine hq_ga ?_ | refine hq_sk ?_ | refine hq_su ?_ | refine hq_gT ?_ | refine hq_gF ?_ | refine hq_gd (fun h => ?_) (fun h => ?_) | refine hl_ga ?_ | refine hl_sk ?_ | refine hl_su ?_ | refine hl_gT ?_ | refine hl_gF ?_ | refine hl_gd (fun h => ?_) (fun h => ?_) | refine hx_next ?_ | refine hw_seq ?_ | refine hw_region ?_ | refine hw_dr ?_ | refine hw_block ?_ | refine hx_block ?_ | refine hw_tt ?_ | refine hw_ff ?_ | refine hw_iT ?_ | refine hw_iF ?_ | refine hw_skip ?_ | refine hw_ret ?_ | refine hw_exit ?_ | refine hx_then_ret ?_ | refine hx_block_ret ?_ | refine hx_then_exit ?_ | refine hx_block_here ?_ | refine hx_far ?_ | refine hx_any ?_ | (apply ha_end; decide +kernel))
  refine hw_loop (fun e r m => ∃ (k : Nat) (u : Value), r = [rBlk b #[.int .i64 st, .int .i64 tot, v] 28, rE 2 (Value.int .i64) u (tab (k + 1) (stAt xss s ds))] ∧ SlOk u (k + 1) ∧ k ≤ ds.length ∧ m = ds.length - k ∧ e = [(3, .pointer (some ⟨b, 0, none⟩)), (8, u), (30, vo), (31, .int .i64 (ds.length : Int)), (32, .int .i64 k)])
    ⟨0, _, rfl, lit_ok _ 1 (by decide), Nat.zero_le _, rfl, rfl⟩ ⟨rfl, rfl, rfl, rfl, rfl, trivial⟩ ?_
  rintro _ _ _ ⟨k, u, rfl, hu, hk, rfl, rfl⟩
  repeat' (first | refine hl_a ?_ | refine hq_a ?_ | refine hl_nil ?_ | refine hq_nil ?_ | refine hq_ga ?_ | refine hq_sk ?_ | refine hq_su ?_ | refine hq_gT ?_ | refine hq_gF ?_ | refine hq_gd (fun h => ?_) (fun h => ?_) | refine hl_ga ?_ | refine hl_sk ?_ | refine hl_su ?_ | refine hl_gT ?_ | refine hl_gF ?_ | refine hl_gd (fun h => ?_) (fun h => ?_) | refine hx_next ?_ | refine hw_seq ?_ | refine hw_region ?_ | refine hw_dr ?_ | refine hw_block ?_ | refine hx_block ?_ | refine hw_tt ?_ | refine hw_ff ?_ | refine hw_iT ?_ | refine hw_iF ?_ | refine hw_skip ?_ | refine hw_ret ?_ | refine hw_exit ?_ | refine hx_then_ret ?_ | refine hx_block_ret ?_ | refine hx_then_exit ?_ | refine hx_block_here ?_ | refine hx_far ?_ | refine hx_any ?_ | (apply ha_end; decide +kernel))
  refine hw_if rfl (fun hlt => ?_) (fun hge => ?_)
  · have hk2 : k < ds.length := by omega
    have hc := hx.get k hk2
    have hst := stAt_ok hv hro k hk
    have hd := hro.ds k hk2
    have hlast : k < k + 1 := by omega
    have htl : (tab (k + 1) (stAt xss s ds)).length = k + 1 := tab_length _ _
    have hld : Ld w [rBlk b #[.int .i64 st, .int .i64 tot, v] 28, rE 2 (Value.int .i64) u (tab (k + 1) (stAt xss s ds))] (vAt u k) (.int .i64 (stAt xss s ds k)) := by
      have := ld_E (w0 := w) (rs := [rBlk b #[.int .i64 st, .int .i64 tot, v] 28, rE 2 (Value.int .i64) u (tab (k + 1) (stAt xss s ds))]) (e := 2) (enc := Value.int .i64) (v := u) (xs := tab (k + 1) (stAt xss s ds)) 1 (j := k) 0 rfl (by rw [htl]; omega)
      rwa [tab_getD _ _ _ _ hlast] at this
    repeat' (first | refine hl_a ?_ | refine hq_a ?_ | refine hl_nil ?_ | refine hq_nil ?_ | refine hq_ga ?_ | refine hq_sk ?_ | refine hq_su ?_ | refine hq_gT ?_ | refine hq_gF ?_ | refine hq_gd (fun h => ?_) (fun h => ?_) | refine hl_ga ?_ | refine hl_sk ?_ | refine hl_su ?_ | refine hl_gT ?_ | refine hl_gF ?_ | refine hl_gd (fun h => ?_) (fun h => ?_) | refine hx_next ?_ | refine hw_seq ?_ | refine hw_region ?_ | refine hw_block ?_ | refine hx_block ?_ | refine hw_tt ?_ | refine hw_ff ?_ | refine hw_iT ?_ | refine hw_iF ?_ | refine hw_skip ?_ | refine hw_ret ?_ | refine hw_exit ?_ | refine hx_then_ret ?_ | refine hx_block_ret ?_ | refine hx_then_exit ?_ | refine hx_block_here ?_ | refine hx_far ?_ | refine hx_any ?_ | (apply ha_end; decide +kernel))
    refine hw_g [rBlk b #[.int .i64 st, .int .i64 tot, v] 28, rE 2 (Value.int .i64) u (tab (k + 1) (stAt xss s ds))] 11 (by kernel_rfl) ?_
    first | refine hg_t 0 ?_ | refine hg_tn 0 ?_
    first | refine hg_t 1 ?_ | refine hg_tn 1 ?_
    first | refine hg_t 2 ?_ | refine hg_tn 2 ?_
    first | refine hg_t 3 ?_ | refine hg_tn 3 ?_
    first | refine hg_t 4 ?_ | refine hg_tn 4 ?_
    first | refine hg_t 5 ?_ | refine hg_tn 5 ?_
    rw [show (((k + 1 : Nat) : Int) - 1) = (k : Int) by omega]
    first | refine hg_t 6 ?_ | refine hg_tn 6 ?_
    first | refine hg_t 7 ?_ | refine hg_tn 7 ?_
    first | refine hg_t 8 ?_ | refine hg_tn 8 ?_
    refine hg_1 9 (by decide +kernel) rfl ?_
    refine hl_q (by decide) (q_call (fun w hm => stepByDraw_c st tot v xss row _ _ w (hr.up hm.below) hv hst hd) rfl) ?_
    refine hl_nil ?_
    refine hx_hg (by first | exact fun w hm => hm.none | exact fun w hm => Mem.keep _ hm) ?_
    refine hg_1 10 (by decide +kernel) rfl ?_
    refine hl_build1 (by decide) rfl rfl rfl (fun b3 => ?_)
    refine hl_nil ?_
    refine hx_hg (by first | exact fun w hm => hm.none | exact fun w hm => Mem.keep _ hm) ?_
    refine hg_1 11 (by decide +kernel) rfl ?_
    refine hl_appE 1 2 (stepTo xss (stAt xss s ds k) (ds.getD k 0)) rfl rfl (by decide) rfl rfl rfl (by rw [htl]; omega) (by decide) (fun u' hu' => ?_)
    refine hl_nil ?_
    refine hx_hgT rfl ?_
    refine hg_1 12 (by decide +kernel) rfl ?_
    refine hl_a ?_
    refine hl_nil ?_
    refine hx_hgT rfl ?_
    refine hg_end (by decide +kernel) ?_
    repeat' (first | refine hl_a ?_ | refine hq_a ?_ | refine hl_nil ?_ | refine hq_nil ?_ | refine hq_ga ?_ | refine hq_sk ?_ | refine hq_su ?_ | refine hq_gT ?_ | refine hq_gF ?_ | refine hq_gd (fun h => ?_) (fun h => ?_) | refine hl_ga ?_ | refine hl_sk ?_ | refine hl_su ?_ | refine hl_gT ?_ | refine hl_gF ?_ | refine hl_gd (fun h => ?_) (fun h => ?_) | refine hx_next ?_ | refine hw_seq ?_ | refine hw_region ?_ | refine hw_block ?_ | refine hx_block ?_ | refine hw_tt ?_ | refine hw_ff ?_ | refine hw_iT ?_ | refine hw_iF ?_ | refine hw_skip ?_ | refine hw_ret ?_ | refine hw_exit ?_ | refine hx_then_ret ?_ | refine hx_block_ret ?_ | refine hx_then_exit ?_ | refine hx_block_here ?_ | refine hx_far ?_ | refine hx_any ?_ | (apply ha_end; decide +kernel))
    refine hx_mem (fun w hm => Mem.keep [_, _] hm) ?_
    refine hx_round ⟨k + 1, u', ?_, ?_, hk2, rfl, rfl⟩ (by omega) ⟨rfl, rfl, rfl, rfl, rfl, trivial⟩
    · rw [tab_succ (k + 1)]; rfl
    · simpa [htl] using hu'
  · have e : k = ds.length := by omega
    subst e
    repeat' (first | refine hl_a ?_ | refine hq_a ?_ | refine hl_nil ?_ | refine hq_nil ?_ | refine hq_ga ?_ | refine hq_sk ?_ | refine hq_su ?_ | refine hq_gT ?_ | refine hq_gF ?_ | refine hq_gd (fun h => ?_) (fun h => ?_) | refine hl_ga ?_ | refine hl_sk ?_ | refine hl_su ?_ | refine hl_gT ?_ | refine hl_gF ?_ | refine hl_gd (fun h => ?_) (fun h => ?_) | refine hx_next ?_ | refine hw_seq ?_ | refine hw_region ?_ | refine hw_dr ?_ | refine hw_block ?_ | refine hx_block ?_ | refine hw_tt ?_ | refine hw_ff ?_ | refine hw_iT ?_ | refine hw_iF ?_ | refine hw_skip ?_ | refine hw_ret ?_ | refine hw_exit ?_ | refine hx_then_ret ?_ | refine hx_block_ret ?_ | refine hx_then_exit ?_ | refine hx_block_here ?_ | refine hx_far ?_ | refine hx_any ?_ | (apply ha_end; decide +kernel))
    exact hx_ret2 rfl rfl rfl (fun w hm => ⟨_, _, rfl, hm.lone 1 rfl, by rw [runXs, runC, if_pos ⟨hv, hro⟩, if_pos hv, if_pos hro]; exact ⟨u, rfl, rfl, by rw [tab_length]; exact hu⟩⟩)
set_option maxHeartbeats 1000000 in
theorem specRunByDraws_c (st tot : Int) (v : Value) (xss : List (List Int)) (row : Nat → Value) (s : Int) (vo : Value) (ds : List Int) (w : World) (hr : RdS (Value.int .i64) 0 w v xss row) (hs : I64 s) (hx : RdE (Value.int .i64) 0 w vo ds) :
    Gives Try.prog 21 [chV st tot v, .int .i64 s, vo] w (LsOut 2 (runXs st tot xss s ds) (runC st tot xss s ds)) := by
  refine calls_hw Try.func21 Try.ntmps21 rfl rfl ?_
  have hxl := hx.sl
  have hle := hxl.le
  repeat' (first | refine hl_a ?_ | refine hq_a ?_ | refine hl_nil ?_ | refine hq_nil ?_ | refine hq_ga ?_ | refine hq_sk ?_ | refine hq_su ?_ | refine hq_gT ?_ | refine hq_gF ?_ | refine hq_gd (fun h => ?_) (fun h => ?_) | refine hl_ga ?_ | refine hl_sk ?_ | refine hl_su ?_ | refine hl_gT ?_ | refine hl_gF ?_ | refine hl_gd (fun h => ?_) (fun h => ?_) | refine hx_next ?_ | refine hw_seq ?_ | refine hw_region ?_ | refine hw_dr ?_ | refine hw_block ?_ | refine hx_block ?_ | refine hw_tt ?_ | refine hw_ff ?_ | refine hw_iT ?_ | refine hw_iF ?_ | refine hw_skip ?_ | refine hw_ret ?_ | refine hw_exit ?_ | refine hx_then_ret ?_ | refine hx_block_ret ?_ | refine hx_then_exit ?_ | refine hx_block_here ?_ | refine hx_far ?_ | refine hx_any ?_ | (apply ha_end; decide +kernel))
  refine hl_box (by decide) rfl (fun b => ?_)
  repeat' (first | refine hl_a ?_ | refine hq_a ?_ | refine hl_nil ?_ | refine hq_nil ?_ | refine hq_ga ?_ | refine hq_sk ?_ | refine hq_su ?_ | refine hq_gT ?_ | refine hq_gF ?_ | refine hq_gd (fun h => ?_) (fun h => ?_) | refine hl_ga ?_ | refine hl_sk ?_ | refine hl_su ?_ | refine hl_gT ?_ | refine hl_gF ?_ | refine hl_gd (fun h => ?_) (fun h => ?_) | refine hx_next ?_ | refine hw_seq ?_ | refine hw_region ?_ | refine hw_dr ?_ | refine hw_block ?_ | refine hx_block ?_ | refine hw_tt ?_ | refine hw_ff ?_ | refine hw_iT ?_ | refine hw_iF ?_ | refine hw_skip ?_ | refine hw_ret ?_ | refine hw_exit ?_ | refine hx_then_ret ?_ | refine hx_block_ret ?_ | refine hx_then_exit ?_ | refine hx_block_here ?_ | refine hx_far ?_ | refine hx_any ?_ | (apply ha_end; decide +kernel))
  first | refine hl_q (by decide) (q_call (fun w hm => (ptC_blk 0 rfl hm (hr.up hm.below)).ok) rfl) ?_ | refine hq_q (by decide) (q_call (fun w hm => (ptC_blk 0 rfl hm (hr.up hm.below)).ok) rfl) ?_ | refine hl_g _ _ rfl rfl (by decide) (q_call (fun w hm => (ptC_blk 0 rfl hm (hr.up hm.below)).ok) rfl) ?_ | refine hq_g _ _ rfl rfl (by decide) (q_call (fun w hm => (ptC_blk 0 rfl hm (hr.up hm.below)).ok) rfl) ?_
  repeat' (first | refine hl_a ?_ | refine hq_a ?_ | refine hl_nil ?_ | refine hq_nil ?_ | refine hq_ga ?_ | refine hq_sk ?_ | refine hq_su ?_ | refine hq_gT ?_ | refine hq_gF ?_ | refine hq_gd (fun h => ?_) (fun h => ?_) | refine hl_ga ?_ | refine hl_sk ?_ | refine hl_su ?_ | refine hl_gT ?_ | refine hl_gF ?_ | refine hl_gd (fun h => ?_) (fun h => ?_) | refine hx_next ?_ | refine hw_seq ?_ | refine hw_region ?_ | refine hw_dr ?_ | refine hw_block ?_ | refine hx_block ?_ | refine hw_tt ?_ | refine hw_ff ?_ | refine hw_iT ?_ | refine hw_iF ?_ | refine hw_skip ?_ | refine hw_ret ?_ | refine hw_exit ?_ | refine hx_then_ret ?_ | refine hx_block_ret ?_ | refine hx_then_exit ?_ | refine hx_block_here ?_ | refine hx_far ?_ | refine hx_any ?_ | (apply ha_end; decide +kernel))
  refine hw_if rfl (fun h => ?_) (fun h => ?_)
  · repeat' (first | refine hl_a ?_ | refine hq_a ?_ | refine hl_nil ?_ | refine hq_nil ?_ | refine hq_ga ?_ | refine hq_sk ?_ | refine hq_su ?_ | refine hq_gT ?_ | refine hq_gF ?_ | refine hq_gd (fun h => ?_) (fun h => ?_) | refine hl_ga ?_ | refine hl_sk ?_ | refine hl_su ?_ | refine hl_gT ?_ | refine hl_gF ?_ | refine hl_gd (fun h => ?_) (fun h => ?_) | refine hx_next ?_ | refine hw_seq ?_ | refine hw_region ?_ | refine hw_dr ?_ | refine hw_block ?_ | refine hx_block ?_ | refine hw_tt ?_ | refine hw_ff ?_ | refine hw_iT ?_ | refine hw_iF ?_ | refine hw_skip ?_ | refine hw_ret ?_ | refine hw_exit ?_ | refine hx_then_ret ?_ | refine hx_block_ret ?_ | refine hx_then_exit ?_ | refine hx_block_here ?_ | refine hx_far ?_ | refine hx_any ?_ | (apply ha_end; decide +kernel))
    refine hl_build0 (by decide) (fun b1 => ?_)
    repeat' (first | refine hl_a ?_ | refine hq_a ?_ | refine hl_nil ?_ | refine hq_nil ?_ | refine hq_ga ?_ | refine hq_sk ?_ | refine hq_su ?_ | refine hq_gT ?_ | refine hq_gF ?_ | refine hq_gd (fun h => ?_) (fun h => ?_) | refine hl_ga ?_ | refine hl_sk ?_ | refine hl_su ?_ | refine hl_gT ?_ | refine hl_gF ?_ | refine hl_gd (fun h => ?_) (fun h => ?_) | refine hx_next ?_ | refine hw_seq ?_ | refine hw_region ?_ | refine hw_dr ?_ | refine hw_block ?_ | refine hx_block ?_ | refine hw_tt ?_ | refine hw_ff ?_ | refine hw_iT ?_ | refine hw_iF ?_ | refine hw_skip ?_ | refine hw_ret ?_ | refine hw_exit ?_ | refine hx_then_ret ?_ | refine hx_block_ret ?_ | refine hx_then_exit ?_ | refine hx_block_here ?_ | refine hx_far ?_ | refine hx_any ?_ | (apply ha_end; decide +kernel))
    exact hx_ret2 rfl rfl rfl (fun w hm => ⟨_, _, rfl, hm.lone 1 rfl, by rw [runXs, runC, if_neg (fun e => h e.1), if_neg h]; exact lsErr _ 1 (lit_ok _ 0 (by decide)) rfl⟩)
  have hv := Classical.not_not.1 h
  have hs1 := hv.s1
  have ht1 := hv.t1
  have hbad : ¬ RunOk st tot s ds → runXs st tot xss s ds = [] ∧ runC st tot xss s ds = 2 := fun hn => ⟨by rw [runXs, if_neg (fun e => hn e.2)], by rw [runC, if_pos hv, if_neg hn]⟩
  repeat (first | refine hx_next ?_ | refine hw_seq ?_ | refine hw_block ?_ | refine hx_block ?_ | refine hw_tt ?_ | refine hw_ff ?_ | refine hw_iT ?_ | refine hw_iF ?_ | refine hw_skip ?_)
  refine hw_regJ [(1, .int .i64 s), (2, vo), (3, .pointer (some ⟨b, 0, none⟩)), (8, .bool (decide ((0 ≤ s ∧ s ≤ st - 1) ∧ (ds.length : Int) ≤ 200)))] [rBlk b #[.int .i64 st, .int .i64 tot, v] 28] ?_ ?_
  · repeat' (first | refine hl_a ?_ | refine hq_a ?_ | refine hl_nil ?_ | refine hq_nil ?_ | refine hq_ga ?_ | refine hq_sk ?_ | refine hq_su ?_ | refine hq_gT ?_ | refine hq_gF ?_ | refine hq_gd (fun h => ?_) (fun h => ?_) | refine hl_ga ?_ | refine hl_sk ?_ | refine hl_su ?_ | refine hl_gT ?_ | refine hl_gF ?_ | refine hl_gd (fun h => ?_) (fun h => ?_) | refine hx_next ?_ | refine hw_seq ?_ | refine hw_region ?_ | refine hw_dr ?_ | refine hw_block ?_ | refine hx_block ?_ | refine hw_tt ?_ | refine hw_ff ?_ | refine hw_iT ?_ | refine hw_iF ?_ | refine hw_skip ?_ | refine hw_ret ?_ | refine hw_exit ?_ | refine hx_then_ret ?_ | refine hx_block_ret ?_ | refine hx_then_exit ?_ | refine hx_block_here ?_ | refine hx_far ?_ | refine hx_any ?_ | (apply ha_end; decide +kernel))
    first | refine hl_q (by decide) (q_call (fun w hm => l00In_c _ _ _ _) rfl) ?_ | refine hq_q (by decide) (q_call (fun w hm => l00In_c _ _ _ _) rfl) ?_ | refine hl_g _ _ rfl rfl (by decide) (q_call (fun w hm => l00In_c _ _ _ _) rfl) ?_ | refine hq_g _ _ rfl rfl (by decide) (q_call (fun w hm => l00In_c _ _ _ _) rfl) ?_
    rcases Classical.em (0 ≤ s ∧ s ≤ st - 1) with h1 | h1
    · repeat' (first | refine hl_a ?_ | refine hq_a ?_ | refine hl_nil ?_ | refine hq_nil ?_ | refine hq_ga ?_ | refine hq_sk ?_ | refine hq_su ?_ | refine hq_gT ?_ | refine hq_gF ?_ | refine hq_gd (fun h => ?_) (fun h => ?_) | refine hl_ga ?_ | refine hl_sk ?_ | refine hl_su ?_ | refine hl_gT ?_ | refine hl_gF ?_ | refine hl_gd (fun h => ?_) (fun h => ?_) | refine hx_next ?_ | refine hw_seq ?_ | refine hw_region ?_ | refine hw_dr ?_ | refine hw_block ?_ | refine hx_block ?_ | refine hw_tt ?_ | refine hw_ff ?_ | refine hw_iT ?_ | refine hw_iF ?_ | refine hw_skip ?_ | refine hw_ret ?_ | refine hw_exit ?_ | refine hx_then_ret ?_ | refine hx_block_ret ?_ | refine hx_then_exit ?_ | refine hx_block_here ?_ | refine hx_far ?_ | refine hx_any ?_ | (apply ha_end; decide +kernel))
      refine hx_join ⟨rfl, rfl, rfl, dec_congr ⟨fun e => ⟨h1, e⟩, fun e => e.2⟩, trivial⟩ (fun w hm => Mem.keep _ hm)
    · repeat' (first | refine hl_a ?_ | refine hq_a ?_ | refine hl_nil ?_ | refine hq_nil ?_ | refine hq_ga ?_ | refine hq_sk ?_ | refine hq_su ?_ | refine hq_gT ?_ | refine hq_gF ?_ | refine hq_gd (fun h => ?_) (fun h => ?_) | refine hl_ga ?_ | refine hl_sk ?_ | refine hl_su ?_ | refine hl_gT ?_ | refine hl_gF ?_ | refine hl_gd (fun h => ?_) (fun h => ?_) | refine hx_next ?_ | refine hw_seq ?_ | refine hw_region ?_ | refine hw_dr ?_ | refine hw_block ?_ | refine hx_block ?_ | refine hw_tt ?_ | refine hw_ff ?_ | refine hw_iT ?_ | refine hw_iF ?_ | refine hw_skip ?_ | refine hw_ret ?_ | refine hw_exit ?_ | refine hx_then_ret ?_ | refine hx_block_ret ?_ | refine hx_then_exit ?_ | refine hx_block_here ?_ | refine hx_far ?_ | refine hx_any ?_ | (apply ha_end; decide +kernel))
      refine hx_join ⟨rfl, rfl, rfl, ?_, trivial⟩ (fun w hm => Mem.keep _ hm)
      exact dec_false (p := (0 ≤ s ∧ s ≤ st - 1) ∧ (ds.length : Int) ≤ 200) (fun e => h1 e.1)
  repeat' (first | refine hl_a ?_ | refine hq_a ?_ | refine hl_nil ?_ | refine hq_nil ?_ | refine hq_ga ?_ | refine hq_sk ?_ | refine hq_su ?_ | refine hq_gT ?_ | refine hq_gF ?_ | refine hq_gd (fun h => ?_) (fun h => ?_) | refine hl_ga ?_ | refine hl_sk ?_ | refine hl_su ?_ | refine hl_gT ?_ | refine hl_gF ?_ | refine hl_gd (fun h => ?_) (fun h => ?_) | refine hx_next ?_ | refine hw_seq ?_ | refine hw_region ?_ | refine hw_dr ?_ | refine hw_block ?_ | refine hx_block ?_ | refine hw_tt ?_ | refine hw_ff ?_ | refine hw_iT ?_ | refine hw_iF ?_ | refine hw_skip ?_ | refine hw_ret ?_ | refine hw_exit ?_ | refine hx_then_ret ?_ | refine hx_block_ret ?_ | refine hx_then_exit ?_ | refine hx_block_here ?_ | refine hx_far ?_ | refine hx_any ?_ | (apply ha_end; decide +kernel))
  refine hw_loop (fun e r m => r = [rBlk b #[.int .i64 st, .int .i64 tot, v] 28] ∧ ∃ k : Nat, k ≤ ds.length ∧ m = ds.length - k ∧ e = [(1, .int .i64 s), (2, vo), (3, .pointer (some ⟨b, 0, none⟩)), (8, .bool (decide (((0 ≤ s ∧ s ≤ st - 1) ∧ (ds.length : Int) ≤ 200) ∧ ∀ i, i < k → 0 ≤ ds.getD i 0 ∧ ds.getD i 0 ≤ tot - 1))), (9, .int .i64 k)])
    ⟨rfl, 0, Nat.zero_le _, rfl, rfl⟩ ⟨rfl, rfl, rfl, dec_congr ⟨fun h => ⟨h, by omega⟩, fun h => h.1⟩, rfl, trivial⟩ ?_
  rintro _ _ _ ⟨rfl, k, hk, rfl, rfl⟩
  by_cases hgo : (k : Int) < (ds.length : Int) ∧ (((0 ≤ s ∧ s ≤ st - 1) ∧ (ds.length : Int) ≤ 200) ∧ ∀ i, i < k → 0 ≤ ds.getD i 0 ∧ ds.getD i 0 ≤ tot - 1)
  · obtain ⟨hlt, hok⟩ := hgo
    have hk2 : k < ds.length := by omega
    have hc := hx.get k hk2
    rw [decide_eq_true hok]
    repeat' (first | refine hl_a ?_ | refine hq_a ?_ | refine hl_nil ?_ | refine hq_nil ?_ | refine hq_ga ?_ | refine hq_sk ?_ | refine hq_su ?_ | refine hq_gT ?_ | refine hq_gF ?_ | refine hq_gd (fun h => ?_) (fun h => ?_) | refine hl_ga ?_ | refine hl_sk ?_ | refine hl_su ?_ | refine hl_gT ?_ | refine hl_gF ?_ | refine hl_gd (fun h => ?_) (fun h => ?_) | refine hx_next ?_ | refine hw_seq ?_ | refine hw_region ?_ | refine hw_dr ?_ | refine hw_block ?_ | refine hx_block ?_ | refine hw_tt ?_ | refine hw_ff ?_ | refine hw_iT ?_ | refine hw_iF ?_ | refine hw_skip ?_ | refine hw_ret ?_ | refine hw_exit ?_ | refine hx_then_ret ?_ | refine hx_block_ret ?_ | refine hx_then_exit ?_ | refine hx_block_here ?_ | refine hx_far ?_ | refine hx_any ?_ | (apply ha_end; decide +kernel))
    first | refine hl_q (by decide) (q_call (fun w hm => l00In_c _ _ _ _) rfl) ?_ | refine hq_q (by decide) (q_call (fun w hm => l00In_c _ _ _ _) rfl) ?_ | refine hl_g _ _ rfl rfl (by decide) (q_call (fun w hm => l00In_c _ _ _ _) rfl) ?_ | refine hq_g _ _ rfl rfl (by decide) (q_call (fun w hm => l00In_c _ _ _ _) rfl) ?_
    repeat' (first | refine hl_a ?_ | refine hq_a ?_ | refine hl_nil ?_ | refine hq_nil ?_ | refine hq_ga ?_ | refine hq_sk ?_ | refine hq_su ?_ | refine hq_gT ?_ | refine hq_gF ?_ | refine hq_gd (fun h => ?_) (fun h => ?_) | refine hl_ga ?_ | refine hl_sk ?_ | refine hl_su ?_ | refine hl_gT ?_ | refine hl_gF ?_ | refine hl_gd (fun h => ?_) (fun h => ?_) | refine hx_next ?_ | refine hw_seq ?_ | refine hw_region ?_ | refine hw_dr ?_ | refine hw_block ?_ | refine hx_block ?_ | refine hw_tt ?_ | refine hw_ff ?_ | refine hw_iT ?_ | refine hw_iF ?_ | refine hw_skip ?_ | refine hw_ret ?_ | refine hw_exit ?_ | refine hx_then_ret ?_ | refine hx_block_ret ?_ | refine hx_then_exit ?_ | refine hx_block_here ?_ | refine hx_far ?_ | refine hx_any ?_ | (apply ha_end; decide +kernel))
    refine hx_round ⟨rfl, k + 1, by omega, rfl, rfl⟩ (by omega) ⟨rfl, rfl, rfl, dec_congr ⟨fun h => ⟨hok.1, fun i hi => ?_⟩, fun h => h.2 k (by omega)⟩, rfl, trivial⟩
    by_cases e : i = k
    · subst e; exact h
    · exact hok.2 i (by omega)
  have hiff : (((0 ≤ s ∧ s ≤ st - 1) ∧ (ds.length : Int) ≤ 200) ∧ ∀ i, i < k → 0 ≤ ds.getD i 0 ∧ ds.getD i 0 ≤ tot - 1) ↔ RunOk st tot s ds := by
    constructor
    · intro h
      refine ⟨h.1.1, by omega, fun i hi => ?_⟩
      by_cases e : (k : Int) < (ds.length : Int)
      · exact absurd ⟨e, h⟩ hgo
      · exact h.2 i (by omega)
    · intro h
      exact ⟨⟨h.s0, by have := h.len; omega⟩, fun i hi => h.ds i (by omega)⟩
  rcases (Classical.em (((0 ≤ s ∧ s ≤ st - 1) ∧ (ds.length : Int) ≤ 200) ∧ ∀ i, i < k → 0 ≤ ds.getD i 0 ∧ ds.getD i 0 ≤ tot - 1)).symm with hP | hP
  · rw [decide_eq_false hP]
    obtain ⟨e1, e2⟩ := hbad (fun e => hP (hiff.2 e))
    repeat' (first | refine hl_a ?_ | refine hq_a ?_ | refine hl_nil ?_ | refine hq_nil ?_ | refine hq_ga ?_ | refine hq_sk ?_ | refine hq_su ?_ | refine hq_gT ?_ | refine hq_gF ?_ | refine hq_gd (fun h => ?_) (fun h => ?_) | refine hl_ga ?_ | refine hl_sk ?_ | refine hl_su ?_ | refine hl_gT ?_ | refine hl_gF ?_ | refine hl_gd (fun h => ?_) (fun h => ?_) | refine hx_next ?_ | refine hw_seq ?_ | refine hw_region ?_ | refine hw_dr ?_ | refine hw_block ?_ | refine hx_block ?_ | refine hw_tt ?_ | refine hw_ff ?_ | refine hw_iT ?_ | refine hw_iF ?_ | refine hw_skip ?_ | refine hw_ret ?_ | refine hw_exit ?_ | refine hx_then_ret ?_ | refine hx_block_ret ?_ | refine hx_then_exit ?_ | refine hx_block_here ?_ | refine hx_far ?_ | refine hx_any ?_ | (apply ha_end; decide +kernel))
    all_goals
      refine hl_build0 (by decide) (fun b1 => ?_)
      repeat' (first | refine hl_a ?_ | refine hq_a ?_ | refine hl_nil ?_ | refine hq_nil ?_ | refine hq_ga ?_ | refine hq_sk ?_ | refine hq_su ?_ | refine hq_gT ?_ | refine hq_gF ?_ | refine hq_gd (fun h => ?_) (fun h => ?_) | refine hl_ga ?_ | refine hl_sk ?_ | refine hl_su ?_ | refine hl_gT ?_ | refine hl_gF ?_ | refine hl_gd (fun h => ?_) (fun h => ?_) | refine hx_next ?_ | refine hw_seq ?_ | refine hw_region ?_ | refine hw_dr ?_ | refine hw_block ?_ | refine hx_block ?_ | refine hw_tt ?_ | refine hw_ff ?_ | refine hw_iT ?_ | refine hw_iF ?_ | refine hw_skip ?_ | refine hw_ret ?_ | refine hw_exit ?_ | refine hx_then_ret ?_ | refine hx_block_ret ?_ | refine hx_then_exit ?_ | refine hx_block_here ?_ | refine hx_far ?_ | refine hx_any ?_ | (apply ha_end; decide +kernel))
      exact hx_ret2 rfl rfl rfl (fun w hm => ⟨_, _, rfl, hm.lone 1 rfl, by rw [e1, e2]; exact lsErr _ 2 (lit_ok _ 0 (by decide)) rfl⟩)
  have hge : ¬ ((k : Int) < (ds.length : Int)) := fun e => hgo ⟨e, hP⟩
  have hro := hiff.1 hP
  have hlen := hro.len
  rw [decide_eq_true hP]
  repeat' (first | refine hl_a ?_ | refine hq_a ?_ | refine hl_nil ?_ | refine hq_nil ?_ | refine hq_ga ?_ | refine hq_sk ?_ | refine hq_su ?_ | refine hq_gT ?_ | refine hq_gF ?_ | refine hq_gd (fun h => ?_) (fun h => ?_) | refine hl_ga ?_ | refine hl_sk ?_ | refine hl_su ?_ | refine hl_gT ?_ | refine hl_gF ?_ | refine hl_gd (fun h => ?_) (fun h => ?_) | refine hx_next ?_ | refine hw_seq ?_ | refine hw_region ?_ | refine hw_dr ?_ | refine hw_block ?_ | refine hx_block ?_ | refine hw_tt ?_ | refine hw_ff ?_ | refine hw_iT ?_ | refine hw_iF ?_ | refine hw_skip ?_ | refine hw_ret ?_ | refine hw_exit ?_ | refine hx_then_ret ?_ | refine hx_block_ret ?_ | refine hx_then_exit ?_ | refine hx_block_here ?_ | refine hx_far ?_ | refine hx_any ?_ | (apply ha_end; decide +kernel))
  refine hl_build1 (by decide) rfl rfl rfl (fun b1 => ?_)
  repeat' (first | refine hl_a ?_ | refine hq_a ?_ | refine hl_nil ?_ | refine hq_nil ?_ | refine hq_ga ?_ | refine hq_sk ?_ | refine hq_su ?_ | refine hq_gT ?_ | refine hq_gF ?_ | refine hq_gd (fun h => ?_) (fun h => ?_) | refine hl_ga ?_ | refine hl_sk ?_ | refine hl_su ?_ | refine hl_gT ?_ | refine hl_gF ?_ | refine hl_gd (fun h => ?_) (fun h => ?_) | refine hx_next ?_ | refine hw_seq ?_ | refine hw_region ?_ | refine hw_dr ?_ | refine hw_block ?_ | refine hx_block ?_ | refine hw_tt ?_ | refine hw_ff ?_ | refine hw_iT ?_ | refine hw_iF ?_ | refine hw_skip ?_ | refine hw_ret ?_ | refine hw_exit ?_ | refine hx_then_ret ?_ | refine hx_block_ret ?_ | refine hx_then_exit ?_ | refine hx_block_here ?_ | refine hx_far ?_ | refine hx_any ?_ | (apply ha_end; decide +kernel))
  refine hw_loop (fun e r m => ∃ (k : Nat) (u : Value), r = [rBlk b #[.int .i64 st, .int .i64 tot, v] 28, rE 2 (Value.int .i64) u (tab (k + 1) (stAt xss s ds))] ∧ SlOk u (k + 1) ∧ k ≤ ds.length ∧ m = ds.length - k ∧ e = [(2, vo), (3, .pointer (some ⟨b, 0, none⟩)), (10, u), (11, .int .i64 k)])
    ⟨0, _, rfl, lit_ok _ 1 (by decide), Nat.zero_le _, rfl, rfl⟩ ⟨rfl, rfl, rfl, rfl, trivial⟩ ?_
  rintro _ _ _ ⟨k, u, rfl, hu, hk, rfl, rfl⟩
  repeat' (first | refine hl_a ?_ | refine hq_a ?_ | refine hl_nil ?_ | refine hq_nil ?_ | refine hq_ga ?_ | refine hq_sk ?_ | refine hq_su ?_ | refine hq_gT ?_ | refine hq_gF ?_ | refine hq_gd (fun h => ?_) (fun h => ?_) | refine hl_ga ?_ | refine hl_sk ?_ | refine hl_su ?_ | refine hl_gT ?_ | refine hl_gF ?_ | refine hl_gd (fun h => ?_) (fun h => ?_) | refine hx_next ?_ | refine hw_seq ?_ | refine hw_region ?_ | refine hw_dr ?_ | refine hw_block ?_ | refine hx_block ?_ | refine hw_tt ?_ | refine hw_ff ?_ | refine hw_iT ?_ | refine hw_iF ?_ | refine hw_skip ?_ | refine hw_ret ?_ | refine hw_exit ?_ | refine hx_then_ret ?_ | refine hx_block_ret ?_ | refine hx_then_exit ?_ | refine hx_block_here ?_ | refine hx_far ?_ | refine hx_any ?_ | (apply ha_end; decide +kernel))
  refine hw_if rfl (fun hlt => ?_) (fun hge => ?_)
  · have hk2 : k < ds.length := by omega
    have hc := hx.get k hk2
    have hst := stAt_ok hv hro k hk
    have hd := hro.ds k hk2
    have hlast : k < k + 1 := by omega
    have htl : (tab (k + 1) (stAt xss s ds)).length = k + 1 := tab_length _ _
    have hld : Ld w [rBlk b #[.int .i64 st, .int .i64 tot, v] 28, rE 2 (Value.int .i64) u (tab (k + 1) (stAt xss s ds))] (vAt u k) (.int .i64 (stAt xss s ds k)) := by
      have := ld_E (w0 := w) (rs := [rBlk b #[.int .i64 st, .int .i64 tot, v] 28, rE 2 (Value.int .i64) u (tab (k + 1) (stAt xss s ds))]) (e := 2) (enc := Value.int .i64) (v := u) (xs := tab (k + 1) (stAt xss s ds)) 1 (j := k) 0 rfl (by rw [htl]; omega)
      rwa [tab_getD _ _ _ _ hlast] at this
    repeat' (first | refine hl_a ?_ | refine hq_a ?_ | refine hl_nil ?_ | refine hq_nil ?_ | refine hq_ga ?_ | refine hq_sk ?_ | refine hq_su ?_ | refine hq_gT ?_ | refine hq_gF ?_ | refine hq_gd (fun h => ?_) (fun h => ?_) | refine hl_ga ?_ | refine hl_sk ?_ | refine hl_su ?_ | refine hl_gT ?_ | refine hl_gF ?_ | refine hl_gd (fun h => ?_) (fun h => ?_) | refine hx_next ?_ | refine hw_seq ?_ | refine hw_region ?_ | refine hw_block ?_ | refine hx_block ?_ | refine hw_tt ?_ | refine hw_ff ?_ | refine hw_iT ?_ | refine hw_iF ?_ | refine hw_skip ?_ | refine hw_ret ?_ | refine hw_exit ?_ | refine hx_then_ret ?_ | refine hx_block_ret ?_ | refine hx_then_exit ?_ | refine hx_block_here ?_ | refine hx_far ?_ | refine hx_any ?_ | (apply ha_end; decide +kernel))
    refine hw_g [rBlk b #[.int .i64 st, .int .i64 tot, v] 28, rE 2 (Value.int .i64) u (tab (k + 1) (stAt xss s ds))] 11 (by kernel_rfl) ?_
    first | refine hg_t 0 ?_ | refine hg_tn 0 ?_
    first | refine hg_t 1 ?_ | refine hg_tn 1 ?_
    first | refine hg_t 2 ?_ | refine hg_tn 2 ?_
    first | refine hg_t 3 ?_ | refine hg_tn 3 ?_
    first | refine hg_t 4 ?_ | refine hg_tn 4 ?_
    first | refine hg_t 5 ?_ | refine hg_tn 5 ?_
    first | refine hg_t 6 ?_ | refine hg_tn 6 ?_
    first | refine hg_t 7 ?_ | refine hg_tn 7 ?_
    first | refine hg_t 8 ?_ | refine hg_tn 8 ?_
    refine hg_1 9 (by decide +kernel) rfl ?_
    refine hl_q (by decide) (q_call (fun w hm => l01To_c _ st tot v xss row _ _ w (ptC_blk 0 rfl hm (hr.up hm.below)) hv hst) rfl) ?_
    refine hl_nil ?_
    refine hx_hg (by first | exact fun w hm => hm.none | exact fun w hm => Mem.keep _ hm) ?_
    refine hg_1 10 (by decide +kernel) rfl ?_
    refine hl_build1 (by decide) rfl rfl rfl (fun b3 => ?_)
    refine hl_nil ?_
    refine hx_hg (by first | exact fun w hm => hm.none | exact fun w hm => Mem.keep _ hm) ?_
    refine hg_1 11 (by decide +kernel) rfl ?_
    refine hl_appE 1 2 (stepTo xss (stAt xss s ds k) (ds.getD k 0)) rfl rfl (by decide) rfl rfl rfl (by rw [htl]; omega) (by decide) (fun u' hu' => ?_)
    refine hl_nil ?_
    refine hx_hgT rfl ?_
    refine hg_1 12 (by decide +kernel) rfl ?_
    refine hl_a ?_
    refine hl_nil ?_
    refine hx_hgT rfl ?_
    refine hg_end (by decide +kernel) ?_
    repeat' (first | refine hl_a ?_ | refine hq_a ?_ | refine hl_nil ?_ | refine hq_nil ?_ | refine hq_ga ?_ | refine hq_sk ?_ | refine hq_su ?_ | refine hq_gT ?_ | refine hq_gF ?_ | refine hq_gd (fun h => ?_) (fun h => ?_) | refine hl_ga ?_ | refine hl_sk ?_ | refine hl_su ?_ | refine hl_gT ?_ | refine hl_gF ?_ | refine hl_gd (fun h => ?_) (fun h => ?_) | refine hx_next ?_ | refine hw_seq ?_ | refine hw_region ?_ | refine hw_block ?_ | refine hx_block ?_ | refine hw_tt ?_ | refine hw_ff ?_ | refine hw_iT ?_ | refine hw_iF ?_ | refine hw_skip ?_ | refine hw_ret ?_ | refine hw_exit ?_ | refine hx_then_ret ?_ | refine hx_block_ret ?_ | refine hx_then_exit ?_ | refine hx_block_here ?_ | refine hx_far ?_ | refine hx_any ?_ | (apply ha_end; decide +kernel))
    refine hx_mem (fun w hm => Mem.keep [_, _] hm) ?_
    refine hx_round ⟨k + 1, u', ?_, ?_, hk2, rfl, rfl⟩ (by omega) ⟨rfl, rfl, rfl, rfl, trivial⟩
    · rw [tab_succ (k + 1)]; rfl
    · simpa [htl] using hu'
  · have e : k = ds.length := by omega
    subst e
    repeat' (first | refine hl_a ?_ | refine hq_a ?_ | refine hl_nil ?_ | refine hq_nil ?_ | refine hq_ga ?_ | refine hq_sk ?_ | refine hq_su ?_ | refine hq_gT ?_ | refine hq_gF ?_ | refine hq_gd (fun h => ?_) (fun h => ?_) | refine hl_ga ?_ | refine hl_sk ?_ | refine hl_su ?_ | refine hl_gT ?_ | refine hl_gF ?_ | refine hl_gd (fun h => ?_) (fun h => ?_) | refine hx_next ?_ | refine hw_seq ?_ | refine hw_region ?_ | refine hw_dr ?_ | refine hw_block ?_ | refine hx_block ?_ | refine hw_tt ?_ | refine hw_ff ?_ | refine hw_iT ?_ | refine hw_iF ?_ | refine hw_skip ?_ | refine hw_ret ?_ | refine hw_exit ?_ | refine hx_then_ret ?_ | refine hx_block_ret ?_ | refine hx_then_exit ?_ | refine hx_block_here ?_ | refine hx_far ?_ | refine hx_any ?_ | (apply ha_end; decide +kernel))
    exact hx_ret2 rfl rfl rfl (fun w hm => ⟨_, _, rfl, hm.lone 1 rfl, by rw [runXs, runC, if_pos ⟨hv, hro⟩, if_pos hv, if_pos hro]; exact ⟨u, rfl, rfl, by rw [tab_length]; exact hu⟩⟩)
end Go.Proofs.Ytkcjinibfkkboaa
