/- Contracts: sets of states as bits; CanCoalesce. -/
import Derived.Test.YtgeidbjcphjbiaaF29
namespace Go.Eng
open Go.RowKit
section
variable {P : Program} {N : Nat} {env : Env} {w0 : World} {rs : List Res} {dst : Option Nat} {ty : TypeId} {pos : String} {after : Array Edge} {gd : Option (Nat × Bool)} {x : Operand} {a : Nat}
theorem q_convU {s t : TypeId} [hS : IntT P s .i64] [hT : IntT P t .u64] (hx : env.ev x = some (.int .i64 (a : Int))) (ha : a < 4611686018427387904) : QO P N env w0 rs ⟨dst, .convert s t x, ty, pos, after, gd⟩ (.int .u64 (a : Int)) := qo_val fun a' hs w _ => by
  have h1 : IntKind.u64.wrap (a : Int) = (a : Int) := by
    simp only [IntKind.wrap, IntKind.bits, IntKind.signed]
    simp
    omega
  have h2 : (convert s t (.int .i64 (a : Int))).run P w = .ok (.int .u64 (a : Int)) w := by
    simp [convert, run_underlying hS.und, run_underlying hT.und, Conv.intToInt, h1]
  simp [execOp, hs.ev hx, h2]
end
end Go.Eng
namespace Go.Proofs.Ytgeidbjcphjbiaa
open Go.Eng Go.RowKit
set_option linter.unusedVariables false

/-- The set to which a set comes by a map, its first states done. -/
def imgN (xs : List Int) (set : Nat) : Nat → Nat
  | 0 => 0
  | s + 1 => if (set >>> s) &&& 1 = 1 then imgN xs set s ||| 1 * 2 ^ (xs.getD s 0).toNat else imgN xs set s
theorem imgN_lt {xs : List Int} {n : Nat} (hx : ∀ i, i < xs.length → 0 ≤ xs.getD i 0 ∧ xs.getD i 0 ≤ (n : Int) - 1) (set : Nat) : ∀ s, s ≤ xs.length → imgN xs set s < 2 ^ n
  | 0, _ => Nat.two_pow_pos n
  | s + 1, hs => by
    have ih := imgN_lt hx set s (by omega)
    have h1 := hx s (by omega)
    simp only [imgN]
    split
    · refine Nat.or_lt_two_pow ih ?_
      rw [Nat.one_mul]
      exact Nat.pow_lt_pow_right (by decide) (by omega)
    · exact ih
theorem imgN_pos {xs : List Int} {set : Nat} : ∀ s, (∃ i, i < s ∧ (set >>> i) &&& 1 = 1) → 0 < imgN xs set s
  | 0, h => by obtain ⟨i, hi, _⟩ := h; omega
  | s + 1, h => by
    simp only [imgN]
    split
    · have h1 := Nat.right_le_or (n := imgN xs set s) (m := 1 * 2 ^ (xs.getD s 0).toNat)
      have h2 := Nat.two_pow_pos (xs.getD s 0).toNat
      omega
    · rename_i hn
      obtain ⟨i, hi, hb⟩ := h
      refine imgN_pos s ⟨i, ?_, hb⟩
      by_cases e : i = s
      · subst e; exact absurd hb hn
      · omega
theorem some_bit : ∀ n, n < 7 → ∀ set, set < 64 → set < 2 ^ n → set ≠ 0 → ∃ i, i < n ∧ (set >>> i) &&& 1 = 1 := by decide +kernel
def SingN (set : Nat) : Prop := set &&& (set - 1) = 0
instance (set : Nat) : Decidable (SingN set) := by unfold SingN; infer_instance
def addK (xss : List (List Int)) (n x : Nat) : Nat → List Nat → List Nat
  | 0, L => L
  | k + 1, L => if imgN (xss.getD k []) x n ∈ addK xss n x k L then addK xss n x k L else addK xss n x k L ++ [imgN (xss.getD k []) x n]
def setsG (xss : List (List Int)) (n : Nat) : Nat → Nat → List Nat → List Nat
  | 0, _, L => L
  | f + 1, i, L => if i < L.length then setsG xss n f (i + 1) (if SingN (L.getD i 0) then L else addK xss n (L.getD i 0) xss.length L) else L
theorem setsG_end (xss : List (List Int)) (n f i : Nat) (L : List Nat) (h : L.length ≤ i) : setsG xss n f i L = L := by
  cases f with
  | zero => rfl
  | succ f => rw [setsG, if_neg (by omega)]
/-- Sets: no one twice, none empty. -/
structure SetsOk (n : Nat) (L : List Nat) : Prop where
  nd : L.Nodup
  all : ∀ x ∈ L, 0 < x ∧ x < 2 ^ n
theorem SetsOk.len {n : Nat} {L : List Nat} (h : SetsOk n L) (hn : n ≤ 6) : L.length ≤ 63 := by
  have h64 : 2 ^ n ≤ 64 := Nat.pow_le_pow_right (by decide) hn
  have h1 : L ⊆ (List.range 63).map (· + 1) := fun x hx => by
    have := h.all x hx
    rw [List.mem_map]
    exact ⟨x - 1, List.mem_range.2 (by omega), by omega⟩
  have h2 := h.nd.length_le_of_subset h1
  simpa using h2
theorem SetsOk.snoc {n : Nat} {L : List Nat} (h : SetsOk n L) {y : Nat} (hy : 0 < y ∧ y < 2 ^ n) (hn : y ∉ L) : SetsOk n (L ++ [y]) := by
  refine ⟨?_, fun x hx => ?_⟩
  · rw [List.nodup_append]
    refine ⟨h.nd, by simp, fun a ha b hb e => ?_⟩
    simp at hb; subst hb; subst e; exact hn ha
  · rcases List.mem_append.1 hx with h1 | h1
    · exact h.all x h1
    · simp at h1; subst h1; exact hy
theorem addK_pre (xss : List (List Int)) (n x : Nat) (L : List Nat) : ∀ k, ∃ T, addK xss n x k L = L ++ T
  | 0 => ⟨[], by simp [addK]⟩
  | k + 1 => by
    obtain ⟨T, hT⟩ := addK_pre xss n x L k
    simp only [addK]
    split
    · exact ⟨T, hT⟩
    · exact ⟨T ++ [imgN (xss.getD k []) x n], by rw [hT, List.append_assoc]⟩
theorem addK_getD (xss : List (List Int)) (n x : Nat) (L : List Nat) (k i : Nat) (h : i < L.length) : (addK xss n x k L).getD i 0 = L.getD i 0 ∧ i < (addK xss n x k L).length := by
  obtain ⟨T, hT⟩ := addK_pre xss n x L k
  rw [hT]
  refine ⟨?_, by simp; omega⟩
  rw [List.getD_eq_getElem?_getD, List.getElem?_append_left h, ← List.getD_eq_getElem?_getD]
section
variable {n : Nat} {tot : Int} {ks : List Int} {xss : List (List Int)}
theorem img_ok (hv : ValidM n tot ks xss) (k x : Nat) (hk : k < xss.length) (hx : 0 < x ∧ x < 2 ^ n) : 0 < imgN (xss.getD k []) x n ∧ imgN (xss.getD k []) x n < 2 ^ n := by
  have hs := hv.s1
  have hl := hv.rlen k hk
  have h64 : 2 ^ n ≤ 64 := Nat.pow_le_pow_right (by decide) (show n ≤ 6 by omega)
  refine ⟨imgN_pos n (some_bit n (by omega) x (by omega) hx.2 (by omega)), imgN_lt (fun i hi => (hv.row k hk).all i hi) x n (by omega)⟩
theorem addK_ok (hv : ValidM n tot ks xss) {L : List Nat} {x : Nat} (hL : SetsOk n L) (hx : 0 < x ∧ x < 2 ^ n) : ∀ k, k ≤ xss.length → SetsOk n (addK xss n x k L)
  | 0, _ => hL
  | k + 1, hk => by
    have ih := addK_ok hv hL hx k (by omega)
    simp only [addK]
    split
    · exact ih
    · rename_i h
      exact ih.snoc (img_ok hv k x (by omega) hx) h
theorem getD_mem' {L : List Nat} {i : Nat} (h : i < L.length) : L.getD i 0 ∈ L := by rw [getD_lt _ _ _ h]; exact List.getElem_mem h
end
def canL (n : Nat) (xss : List (List Int)) : List Nat := setsG xss n 64 0 [2 ^ n - 1]
theorem one_ok (n : Nat) (hn : 1 ≤ n) : SetsOk n [2 ^ n - 1] := by
  have h1 := Nat.pow_le_pow_right (show 0 < 2 by decide) hn
  refine ⟨by simp, fun x hx => ?_⟩
  simp at hx; subst hx; omega
theorem RdE.nat {w : World} {v : Value} {L : List Nat} (h : RdE eN 0 w v L) : RdE (Value.int .i64) 0 w v (L.map fun j : Nat => (j : Int)) := by
  refine ⟨by rw [List.length_map]; exact h.sl, fun i hi => ?_⟩
  rw [List.length_map] at hi
  have := h.get i hi
  rw [this]
  simp [eN, List.getD_eq_getElem?_getD, hi]
theorem mem_cast {L : List Nat} {y : Nat} : (y : Int) ∈ (L.map fun j : Nat => (j : Int)) ↔ y ∈ L := by
  rw [List.mem_map]
  constructor
  · rintro ⟨j, hj, e⟩
    have : j = y := by omega
    subst this; exact hj
  · exact fun h => ⟨y, h, rfl⟩

theorem indexFuncI_c (f : FuncId) [hB : Body Try.prog f] (caps : List Value) (v : Value) (xs : List Int) (p : Int → Bool) (w : World) (hx : RdE (Value.int .i64) 0 w v xs)
    (hf : ∀ w', Below w.heap.size w w' → ∀ i, i < xs.length → Ret Try.prog f (.int .i64 (xs.getD i 0) :: caps) w' (.bool (p (xs.getD i 0)))) :
    Ret Try.prog 130 [v, .func (.func f) #[] caps.toArray] w (.int .i64 (findI p xs 0)) := by
  refine calls_hw Try.func130 Try.ntmps130 rfl rfl ?_
  have hs := hx.sl
  have hle := hs.le
  repeat' (first | refine hl_a ?_ | refine hq_a ?_ | refine hl_nil ?_ | refine hq_nil ?_ | refine hq_ga ?_ | refine hq_sk ?_ | refine hq_su ?_ | refine hq_gT ?_ | refine hq_gF ?_ | refine hq_gd (fun h => ?_) (fun h => ?_) | refine hl_ga ?_ | refine hl_sk ?_ | refine hl_su ?_ | refine hl_gT ?_ | refine hl_gF ?_ | refine hl_gd (fun h => ?_) (fun h => ?_) | refine hx_next ?_ | refine hw_seq ?_ | refine hw_region ?_ | refine hw_dr ?_ | refine hw_block ?_ | refine hx_block ?_ | refine hw_tt ?_ | refine hw_ff ?_ | refine hw_iT ?_ | refine hw_iF ?_ | refine hw_skip ?_ | refine hw_ret ?_ | refine hw_exit ?_ | refine hx_then_ret ?_ | refine hx_block_ret ?_ | refine hx_then_exit ?_ | refine hx_block_here ?_ | refine hx_far ?_ | refine hx_any ?_ | (apply ha_end; decide +kernel))
  refine hw_loop (fun e r m => r = [] ∧ ∃ k : Nat, k ≤ xs.length ∧ m = xs.length - k ∧ e = [(0, v), (1, .func (.func f) #[] caps.toArray), (7, .int .i64 (xs.length : Int)), (8, .int .i64 k)] ∧ findI p (xs.drop k) k = findI p xs 0)
    ⟨rfl, 0, Nat.zero_le _, rfl, rfl, rfl⟩ ⟨rfl, rfl, rfl, rfl, trivial⟩ ?_
  rintro _ _ _ ⟨rfl, k, hk, rfl, rfl, hinv⟩
  repeat' (first | refine hl_a ?_ | refine hq_a ?_ | refine hl_nil ?_ | refine hq_nil ?_ | refine hq_ga ?_ | refine hq_sk ?_ | refine hq_su ?_ | refine hq_gT ?_ | refine hq_gF ?_ | refine hq_gd (fun h => ?_) (fun h => ?_) | refine hl_ga ?_ | refine hl_sk ?_ | refine hl_su ?_ | refine hl_gT ?_ | refine hl_gF ?_ | refine hl_gd (fun h => ?_) (fun h => ?_) | refine hx_next ?_ | refine hw_seq ?_ | refine hw_region ?_ | refine hw_dr ?_ | refine hw_block ?_ | refine hx_block ?_ | refine hw_tt ?_ | refine hw_ff ?_ | refine hw_iT ?_ | refine hw_iF ?_ | refine hw_skip ?_ | refine hw_ret ?_ | refine hw_exit ?_ | refine hx_then_ret ?_ | refine hx_block_ret ?_ | refine hx_then_exit ?_ | refine hx_block_here ?_ | refine hx_far ?_ | refine hx_any ?_ | (apply ha_end; decide +kernel))
  refine hw_if rfl (fun hlt => ?_) (fun hge => ?_)
  · have hk2 : k < xs.length := by omega
    have hc := hx.get k hk2
    rw [findI_step _ _ _ hk2] at hinv
    have hcall : ∀ w', Mem w [] w' → Ret Try.prog f (.int .i64 (xs.getD k 0) :: caps) w' (.bool (p (xs.getD k 0))) := fun w' hm => hf w' hm.below k hk2
    rcases Bool.eq_false_or_eq_true (p (xs.getD k 0)) with hp | hp <;> rw [hp] at hcall
    · repeat' (first | refine hl_a ?_ | refine hq_a ?_ | refine hl_nil ?_ | refine hq_nil ?_ | refine hq_ga ?_ | refine hq_sk ?_ | refine hq_su ?_ | refine hq_gT ?_ | refine hq_gF ?_ | refine hq_gd (fun h => ?_) (fun h => ?_) | refine hl_ga ?_ | refine hl_sk ?_ | refine hl_su ?_ | refine hl_gT ?_ | refine hl_gF ?_ | refine hl_gd (fun h => ?_) (fun h => ?_) | refine hx_next ?_ | refine hw_seq ?_ | refine hw_region ?_ | refine hw_dr ?_ | refine hw_block ?_ | refine hx_block ?_ | refine hw_tt ?_ | refine hw_ff ?_ | refine hw_iT ?_ | refine hw_iF ?_ | refine hw_skip ?_ | refine hw_ret ?_ | refine hw_exit ?_ | refine hx_then_ret ?_ | refine hx_block_ret ?_ | refine hx_then_exit ?_ | refine hx_block_here ?_ | refine hx_far ?_ | refine hx_any ?_ | (apply ha_end; decide +kernel))
      first | refine hl_q (by decide) (q_callv (vs := [.int .i64 (xs.getD k 0)]) rfl rfl hcall) ?_ | refine hq_q (by decide) (q_callv (vs := [.int .i64 (xs.getD k 0)]) rfl rfl hcall) ?_ | refine hl_g _ _ rfl rfl (by decide) (q_callv (vs := [.int .i64 (xs.getD k 0)]) rfl rfl hcall) ?_ | refine hq_g _ _ rfl rfl (by decide) (q_callv (vs := [.int .i64 (xs.getD k 0)]) rfl rfl hcall) ?_
      repeat' (first | refine hl_a ?_ | refine hq_a ?_ | refine hl_nil ?_ | refine hq_nil ?_ | refine hq_ga ?_ | refine hq_sk ?_ | refine hq_su ?_ | refine hq_gT ?_ | refine hq_gF ?_ | refine hq_gd (fun h => ?_) (fun h => ?_) | refine hl_ga ?_ | refine hl_sk ?_ | refine hl_su ?_ | refine hl_gT ?_ | refine hl_gF ?_ | refine hl_gd (fun h => ?_) (fun h => ?_) | refine hx_next ?_ | refine hw_seq ?_ | refine hw_region ?_ | refine hw_dr ?_ | refine hw_block ?_ | refine hx_block ?_ | refine hw_tt ?_ | refine hw_ff ?_ | refine hw_iT ?_ | refine hw_iF ?_ | refine hw_skip ?_ | refine hw_ret ?_ | refine hw_exit ?_ | refine hx_then_ret ?_ | refine hx_block_ret ?_ | refine hx_then_exit ?_ | refine hx_block_here ?_ | refine hx_far ?_ | refine hx_any ?_ | (apply ha_end; decide +kernel))
      refine hx_ret1 rfl rfl (fun w hm => ⟨?_, hm.none⟩)
      rw [if_pos hp] at hinv; rw [hinv]
    · repeat' (first | refine hl_a ?_ | refine hq_a ?_ | refine hl_nil ?_ | refine hq_nil ?_ | refine hq_ga ?_ | refine hq_sk ?_ | refine hq_su ?_ | refine hq_gT ?_ | refine hq_gF ?_ | refine hq_gd (fun h => ?_) (fun h => ?_) | refine hl_ga ?_ | refine hl_sk ?_ | refine hl_su ?_ | refine hl_gT ?_ | refine hl_gF ?_ | refine hl_gd (fun h => ?_) (fun h => ?_) | refine hx_next ?_ | refine hw_seq ?_ | refine hw_region ?_ | refine hw_dr ?_ | refine hw_block ?_ | refine hx_block ?_ | refine hw_tt ?_ | refine hw_ff ?_ | refine hw_iT ?_ | refine hw_iF ?_ | refine hw_skip ?_ | refine hw_ret ?_ | refine hw_exit ?_ | refine hx_then_ret ?_ | refine hx_block_ret ?_ | refine hx_then_exit ?_ | refine hx_block_here ?_ | refine hx_far ?_ | refine hx_any ?_ | (apply ha_end; decide +kernel))
      first | refine hl_q (by decide) (q_callv (vs := [.int .i64 (xs.getD k 0)]) rfl rfl hcall) ?_ | refine hq_q (by decide) (q_callv (vs := [.int .i64 (xs.getD k 0)]) rfl rfl hcall) ?_ | refine hl_g _ _ rfl rfl (by decide) (q_callv (vs := [.int .i64 (xs.getD k 0)]) rfl rfl hcall) ?_ | refine hq_g _ _ rfl rfl (by decide) (q_callv (vs := [.int .i64 (xs.getD k 0)]) rfl rfl hcall) ?_
      repeat' (first | refine hl_a ?_ | refine hq_a ?_ | refine hl_nil ?_ | refine hq_nil ?_ | refine hq_ga ?_ | refine hq_sk ?_ | refine hq_su ?_ | refine hq_gT ?_ | refine hq_gF ?_ | refine hq_gd (fun h => ?_) (fun h => ?_) | refine hl_ga ?_ | refine hl_sk ?_ | refine hl_su ?_ | refine hl_gT ?_ | refine hl_gF ?_ | refine hl_gd (fun h => ?_) (fun h => ?_) | refine hx_next ?_ | refine hw_seq ?_ | refine hw_region ?_ | refine hw_dr ?_ | refine hw_block ?_ | refine hx_block ?_ | refine hw_tt ?_ | refine hw_ff ?_ | refine hw_iT ?_ | refine hw_iF ?_ | refine hw_skip ?_ | refine hw_ret ?_ | refine hw_exit ?_ | refine hx_then_ret ?_ | refine hx_block_ret ?_ | refine hx_then_exit ?_ | refine hx_block_here ?_ | refine hx_far ?_ | refine hx_any ?_ | (apply ha_end; decide +kernel))
      refine hx_round ⟨rfl, k + 1, hk2, rfl, rfl, by rw [← hinv, if_neg (by rw [hp]; exact Bool.false_ne_true)]⟩ (by omega) ⟨rfl, rfl, rfl, rfl, trivial⟩
  · repeat' (first | refine hl_a ?_ | refine hq_a ?_ | refine hl_nil ?_ | refine hq_nil ?_ | refine hq_ga ?_ | refine hq_sk ?_ | refine hq_su ?_ | refine hq_gT ?_ | refine hq_gF ?_ | refine hq_gd (fun h => ?_) (fun h => ?_) | refine hl_ga ?_ | refine hl_sk ?_ | refine hl_su ?_ | refine hl_gT ?_ | refine hl_gF ?_ | refine hl_gd (fun h => ?_) (fun h => ?_) | refine hx_next ?_ | refine hw_seq ?_ | refine hw_region ?_ | refine hw_dr ?_ | refine hw_block ?_ | refine hx_block ?_ | refine hw_tt ?_ | refine hw_ff ?_ | refine hw_iT ?_ | refine hw_iF ?_ | refine hw_skip ?_ | refine hw_ret ?_ | refine hw_exit ?_ | refine hx_then_ret ?_ | refine hx_block_ret ?_ | refine hx_then_exit ?_ | refine hx_block_here ?_ | refine hx_far ?_ | refine hx_any ?_ | (apply ha_end; decide +kernel))
    refine hx_ret1 rfl rfl (fun w hm => ⟨?_, hm.none⟩)
    rw [findI_end _ _ _ (by omega)] at hinv; rw [hinv]
theorem containsFuncI_c (f : FuncId) [hB : Body Try.prog f] (caps : List Value) (v : Value) (xs : List Int) (p : Int → Bool) (w : World) (hx : RdE (Value.int .i64) 0 w v xs)
    (hf : ∀ w', Below w.heap.size w w' → ∀ i, i < xs.length → Ret Try.prog f (.int .i64 (xs.getD i 0) :: caps) w' (.bool (p (xs.getD i 0)))) :
    Ret Try.prog 121 [v, .func (.func f) #[] caps.toArray] w (.bool (decide (∃ x ∈ xs, p x = true))) := by
  refine calls_hw Try.func121 Try.ntmps121 rfl rfl ?_
  repeat' (first | refine hl_a ?_ | refine hq_a ?_ | refine hl_nil ?_ | refine hq_nil ?_ | refine hq_ga ?_ | refine hq_sk ?_ | refine hq_su ?_ | refine hq_gT ?_ | refine hq_gF ?_ | refine hq_gd (fun h => ?_) (fun h => ?_) | refine hl_ga ?_ | refine hl_sk ?_ | refine hl_su ?_ | refine hl_gT ?_ | refine hl_gF ?_ | refine hl_gd (fun h => ?_) (fun h => ?_) | refine hx_next ?_ | refine hw_seq ?_ | refine hw_region ?_ | refine hw_dr ?_ | refine hw_block ?_ | refine hx_block ?_ | refine hw_tt ?_ | refine hw_ff ?_ | refine hw_iT ?_ | refine hw_iF ?_ | refine hw_skip ?_ | refine hw_ret ?_ | refine hw_exit ?_ | refine hx_then_ret ?_ | refine hx_block_ret ?_ | refine hx_then_exit ?_ | refine hx_block_here ?_ | refine hx_far ?_ | refine hx_any ?_ | (apply ha_end; decide +kernel))
  first | refine hl_q (by decide) (q_call (fun w hm => indexFuncI_c f caps v xs p w (hx.up hm.below) (fun w' hb => hf w' (hm.below.trans (hb.mono hm.below.size)))) rfl) ?_ | refine hq_q (by decide) (q_call (fun w hm => indexFuncI_c f caps v xs p w (hx.up hm.below) (fun w' hb => hf w' (hm.below.trans (hb.mono hm.below.size)))) rfl) ?_ | refine hl_g _ _ rfl rfl (by decide) (q_call (fun w hm => indexFuncI_c f caps v xs p w (hx.up hm.below) (fun w' hb => hf w' (hm.below.trans (hb.mono hm.below.size)))) rfl) ?_ | refine hq_g _ _ rfl rfl (by decide) (q_call (fun w hm => indexFuncI_c f caps v xs p w (hx.up hm.below) (fun w' hb => hf w' (hm.below.trans (hb.mono hm.below.size)))) rfl) ?_
  repeat' (first | refine hl_a ?_ | refine hq_a ?_ | refine hl_nil ?_ | refine hq_nil ?_ | refine hq_ga ?_ | refine hq_sk ?_ | refine hq_su ?_ | refine hq_gT ?_ | refine hq_gF ?_ | refine hq_gd (fun h => ?_) (fun h => ?_) | refine hl_ga ?_ | refine hl_sk ?_ | refine hl_su ?_ | refine hl_gT ?_ | refine hl_gF ?_ | refine hl_gd (fun h => ?_) (fun h => ?_) | refine hx_next ?_ | refine hw_seq ?_ | refine hw_region ?_ | refine hw_dr ?_ | refine hw_block ?_ | refine hx_block ?_ | refine hw_tt ?_ | refine hw_ff ?_ | refine hw_iT ?_ | refine hw_iF ?_ | refine hw_skip ?_ | refine hw_ret ?_ | refine hw_exit ?_ | refine hx_then_ret ?_ | refine hx_block_ret ?_ | refine hx_then_exit ?_ | refine hx_block_here ?_ | refine hx_far ?_ | refine hx_any ?_ | (apply ha_end; decide +kernel))
  refine hx_ret1 rfl rfl (fun w hm => ⟨?_, hm.none⟩)
  have h := findI_ge p xs 0
  simp only [h]
theorem setsG_ok {n : Nat} {tot : Int} {ks : List Int} {xss : List (List Int)} (hv : ValidM n tot ks xss) : ∀ f i L, SetsOk n L → SetsOk n (setsG xss n f i L)
  | 0, _, _, h => h
  | f + 1, i, L, h => by
    rw [setsG]
    split
    · rename_i hi
      refine setsG_ok hv f _ _ ?_
      split
      · exact h
      · exact addK_ok hv h (h.all _ (getD_mem' hi)) _ (Nat.le_refl _)
    · exact h
noncomputable def canP (st tot : Int) (ks : List Int) (xss : List (List Int)) : Prop := ValidM st tot ks xss ∧ ∃ x ∈ canL st.toNat xss, SingN x
noncomputable instance (st tot : Int) (ks : List Int) (xss : List (List Int)) : Decidable (canP st tot ks xss) := Classical.propDecidable _
noncomputable def canC (st tot : Int) (ks : List Int) (xss : List (List Int)) : Int := if ValidM st tot ks xss then 0 else 1
noncomputable instance (L : List Nat) : Decidable (∃ x ∈ L, SingN x) := Classical.propDecidable _
end Go.Proofs.Ytgeidbjcphjbiaa
