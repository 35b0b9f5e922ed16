/- Contracts: sets of states as bits; CanCoalesce. -/
import Derived.Test.YteddlbgbakbpeaaF29
namespace Go.Eng
open Go.RowKit
section
variable {P : Program} {N : Nat} {env : Env} {w0 : World} {rs : List Res} {dst : Option Nat} {ty : TypeId} {pos : String} {after : Array Edge} {gd : Option (Nat × Bool)} {x : Operand} {a : Nat}
theorem q_convU {s t : TypeId} [hS : IntT P s .i64] [hT : IntT P t .u64] (hx : env.ev x = some (.int .i64 (a : Int))) (ha : a < 4611686018427387904) : QO P N env w0 rs ⟨dst, .convert s t x, ty, pos, after, gd⟩ (.int .u64 (a : Int)) := qo_val fun a' hs w _ => by
  have h1 : IntKind.u64.wrap (a : Int) = (a : Int) := by
    simp only [IntKind.wrap, IntKind.bits, IntKind.signed]
    simp
    omega
  have h2 : (convert s t (.int .i64 (a : Int))).run P w = .ok (.int .u64 (a : Int)) w := by
    simp [convert, run_underlying hS.und, run_underlying hT.und, Conv.intToInt, h1]
  simp [execOp, hs.ev hx, h2]
end
end Go.Eng
namespace Go.Proofs.Yteddlbgbakbpeaa
open Go.Eng Go.RowKit
set_option linter.unusedVariables false

/-- The set to which a set comes by a map, its first states done. -/
def imgN (xs : List Int) (set : Nat) : Nat → Nat
  | 0 => 0
  | s + 1 => if (set >>> s) &&& 1 = 1 then imgN xs set s ||| 1 * 2 ^ (xs.getD s 0).toNat else imgN xs set s
theorem imgN_lt {xs : List Int} {n : Nat} (hx : ∀ i, i < xs.length → 0 ≤ xs.getD i 0 ∧ xs.getD i 0 ≤ (n : Int) - 1) (set : Nat) : ∀ s, s ≤ xs.length → imgN xs set s < 2 ^ n
  | 0, _ => Nat.two_pow_pos n
  | s + 1, hs => by
    have ih := imgN_lt hx set s (by omega)
    have h1 := hx s (by omega)
    simp only [imgN]
    split
    · refine Nat.or_lt_two_pow ih ?_
      rw [Nat.one_mul]
      exact Nat.pow_lt_pow_right (by decide) (by omega)
    · exact ih
theorem imgN_pos {xs : List Int} {set : Nat} : ∀ s, (∃ i, i < s ∧ (set >>> i) &&& 1 = 1) → 0 < imgN xs set s
  | 0, h => by obtain ⟨i, hi, _⟩ := h; omega
  | s + 1, h => by
    simp only [imgN]
    split
    · have h1 := Nat.right_le_or (n := imgN xs set s) (m := 1 * 2 ^ (xs.getD s 0).toNat)
      have h2 := Nat.two_pow_pos (xs.getD s 0).toNat
      omega
    · rename_i hn
      obtain ⟨i, hi, hb⟩ := h
      refine imgN_pos s ⟨i, ?_, hb⟩
      by_cases e : i = s
      · subst e; exact absurd hb hn
      · omega
theorem some_bit : ∀ n, n < 7 → ∀ set, set < 64 → set < 2 ^ n → set ≠ 0 → ∃ i, i < n ∧ (set >>> i) &&& 1 = 1 := by decide +kernel
def SingN (set : Nat) : Prop := set &&& (set - 1) = 0
instance (set : Nat) : Decidable (SingN set) := by unfold SingN; infer_instance
def addK (xss : List (List Int)) (n x : Nat) : Nat → List Nat → List Nat
  | 0, L => L
  | k + 1, L => if imgN (xss.getD k []) x n ∈ addK xss n x k L then addK xss n x k L else addK xss n x k L ++ [imgN (xss.getD k []) x n]
def setsG (xss : List (List Int)) (n : Nat) : Nat → Nat → List Nat → List Nat
  | 0, _, L => L
  | f + 1, i, L => if i < L.length then setsG xss n f (i + 1) (if SingN (L.getD i 0) then L else addK xss n (L.getD i 0) xss.length L) else L
theorem setsG_end (xss : List (List Int)) (n f i : Nat) (L : List Nat) (h : L.length ≤ i) : setsG xss n f i L = L := by
  cases f with
  | zero => rfl
  | succ f => rw [setsG, if_neg (by omega)]
/-- Sets: no one twice, none empty. -/
structure SetsOk (n : Nat) (L : List Nat) : Prop where
  nd : L.Nodup
  all : ∀ x ∈ L, 0 < x ∧ x < 2 ^ n
theorem SetsOk.len {n : Nat} {L : List Nat} (h : SetsOk n L) (hn : n ≤ 6) : L.length ≤ 63 := by
  have h64 : 2 ^ n ≤ 64 := Nat.pow_le_pow_right (by decide) hn
  have h1 : L ⊆ (List.range 63).map (· + 1) := fun x hx => by
    have := h.all x hx
    rw [List.mem_map]
    exact ⟨x - 1, List.mem_range.2 (by omega), by omega⟩
  have h2 := h.nd.length_le_of_subset h1
  simpa using h2
theorem SetsOk.snoc {n : Nat} {L : List Nat} (h : SetsOk n L) {y : Nat} (hy : 0 < y ∧ y < 2 ^ n) (hn : y ∉ L) : SetsOk n (L ++ [y]) := by
  refine ⟨?_, fun x hx => ?_⟩
  · rw [List.nodup_append]
    refine ⟨h.nd, by simp, fun a ha b hb e => ?_⟩
    simp at hb; subst hb; subst e; exact hn ha
  · rcases List.mem_append.1 hx with h1 | h1
    · exact h.all x h1
    · simp at h1; subst h1; exact hy
theorem addK_pre (xss : List (List Int)) (n x : Nat) (L : List Nat) : ∀ k, ∃ T, addK xss n x k L = L ++ T
  | 0 => ⟨[], by simp [addK]⟩
  | k + 1 => by
    obtain ⟨T, hT⟩ := addK_pre xss n x L k
    simp only [addK]
    split
    · exact ⟨T, hT⟩
    · exact ⟨T ++ [imgN (xss.getD k []) x n], by rw [hT, List.append_assoc]⟩
theorem addK_getD (xss : List (List Int)) (n x : Nat) (L : List Nat) (k i : Nat) (h : i < L.length) : (addK xss n x k L).getD i 0 = L.getD i 0 ∧ i < (addK xss n x k L).length := by
  obtain ⟨T, hT⟩ := addK_pre xss n x L k
  rw [hT]
  refine ⟨?_, by simp; omega⟩
  rw [List.getD_eq_getElem?_getD, List.getElem?_append_left h, ← List.getD_eq_getElem?_getD]
section
variable {n : Nat} {tot : Int} {ks : List Int} {xss : List (List Int)}
theorem img_ok (hv : ValidM n tot ks xss) (k x : Nat) (hk : k < xss.length) (hx : 0 < x ∧ x < 2 ^ n) : 0 < imgN (xss.getD k []) x n ∧ imgN (xss.getD k []) x n < 2 ^ n := by
  have hs := hv.s1
  have hl := hv.rlen k hk
  have h64 : 2 ^ n ≤ 64 := Nat.pow_le_pow_right (by decide) (show n ≤ 6 by omega)
  refine ⟨imgN_pos n (some_bit n (by omega) x (by omega) hx.2 (by omega)), imgN_lt (fun i hi => (hv.row k hk).all i hi) x n (by omega)⟩
theorem addK_ok (hv : ValidM n tot ks xss) {L : List Nat} {x : Nat} (hL : SetsOk n L) (hx : 0 < x ∧ x < 2 ^ n) : ∀ k, k ≤ xss.length → SetsOk n (addK xss n x k L)
  | 0, _ => hL
  | k + 1, hk => by
    have ih := addK_ok hv hL hx k (by omega)
    simp only [addK]
    split
    · exact ih
    · rename_i h
      exact ih.snoc (img_ok hv k x (by omega) hx) h
theorem getD_mem' {L : List Nat} {i : Nat} (h : i < L.length) : L.getD i 0 ∈ L := by rw [getD_lt _ _ _ h]; exact List.getElem_mem h
end
def canL (n : Nat) (xss : List (List Int)) : List Nat := setsG xss n 64 0 [2 ^ n - 1]
theorem one_ok (n : Nat) (hn : 1 ≤ n) : SetsOk n [2 ^ n - 1] := by
  have h1 := Nat.pow_le_pow_right (show 0 < 2 by decide) hn
  refine ⟨by simp, fun x hx => ?_⟩
  simp at hx; subst hx; omega
theorem RdE.nat {w : World} {v : Value} {L : List Nat} (h : RdE eN 0 w v L) : RdE (Value.int .i64) 0 w v (L.map fun j : Nat => (j : Int)) := by
  refine ⟨by rw [List.length_map]; exact h.sl, fun i hi => ?_⟩
  rw [List.length_map] at hi
  have := h.get i hi
  rw [this]
  simp [eN, List.getD_eq_getElem?_getD, hi]
theorem mem_cast {L : List Nat} {y : Nat} : (y : Int) ∈ (L.map fun j : Nat => (j : Int)) ↔ y ∈ L := by
  rw [List.mem_map]
  constructor
  · rintro ⟨j, hj, e⟩
    have : j = y := by omega
    subst this; exact hj
  · exact fun h => ⟨y, h, rfl⟩

theorem isSingle_c (set : Nat) (h0 : 0 < set) (h1 : set < 4611686018427387904) (w : World) : Ret Try.prog 121 [.int .i64 (set : Int)] w (.bool (decide (SingN set))) := by
  obtain ⟨q, rfl⟩ : ∃ q, set = q + 1 := ⟨set - 1, by omega⟩
  refine calls_hw Try.func121 Try.ntmps121 rfl rfl ?_
  repeat' (first | refine hl_a ?_ | refine hq_a ?_ | refine hl_nil ?_ | refine hq_nil ?_ | refine hq_ga ?_ | refine hq_sk ?_ | refine hq_su ?_ | refine hq_gT ?_ | refine hq_gF ?_ | refine hq_gd (fun h => ?_) (fun h => ?_) | refine hl_ga ?_ | refine hl_sk ?_ | refine hl_su ?_ | refine hl_gT ?_ | refine hl_gF ?_ | refine hl_gd (fun h => ?_) (fun h => ?_) | refine hx_next ?_ | refine hw_seq ?_ | refine hw_region ?_ | refine hw_dr ?_ | refine hw_block ?_ | refine hx_block ?_ | refine hw_tt ?_ | refine hw_ff ?_ | refine hw_iT ?_ | refine hw_iF ?_ | refine hw_skip ?_ | refine hw_ret ?_ | refine hw_exit ?_ | refine hx_then_ret ?_ | refine hx_block_ret ?_ | refine hx_then_exit ?_ | refine hx_block_here ?_ | refine hx_far ?_ | refine hx_any ?_ | (apply ha_end; decide +kernel))
  rw [show (((q + 1 : Nat) : Int) - 1) = (q : Int) by omega]
  first | refine hl_q (by decide) (q_and (a := q + 1) (b := q) rfl rfl h1 (by omega)) ?_ | refine hq_q (by decide) (q_and (a := q + 1) (b := q) rfl rfl h1 (by omega)) ?_ | refine hl_g _ _ rfl rfl (by decide) (q_and (a := q + 1) (b := q) rfl rfl h1 (by omega)) ?_ | refine hq_g _ _ rfl rfl (by decide) (q_and (a := q + 1) (b := q) rfl rfl h1 (by omega)) ?_
  repeat' (first | refine hl_a ?_ | refine hq_a ?_ | refine hl_nil ?_ | refine hq_nil ?_ | refine hq_ga ?_ | refine hq_sk ?_ | refine hq_su ?_ | refine hq_gT ?_ | refine hq_gF ?_ | refine hq_gd (fun h => ?_) (fun h => ?_) | refine hl_ga ?_ | refine hl_sk ?_ | refine hl_su ?_ | refine hl_gT ?_ | refine hl_gF ?_ | refine hl_gd (fun h => ?_) (fun h => ?_) | refine hx_next ?_ | refine hw_seq ?_ | refine hw_region ?_ | refine hw_dr ?_ | refine hw_block ?_ | refine hx_block ?_ | refine hw_tt ?_ | refine hw_ff ?_ | refine hw_iT ?_ | refine hw_iF ?_ | refine hw_skip ?_ | refine hw_ret ?_ | refine hw_exit ?_ | refine hx_then_ret ?_ | refine hx_block_ret ?_ | refine hx_then_exit ?_ | refine hx_block_here ?_ | refine hx_far ?_ | refine hx_any ?_ | (apply ha_end; decide +kernel))
  refine hx_ret1 rfl rfl (fun w hm => ⟨?_, hm.none⟩)
  refine dec_int ?_
  show (((q + 1) &&& q : Nat) : Int) = 0 ↔ (q + 1) &&& (q + 1 - 1) = 0
  rw [Nat.add_sub_cancel]
  exact ⟨fun e => by exact_mod_cast e, fun e => by exact_mod_cast e⟩
theorem l05Single_c (set : Nat) (h0 : 0 < set) (h1 : set < 4611686018427387904) (w : World) : Ret Try.prog 118 [.int .i64 (set : Int)] w (.bool (decide (SingN set))) := by
  obtain ⟨q, rfl⟩ : ∃ q, set = q + 1 := ⟨set - 1, by omega⟩
  refine calls_hw Try.func118 Try.ntmps118 rfl rfl ?_
  repeat' (first | refine hl_a ?_ | refine hq_a ?_ | refine hl_nil ?_ | refine hq_nil ?_ | refine hq_ga ?_ | refine hq_sk ?_ | refine hq_su ?_ | refine hq_gT ?_ | refine hq_gF ?_ | refine hq_gd (fun h => ?_) (fun h => ?_) | refine hl_ga ?_ | refine hl_sk ?_ | refine hl_su ?_ | refine hl_gT ?_ | refine hl_gF ?_ | refine hl_gd (fun h => ?_) (fun h => ?_) | refine hx_next ?_ | refine hw_seq ?_ | refine hw_region ?_ | refine hw_dr ?_ | refine hw_block ?_ | refine hx_block ?_ | refine hw_tt ?_ | refine hw_ff ?_ | refine hw_iT ?_ | refine hw_iF ?_ | refine hw_skip ?_ | refine hw_ret ?_ | refine hw_exit ?_ | refine hx_then_ret ?_ | refine hx_block_ret ?_ | refine hx_then_exit ?_ | refine hx_block_here ?_ | refine hx_far ?_ | refine hx_any ?_ | (apply ha_end; decide +kernel))
  rw [show (((q + 1 : Nat) : Int) - 1) = (q : Int) by omega]
  first | refine hl_q (by decide) (q_and (a := q + 1) (b := q) rfl rfl h1 (by omega)) ?_ | refine hq_q (by decide) (q_and (a := q + 1) (b := q) rfl rfl h1 (by omega)) ?_ | refine hl_g _ _ rfl rfl (by decide) (q_and (a := q + 1) (b := q) rfl rfl h1 (by omega)) ?_ | refine hq_g _ _ rfl rfl (by decide) (q_and (a := q + 1) (b := q) rfl rfl h1 (by omega)) ?_
  repeat' (first | refine hl_a ?_ | refine hq_a ?_ | refine hl_nil ?_ | refine hq_nil ?_ | refine hq_ga ?_ | refine hq_sk ?_ | refine hq_su ?_ | refine hq_gT ?_ | refine hq_gF ?_ | refine hq_gd (fun h => ?_) (fun h => ?_) | refine hl_ga ?_ | refine hl_sk ?_ | refine hl_su ?_ | refine hl_gT ?_ | refine hl_gF ?_ | refine hl_gd (fun h => ?_) (fun h => ?_) | refine hx_next ?_ | refine hw_seq ?_ | refine hw_region ?_ | refine hw_dr ?_ | refine hw_block ?_ | refine hx_block ?_ | refine hw_tt ?_ | refine hw_ff ?_ | refine hw_iT ?_ | refine hw_iF ?_ | refine hw_skip ?_ | refine hw_ret ?_ | refine hw_exit ?_ | refine hx_then_ret ?_ | refine hx_block_ret ?_ | refine hx_then_exit ?_ | refine hx_block_here ?_ | refine hx_far ?_ | refine hx_any ?_ | (apply ha_end; decide +kernel))
  refine hx_ret1 rfl rfl (fun w hm => ⟨?_, hm.none⟩)
  refine dec_int ?_
  show (((q + 1) &&& q : Nat) : Int) = 0 ↔ (q + 1) &&& (q + 1 - 1) = 0
  rw [Nat.add_sub_cancel]
  exact ⟨fun e => by exact_mod_cast e, fun e => by exact_mod_cast e⟩
set_option maxHeartbeats 1000000 in
theorem setBy_c (k : Int) (u : Value) (xs : List Int) (n set : Nat) (w : World) (hx : RdE (Value.int .i64) 0 w u xs) (hl : xs.length = n) (hn : n ≤ 6) (hall : ∀ i, i < xs.length → 0 ≤ xs.getD i 0 ∧ xs.getD i 0 ≤ (n : Int) - 1) (hs : set < 4611686018427387904) :
    Ret Try.prog 132 [mpV k u, .int .i64 (set : Int)] w (.int .i64 (imgN xs set n : Nat)) := by
  refine calls_hw Try.func132 Try.ntmps132 rfl rfl ?_
  have hsl := hx.sl
  have h64 : 2 ^ n ≤ 64 := Nat.pow_le_pow_right (by decide) hn
  repeat' (first | refine hl_a ?_ | refine hq_a ?_ | refine hl_nil ?_ | refine hq_nil ?_ | refine hq_ga ?_ | refine hq_sk ?_ | refine hq_su ?_ | refine hq_gT ?_ | refine hq_gF ?_ | refine hq_gd (fun h => ?_) (fun h => ?_) | refine hl_ga ?_ | refine hl_sk ?_ | refine hl_su ?_ | refine hl_gT ?_ | refine hl_gF ?_ | refine hl_gd (fun h => ?_) (fun h => ?_) | refine hx_next ?_ | refine hw_seq ?_ | refine hw_region ?_ | refine hw_dr ?_ | refine hw_block ?_ | refine hx_block ?_ | refine hw_tt ?_ | refine hw_ff ?_ | refine hw_iT ?_ | refine hw_iF ?_ | refine hw_skip ?_ | refine hw_ret ?_ | refine hw_exit ?_ | refine hx_then_ret ?_ | refine hx_block_ret ?_ | refine hx_then_exit ?_ | refine hx_block_here ?_ | refine hx_far ?_ | refine hx_any ?_ | (apply ha_end; decide +kernel))
  refine hl_box (by decide) rfl (fun b => ?_)
  repeat' (first | refine hl_a ?_ | refine hq_a ?_ | refine hl_nil ?_ | refine hq_nil ?_ | refine hq_ga ?_ | refine hq_sk ?_ | refine hq_su ?_ | refine hq_gT ?_ | refine hq_gF ?_ | refine hq_gd (fun h => ?_) (fun h => ?_) | refine hl_ga ?_ | refine hl_sk ?_ | refine hl_su ?_ | refine hl_gT ?_ | refine hl_gF ?_ | refine hl_gd (fun h => ?_) (fun h => ?_) | refine hx_next ?_ | refine hw_seq ?_ | refine hw_region ?_ | refine hw_dr ?_ | refine hw_block ?_ | refine hx_block ?_ | refine hw_tt ?_ | refine hw_ff ?_ | refine hw_iT ?_ | refine hw_iF ?_ | refine hw_skip ?_ | refine hw_ret ?_ | refine hw_exit ?_ | refine hx_then_ret ?_ | refine hx_block_ret ?_ | refine hx_then_exit ?_ | refine hx_block_here ?_ | refine hx_far ?_ | refine hx_any ?_ | (apply ha_end; decide +kernel))
  refine hw_mem (rs' := []) (fun w hm => hm.none) ?_
  refine hw_loop (fun e r m => r = [] ∧ ∃ s : Nat, s ≤ xs.length ∧ m = xs.length - s ∧ e = [(1, .int .i64 (set : Int)), (5, .int .i64 ((imgN xs set s : Nat) : Int)), (9, u), (10, .int .i64 (xs.length : Int)), (11, .int .i64 (s : Int))])
    ⟨rfl, 0, Nat.zero_le _, rfl, rfl⟩ ⟨rfl, rfl, rfl, rfl, rfl, trivial⟩ ?_
  rintro _ _ _ ⟨rfl, s, hs2, rfl, rfl⟩
  repeat' (first | refine hl_a ?_ | refine hq_a ?_ | refine hl_nil ?_ | refine hq_nil ?_ | refine hq_ga ?_ | refine hq_sk ?_ | refine hq_su ?_ | refine hq_gT ?_ | refine hq_gF ?_ | refine hq_gd (fun h => ?_) (fun h => ?_) | refine hl_ga ?_ | refine hl_sk ?_ | refine hl_su ?_ | refine hl_gT ?_ | refine hl_gF ?_ | refine hl_gd (fun h => ?_) (fun h => ?_) | refine hx_next ?_ | refine hw_seq ?_ | refine hw_region ?_ | refine hw_dr ?_ | refine hw_block ?_ | refine hx_block ?_ | refine hw_tt ?_ | refine hw_ff ?_ | refine hw_iT ?_ | refine hw_iF ?_ | refine hw_skip ?_ | refine hw_ret ?_ | refine hw_exit ?_ | refine hx_then_ret ?_ | refine hx_block_ret ?_ | refine hx_then_exit ?_ | refine hx_block_here ?_ | refine hx_far ?_ | refine hx_any ?_ | (apply ha_end; decide +kernel))
  refine hw_if rfl (fun hlt => ?_) (fun hge => ?_)
  · have hs3 : s < xs.length := by omega
    have hc := hx.get s hs3
    have hb := hall s hs3
    have hlt2 := imgN_lt hall set s hs2
    obtain ⟨t, ht⟩ := nat_of hb.1
    rw [ht] at hc hb
    have htp : 2 ^ t < 2 ^ n := Nat.pow_lt_pow_right (by decide) (by omega)
    have hS : imgN xs set (s + 1) = if (set >>> s) &&& 1 = 1 then imgN xs set s ||| 1 * 2 ^ t else imgN xs set s := by rw [imgN, ht, Int.toNat_natCast]
    have hsh : set >>> s ≤ set := Nat.shiftRight_le set s
    repeat' (first | refine hl_a ?_ | refine hq_a ?_ | refine hl_nil ?_ | refine hq_nil ?_ | refine hq_ga ?_ | refine hq_sk ?_ | refine hq_su ?_ | refine hq_gT ?_ | refine hq_gF ?_ | refine hq_gd (fun h => ?_) (fun h => ?_) | refine hl_ga ?_ | refine hl_sk ?_ | refine hl_su ?_ | refine hl_gT ?_ | refine hl_gF ?_ | refine hl_gd (fun h => ?_) (fun h => ?_) | refine hx_next ?_ | refine hw_seq ?_ | refine hw_region ?_ | refine hw_dr ?_ | refine hw_block ?_ | refine hx_block ?_ | refine hw_tt ?_ | refine hw_ff ?_ | refine hw_iT ?_ | refine hw_iF ?_ | refine hw_skip ?_ | refine hw_ret ?_ | refine hw_exit ?_ | refine hx_then_ret ?_ | refine hx_block_ret ?_ | refine hx_then_exit ?_ | refine hx_block_here ?_ | refine hx_far ?_ | refine hx_any ?_ | (apply ha_end; decide +kernel))
    first | refine hl_q (by decide) (q_shr (a := set) (b := s) rfl rfl (by omega)) ?_ | refine hq_q (by decide) (q_shr (a := set) (b := s) rfl rfl (by omega)) ?_ | refine hl_g _ _ rfl rfl (by decide) (q_shr (a := set) (b := s) rfl rfl (by omega)) ?_ | refine hq_g _ _ rfl rfl (by decide) (q_shr (a := set) (b := s) rfl rfl (by omega)) ?_
    repeat' (first | refine hl_a ?_ | refine hq_a ?_ | refine hl_nil ?_ | refine hq_nil ?_ | refine hq_ga ?_ | refine hq_sk ?_ | refine hq_su ?_ | refine hq_gT ?_ | refine hq_gF ?_ | refine hq_gd (fun h => ?_) (fun h => ?_) | refine hl_ga ?_ | refine hl_sk ?_ | refine hl_su ?_ | refine hl_gT ?_ | refine hl_gF ?_ | refine hl_gd (fun h => ?_) (fun h => ?_) | refine hx_next ?_ | refine hw_seq ?_ | refine hw_region ?_ | refine hw_dr ?_ | refine hw_block ?_ | refine hx_block ?_ | refine hw_tt ?_ | refine hw_ff ?_ | refine hw_iT ?_ | refine hw_iF ?_ | refine hw_skip ?_ | refine hw_ret ?_ | refine hw_exit ?_ | refine hx_then_ret ?_ | refine hx_block_ret ?_ | refine hx_then_exit ?_ | refine hx_block_here ?_ | refine hx_far ?_ | refine hx_any ?_ | (apply ha_end; decide +kernel))
    first | refine hl_q (by decide) (q_and (b := 1) rfl rfl (by omega) (by omega)) ?_ | refine hq_q (by decide) (q_and (b := 1) rfl rfl (by omega) (by omega)) ?_ | refine hl_g _ _ rfl rfl (by decide) (q_and (b := 1) rfl rfl (by omega) (by omega)) ?_ | refine hq_g _ _ rfl rfl (by decide) (q_and (b := 1) rfl rfl (by omega) (by omega)) ?_
    repeat' (first | refine hl_a ?_ | refine hq_a ?_ | refine hl_nil ?_ | refine hq_nil ?_ | refine hq_ga ?_ | refine hq_sk ?_ | refine hq_su ?_ | refine hq_gT ?_ | refine hq_gF ?_ | refine hq_gd (fun h => ?_) (fun h => ?_) | refine hl_ga ?_ | refine hl_sk ?_ | refine hl_su ?_ | refine hl_gT ?_ | refine hl_gF ?_ | refine hl_gd (fun h => ?_) (fun h => ?_) | refine hx_next ?_ | refine hw_seq ?_ | refine hw_region ?_ | refine hw_dr ?_ | refine hw_block ?_ | refine hx_block ?_ | refine hw_tt ?_ | refine hw_ff ?_ | refine hw_iT ?_ | refine hw_iF ?_ | refine hw_skip ?_ | refine hw_ret ?_ | refine hw_exit ?_ | refine hx_then_ret ?_ | refine hx_block_ret ?_ | refine hx_then_exit ?_ | refine hx_block_here ?_ | refine hx_far ?_ | refine hx_any ?_ | (apply ha_end; decide +kernel))
    refine hw_if rfl (fun h => ?_) (fun h => ?_)
    · rw [if_pos (by exact_mod_cast h)] at hS
      repeat' (first | refine hl_a ?_ | refine hq_a ?_ | refine hl_nil ?_ | refine hq_nil ?_ | refine hq_ga ?_ | refine hq_sk ?_ | refine hq_su ?_ | refine hq_gT ?_ | refine hq_gF ?_ | refine hq_gd (fun h => ?_) (fun h => ?_) | refine hl_ga ?_ | refine hl_sk ?_ | refine hl_su ?_ | refine hl_gT ?_ | refine hl_gF ?_ | refine hl_gd (fun h => ?_) (fun h => ?_) | refine hx_next ?_ | refine hw_seq ?_ | refine hw_region ?_ | refine hw_dr ?_ | refine hw_block ?_ | refine hx_block ?_ | refine hw_tt ?_ | refine hw_ff ?_ | refine hw_iT ?_ | refine hw_iF ?_ | refine hw_skip ?_ | refine hw_ret ?_ | refine hw_exit ?_ | refine hx_then_ret ?_ | refine hx_block_ret ?_ | refine hx_then_exit ?_ | refine hx_block_here ?_ | refine hx_far ?_ | refine hx_any ?_ | (apply ha_end; decide +kernel))
      first | refine hl_q (by decide) (q_shl (a := 1) (b := t) rfl rfl (by omega) (by omega)) ?_ | refine hq_q (by decide) (q_shl (a := 1) (b := t) rfl rfl (by omega) (by omega)) ?_ | refine hl_g _ _ rfl rfl (by decide) (q_shl (a := 1) (b := t) rfl rfl (by omega) (by omega)) ?_ | refine hq_g _ _ rfl rfl (by decide) (q_shl (a := 1) (b := t) rfl rfl (by omega) (by omega)) ?_
      first | refine hl_q (by decide) (q_or (a := imgN xs set s) (b := 1 * 2 ^ t) rfl rfl (by omega) (by omega)) ?_ | refine hq_q (by decide) (q_or (a := imgN xs set s) (b := 1 * 2 ^ t) rfl rfl (by omega) (by omega)) ?_ | refine hl_g _ _ rfl rfl (by decide) (q_or (a := imgN xs set s) (b := 1 * 2 ^ t) rfl rfl (by omega) (by omega)) ?_ | refine hq_g _ _ rfl rfl (by decide) (q_or (a := imgN xs set s) (b := 1 * 2 ^ t) rfl rfl (by omega) (by omega)) ?_
      repeat' (first | refine hl_a ?_ | refine hq_a ?_ | refine hl_nil ?_ | refine hq_nil ?_ | refine hq_ga ?_ | refine hq_sk ?_ | refine hq_su ?_ | refine hq_gT ?_ | refine hq_gF ?_ | refine hq_gd (fun h => ?_) (fun h => ?_) | refine hl_ga ?_ | refine hl_sk ?_ | refine hl_su ?_ | refine hl_gT ?_ | refine hl_gF ?_ | refine hl_gd (fun h => ?_) (fun h => ?_) | refine hx_next ?_ | refine hw_seq ?_ | refine hw_region ?_ | refine hw_dr ?_ | refine hw_block ?_ | refine hx_block ?_ | refine hw_tt ?_ | refine hw_ff ?_ | refine hw_iT ?_ | refine hw_iF ?_ | refine hw_skip ?_ | refine hw_ret ?_ | refine hw_exit ?_ | refine hx_then_ret ?_ | refine hx_block_ret ?_ | refine hx_then_exit ?_ | refine hx_block_here ?_ | refine hx_far ?_ | refine hx_any ?_ | (apply ha_end; decide +kernel))
      exact hx_round ⟨rfl, s + 1, hs3, rfl, rfl⟩ (by omega) ⟨rfl, by rw [hS]; rfl, rfl, rfl, rfl, trivial⟩
    · rw [if_neg (by exact_mod_cast h)] at hS
      repeat' (first | refine hl_a ?_ | refine hq_a ?_ | refine hl_nil ?_ | refine hq_nil ?_ | refine hq_ga ?_ | refine hq_sk ?_ | refine hq_su ?_ | refine hq_gT ?_ | refine hq_gF ?_ | refine hq_gd (fun h => ?_) (fun h => ?_) | refine hl_ga ?_ | refine hl_sk ?_ | refine hl_su ?_ | refine hl_gT ?_ | refine hl_gF ?_ | refine hl_gd (fun h => ?_) (fun h => ?_) | refine hx_next ?_ | refine hw_seq ?_ | refine hw_region ?_ | refine hw_dr ?_ | refine hw_block ?_ | refine hx_block ?_ | refine hw_tt ?_ | refine hw_ff ?_ | refine hw_iT ?_ | refine hw_iF ?_ | refine hw_skip ?_ | refine hw_ret ?_ | refine hw_exit ?_ | refine hx_then_ret ?_ | refine hx_block_ret ?_ | refine hx_then_exit ?_ | refine hx_block_here ?_ | refine hx_far ?_ | refine hx_any ?_ | (apply ha_end; decide +kernel))
      exact hx_round ⟨rfl, s + 1, hs3, rfl, rfl⟩ (by omega) ⟨rfl, by rw [hS]; rfl, rfl, rfl, rfl, trivial⟩
  · have e : s = n := by omega
    subst e
    repeat' (first | refine hl_a ?_ | refine hq_a ?_ | refine hl_nil ?_ | refine hq_nil ?_ | refine hq_ga ?_ | refine hq_sk ?_ | refine hq_su ?_ | refine hq_gT ?_ | refine hq_gF ?_ | refine hq_gd (fun h => ?_) (fun h => ?_) | refine hl_ga ?_ | refine hl_sk ?_ | refine hl_su ?_ | refine hl_gT ?_ | refine hl_gF ?_ | refine hl_gd (fun h => ?_) (fun h => ?_) | refine hx_next ?_ | refine hw_seq ?_ | refine hw_region ?_ | refine hw_dr ?_ | refine hw_block ?_ | refine hx_block ?_ | refine hw_tt ?_ | refine hw_ff ?_ | refine hw_iT ?_ | refine hw_iF ?_ | refine hw_skip ?_ | refine hw_ret ?_ | refine hw_exit ?_ | refine hx_then_ret ?_ | refine hx_block_ret ?_ | refine hx_then_exit ?_ | refine hx_block_here ?_ | refine hx_far ?_ | refine hx_any ?_ | (apply ha_end; decide +kernel))
    exact hx_ret1 rfl rfl (fun w hm => ⟨rfl, hm.none⟩)
set_option maxHeartbeats 1000000 in
theorem l05Image_c (p : Addr) (n : Nat) (tot : Int) (v : Value) (ks : List Int) (xss : List (List Int)) (row : Nat → Value) (set k : Nat) (w : World) (hp : PtM w p n tot v ks xss row) (hv : ValidM n tot ks xss) (hk : k < xss.length) (hs : set < 4611686018427387904) :
    Ret Try.prog 129 [.pointer (some p), .int .i64 (set : Int), .int .i64 (k : Int)] w (.int .i64 ((imgN (xss.getD k []) set n : Nat) : Int)) := by
  refine calls_hw Try.func129 Try.ntmps129 rfl rfl ?_
  obtain ⟨q0, q1, q2, hr⟩ := hp
  have hsl := hr.sl
  have hs1 := hv.s1
  have ck := hr.get k hk
  have hrk := hr.row k hk
  have sk := hrk.sl
  have hrl := hv.rlen k hk
  have hall := (hv.row k hk).all
  have h64 : 2 ^ n ≤ 64 := Nat.pow_le_pow_right (by decide) (show n ≤ 6 by omega)
  repeat' (first | refine hl_a ?_ | refine hq_a ?_ | refine hl_nil ?_ | refine hq_nil ?_ | refine hq_ga ?_ | refine hq_sk ?_ | refine hq_su ?_ | refine hq_gT ?_ | refine hq_gF ?_ | refine hq_gd (fun h => ?_) (fun h => ?_) | refine hl_ga ?_ | refine hl_sk ?_ | refine hl_su ?_ | refine hl_gT ?_ | refine hl_gF ?_ | refine hl_gd (fun h => ?_) (fun h => ?_) | refine hx_next ?_ | refine hw_seq ?_ | refine hw_region ?_ | refine hw_dr ?_ | refine hw_block ?_ | refine hx_block ?_ | refine hw_tt ?_ | refine hw_ff ?_ | refine hw_iT ?_ | refine hw_iF ?_ | refine hw_skip ?_ | refine hw_ret ?_ | refine hw_exit ?_ | refine hx_then_ret ?_ | refine hx_block_ret ?_ | refine hx_then_exit ?_ | refine hx_block_here ?_ | refine hx_far ?_ | refine hx_any ?_ | (apply ha_end; decide +kernel))
  refine hw_loop (fun e r m => r = [] ∧ ∃ s : Nat, s ≤ n ∧ m = n - s ∧ e = [(0, .pointer (some p)), (1, .int .i64 (set : Int)), (2, .int .i64 (k : Int)), (7, .int .i64 ((imgN (xss.getD k []) set s : Nat) : Int)), (8, .int .i64 (s : Int))])
    ⟨rfl, 0, Nat.zero_le _, rfl, rfl⟩ ⟨rfl, rfl, rfl, rfl, rfl, trivial⟩ ?_
  rintro _ _ _ ⟨rfl, s, hs2, rfl, rfl⟩
  repeat' (first | refine hl_a ?_ | refine hq_a ?_ | refine hl_nil ?_ | refine hq_nil ?_ | refine hq_ga ?_ | refine hq_sk ?_ | refine hq_su ?_ | refine hq_gT ?_ | refine hq_gF ?_ | refine hq_gd (fun h => ?_) (fun h => ?_) | refine hl_ga ?_ | refine hl_sk ?_ | refine hl_su ?_ | refine hl_gT ?_ | refine hl_gF ?_ | refine hl_gd (fun h => ?_) (fun h => ?_) | refine hx_next ?_ | refine hw_seq ?_ | refine hw_region ?_ | refine hw_dr ?_ | refine hw_block ?_ | refine hx_block ?_ | refine hw_tt ?_ | refine hw_ff ?_ | refine hw_iT ?_ | refine hw_iF ?_ | refine hw_skip ?_ | refine hw_ret ?_ | refine hw_exit ?_ | refine hx_then_ret ?_ | refine hx_block_ret ?_ | refine hx_then_exit ?_ | refine hx_block_here ?_ | refine hx_far ?_ | refine hx_any ?_ | (apply ha_end; decide +kernel))
  refine hw_if rfl (fun hlt => ?_) (fun hge => ?_)
  · have hs3 : s < (xss.getD k []).length := by omega
    have hc : w.cell? (vAt (row k) s) = some (.int .i64 ((xss.getD k []).getD s 0)) := hrk.get s hs3
    have hb := hall s hs3
    have hlt2 := imgN_lt (n := n) hall set s (by omega)
    obtain ⟨t, ht⟩ := nat_of hb.1
    rw [ht] at hc hb
    have htp : 2 ^ t < 2 ^ n := Nat.pow_lt_pow_right (by decide) (by omega)
    have hS : imgN (xss.getD k []) set (s + 1) = if (set >>> s) &&& 1 = 1 then imgN (xss.getD k []) set s ||| 1 * 2 ^ t else imgN (xss.getD k []) set s := by rw [imgN, ht, Int.toNat_natCast]
    have hsh : set >>> s ≤ set := Nat.shiftRight_le set s
    repeat' (first | refine hl_a ?_ | refine hq_a ?_ | refine hl_nil ?_ | refine hq_nil ?_ | refine hq_ga ?_ | refine hq_sk ?_ | refine hq_su ?_ | refine hq_gT ?_ | refine hq_gF ?_ | refine hq_gd (fun h => ?_) (fun h => ?_) | refine hl_ga ?_ | refine hl_sk ?_ | refine hl_su ?_ | refine hl_gT ?_ | refine hl_gF ?_ | refine hl_gd (fun h => ?_) (fun h => ?_) | refine hx_next ?_ | refine hw_seq ?_ | refine hw_region ?_ | refine hw_dr ?_ | refine hw_block ?_ | refine hx_block ?_ | refine hw_tt ?_ | refine hw_ff ?_ | refine hw_iT ?_ | refine hw_iF ?_ | refine hw_skip ?_ | refine hw_ret ?_ | refine hw_exit ?_ | refine hx_then_ret ?_ | refine hx_block_ret ?_ | refine hx_then_exit ?_ | refine hx_block_here ?_ | refine hx_far ?_ | refine hx_any ?_ | (apply ha_end; decide +kernel))
    first | refine hl_q (by decide) (q_convU (a := s) rfl (by omega)) ?_ | refine hq_q (by decide) (q_convU (a := s) rfl (by omega)) ?_ | refine hl_g _ _ rfl rfl (by decide) (q_convU (a := s) rfl (by omega)) ?_ | refine hq_g _ _ rfl rfl (by decide) (q_convU (a := s) rfl (by omega)) ?_
    first | refine hl_q (by decide) (q_shr (a := set) (b := s) rfl rfl (by omega)) ?_ | refine hq_q (by decide) (q_shr (a := set) (b := s) rfl rfl (by omega)) ?_ | refine hl_g _ _ rfl rfl (by decide) (q_shr (a := set) (b := s) rfl rfl (by omega)) ?_ | refine hq_g _ _ rfl rfl (by decide) (q_shr (a := set) (b := s) rfl rfl (by omega)) ?_
    repeat' (first | refine hl_a ?_ | refine hq_a ?_ | refine hl_nil ?_ | refine hq_nil ?_ | refine hq_ga ?_ | refine hq_sk ?_ | refine hq_su ?_ | refine hq_gT ?_ | refine hq_gF ?_ | refine hq_gd (fun h => ?_) (fun h => ?_) | refine hl_ga ?_ | refine hl_sk ?_ | refine hl_su ?_ | refine hl_gT ?_ | refine hl_gF ?_ | refine hl_gd (fun h => ?_) (fun h => ?_) | refine hx_next ?_ | refine hw_seq ?_ | refine hw_region ?_ | refine hw_dr ?_ | refine hw_block ?_ | refine hx_block ?_ | refine hw_tt ?_ | refine hw_ff ?_ | refine hw_iT ?_ | refine hw_iF ?_ | refine hw_skip ?_ | refine hw_ret ?_ | refine hw_exit ?_ | refine hx_then_ret ?_ | refine hx_block_ret ?_ | refine hx_then_exit ?_ | refine hx_block_here ?_ | refine hx_far ?_ | refine hx_any ?_ | (apply ha_end; decide +kernel))
    first | refine hl_q (by decide) (q_and (b := 1) rfl rfl (by omega) (by omega)) ?_ | refine hq_q (by decide) (q_and (b := 1) rfl rfl (by omega) (by omega)) ?_ | refine hl_g _ _ rfl rfl (by decide) (q_and (b := 1) rfl rfl (by omega) (by omega)) ?_ | refine hq_g _ _ rfl rfl (by decide) (q_and (b := 1) rfl rfl (by omega) (by omega)) ?_
    repeat' (first | refine hl_a ?_ | refine hq_a ?_ | refine hl_nil ?_ | refine hq_nil ?_ | refine hq_ga ?_ | refine hq_sk ?_ | refine hq_su ?_ | refine hq_gT ?_ | refine hq_gF ?_ | refine hq_gd (fun h => ?_) (fun h => ?_) | refine hl_ga ?_ | refine hl_sk ?_ | refine hl_su ?_ | refine hl_gT ?_ | refine hl_gF ?_ | refine hl_gd (fun h => ?_) (fun h => ?_) | refine hx_next ?_ | refine hw_seq ?_ | refine hw_region ?_ | refine hw_dr ?_ | refine hw_block ?_ | refine hx_block ?_ | refine hw_tt ?_ | refine hw_ff ?_ | refine hw_iT ?_ | refine hw_iF ?_ | refine hw_skip ?_ | refine hw_ret ?_ | refine hw_exit ?_ | refine hx_then_ret ?_ | refine hx_block_ret ?_ | refine hx_then_exit ?_ | refine hx_block_here ?_ | refine hx_far ?_ | refine hx_any ?_ | (apply ha_end; decide +kernel))
    refine hw_if rfl (fun h => ?_) (fun h => ?_)
    · rw [if_pos (by exact_mod_cast h)] at hS
      repeat' (first | refine hl_a ?_ | refine hq_a ?_ | refine hl_nil ?_ | refine hq_nil ?_ | refine hq_ga ?_ | refine hq_sk ?_ | refine hq_su ?_ | refine hq_gT ?_ | refine hq_gF ?_ | refine hq_gd (fun h => ?_) (fun h => ?_) | refine hl_ga ?_ | refine hl_sk ?_ | refine hl_su ?_ | refine hl_gT ?_ | refine hl_gF ?_ | refine hl_gd (fun h => ?_) (fun h => ?_) | refine hx_next ?_ | refine hw_seq ?_ | refine hw_region ?_ | refine hw_dr ?_ | refine hw_block ?_ | refine hx_block ?_ | refine hw_tt ?_ | refine hw_ff ?_ | refine hw_iT ?_ | refine hw_iF ?_ | refine hw_skip ?_ | refine hw_ret ?_ | refine hw_exit ?_ | refine hx_then_ret ?_ | refine hx_block_ret ?_ | refine hx_then_exit ?_ | refine hx_block_here ?_ | refine hx_far ?_ | refine hx_any ?_ | (apply ha_end; decide +kernel))
      first | refine hl_q (by decide) (q_convU (a := t) rfl (by omega)) ?_ | refine hq_q (by decide) (q_convU (a := t) rfl (by omega)) ?_ | refine hl_g _ _ rfl rfl (by decide) (q_convU (a := t) rfl (by omega)) ?_ | refine hq_g _ _ rfl rfl (by decide) (q_convU (a := t) rfl (by omega)) ?_
      first | refine hl_q (by decide) (q_shl (a := 1) (b := t) rfl rfl (by omega) (by omega)) ?_ | refine hq_q (by decide) (q_shl (a := 1) (b := t) rfl rfl (by omega) (by omega)) ?_ | refine hl_g _ _ rfl rfl (by decide) (q_shl (a := 1) (b := t) rfl rfl (by omega) (by omega)) ?_ | refine hq_g _ _ rfl rfl (by decide) (q_shl (a := 1) (b := t) rfl rfl (by omega) (by omega)) ?_
      first | refine hl_q (by decide) (q_or (a := imgN (xss.getD k []) set s) (b := 1 * 2 ^ t) rfl rfl (by omega) (by omega)) ?_ | refine hq_q (by decide) (q_or (a := imgN (xss.getD k []) set s) (b := 1 * 2 ^ t) rfl rfl (by omega) (by omega)) ?_ | refine hl_g _ _ rfl rfl (by decide) (q_or (a := imgN (xss.getD k []) set s) (b := 1 * 2 ^ t) rfl rfl (by omega) (by omega)) ?_ | refine hq_g _ _ rfl rfl (by decide) (q_or (a := imgN (xss.getD k []) set s) (b := 1 * 2 ^ t) rfl rfl (by omega) (by omega)) ?_
      repeat' (first | refine hl_a ?_ | refine hq_a ?_ | refine hl_nil ?_ | refine hq_nil ?_ | refine hq_ga ?_ | refine hq_sk ?_ | refine hq_su ?_ | refine hq_gT ?_ | refine hq_gF ?_ | refine hq_gd (fun h => ?_) (fun h => ?_) | refine hl_ga ?_ | refine hl_sk ?_ | refine hl_su ?_ | refine hl_gT ?_ | refine hl_gF ?_ | refine hl_gd (fun h => ?_) (fun h => ?_) | refine hx_next ?_ | refine hw_seq ?_ | refine hw_region ?_ | refine hw_dr ?_ | refine hw_block ?_ | refine hx_block ?_ | refine hw_tt ?_ | refine hw_ff ?_ | refine hw_iT ?_ | refine hw_iF ?_ | refine hw_skip ?_ | refine hw_ret ?_ | refine hw_exit ?_ | refine hx_then_ret ?_ | refine hx_block_ret ?_ | refine hx_then_exit ?_ | refine hx_block_here ?_ | refine hx_far ?_ | refine hx_any ?_ | (apply ha_end; decide +kernel))
      exact hx_round ⟨rfl, s + 1, by omega, rfl, rfl⟩ (by omega) ⟨rfl, rfl, rfl, by rw [hS]; rfl, rfl, trivial⟩
    · rw [if_neg (by exact_mod_cast h)] at hS
      repeat' (first | refine hl_a ?_ | refine hq_a ?_ | refine hl_nil ?_ | refine hq_nil ?_ | refine hq_ga ?_ | refine hq_sk ?_ | refine hq_su ?_ | refine hq_gT ?_ | refine hq_gF ?_ | refine hq_gd (fun h => ?_) (fun h => ?_) | refine hl_ga ?_ | refine hl_sk ?_ | refine hl_su ?_ | refine hl_gT ?_ | refine hl_gF ?_ | refine hl_gd (fun h => ?_) (fun h => ?_) | refine hx_next ?_ | refine hw_seq ?_ | refine hw_region ?_ | refine hw_dr ?_ | refine hw_block ?_ | refine hx_block ?_ | refine hw_tt ?_ | refine hw_ff ?_ | refine hw_iT ?_ | refine hw_iF ?_ | refine hw_skip ?_ | refine hw_ret ?_ | refine hw_exit ?_ | refine hx_then_ret ?_ | refine hx_block_ret ?_ | refine hx_then_exit ?_ | refine hx_block_here ?_ | refine hx_far ?_ | refine hx_any ?_ | (apply ha_end; decide +kernel))
      exact hx_round ⟨rfl, s + 1, by omega, rfl, rfl⟩ (by omega) ⟨rfl, rfl, rfl, by rw [hS]; rfl, rfl, trivial⟩
  · have e : s = n := by omega
    subst e
    repeat' (first | refine hl_a ?_ | refine hq_a ?_ | refine hl_nil ?_ | refine hq_nil ?_ | refine hq_ga ?_ | refine hq_sk ?_ | refine hq_su ?_ | refine hq_gT ?_ | refine hq_gF ?_ | refine hq_gd (fun h => ?_) (fun h => ?_) | refine hl_ga ?_ | refine hl_sk ?_ | refine hl_su ?_ | refine hl_gT ?_ | refine hl_gF ?_ | refine hl_gd (fun h => ?_) (fun h => ?_) | refine hx_next ?_ | refine hw_seq ?_ | refine hw_region ?_ | refine hw_dr ?_ | refine hw_block ?_ | refine hx_block ?_ | refine hw_tt ?_ | refine hw_ff ?_ | refine hw_iT ?_ | refine hw_iF ?_ | refine hw_skip ?_ | refine hw_ret ?_ | refine hw_exit ?_ | refine hx_then_ret ?_ | refine hx_block_ret ?_ | refine hx_then_exit ?_ | refine hx_block_here ?_ | refine hx_far ?_ | refine hx_any ?_ | (apply ha_end; decide +kernel))
    exact hx_ret1 rfl rfl (fun w hm => ⟨rfl, hm.none⟩)
theorem indexI_c (v : Value) (xs : List Int) (x : Int) (w : World) (hx : RdE (Value.int .i64) 0 w v xs) : Ret Try.prog 134 [v, .int .i64 x] w (.int .i64 (findI (fun y => decide (x = y)) xs 0)) := by
  refine calls_hw Try.func134 Try.ntmps134 rfl rfl ?_
  have hs := hx.sl
  have hle := hs.le
  repeat' (first | refine hl_a ?_ | refine hq_a ?_ | refine hl_nil ?_ | refine hq_nil ?_ | refine hq_ga ?_ | refine hq_sk ?_ | refine hq_su ?_ | refine hq_gT ?_ | refine hq_gF ?_ | refine hq_gd (fun h => ?_) (fun h => ?_) | refine hl_ga ?_ | refine hl_sk ?_ | refine hl_su ?_ | refine hl_gT ?_ | refine hl_gF ?_ | refine hl_gd (fun h => ?_) (fun h => ?_) | refine hx_next ?_ | refine hw_seq ?_ | refine hw_region ?_ | refine hw_dr ?_ | refine hw_block ?_ | refine hx_block ?_ | refine hw_tt ?_ | refine hw_ff ?_ | refine hw_iT ?_ | refine hw_iF ?_ | refine hw_skip ?_ | refine hw_ret ?_ | refine hw_exit ?_ | refine hx_then_ret ?_ | refine hx_block_ret ?_ | refine hx_then_exit ?_ | refine hx_block_here ?_ | refine hx_far ?_ | refine hx_any ?_ | (apply ha_end; decide +kernel))
  refine hw_loop (fun e r m => r = [] ∧ ∃ k : Nat, k ≤ xs.length ∧ m = xs.length - k ∧ e = [(0, v), (1, .int .i64 x), (7, .int .i64 (xs.length : Int)), (8, .int .i64 k)] ∧ findI (fun y => decide (x = y)) (xs.drop k) k = findI (fun y => decide (x = y)) xs 0)
    ⟨rfl, 0, Nat.zero_le _, rfl, rfl, rfl⟩ ⟨rfl, rfl, rfl, rfl, trivial⟩ ?_
  rintro _ _ _ ⟨rfl, k, hk, rfl, rfl, hinv⟩
  repeat' (first | refine hl_a ?_ | refine hq_a ?_ | refine hl_nil ?_ | refine hq_nil ?_ | refine hq_ga ?_ | refine hq_sk ?_ | refine hq_su ?_ | refine hq_gT ?_ | refine hq_gF ?_ | refine hq_gd (fun h => ?_) (fun h => ?_) | refine hl_ga ?_ | refine hl_sk ?_ | refine hl_su ?_ | refine hl_gT ?_ | refine hl_gF ?_ | refine hl_gd (fun h => ?_) (fun h => ?_) | refine hx_next ?_ | refine hw_seq ?_ | refine hw_region ?_ | refine hw_dr ?_ | refine hw_block ?_ | refine hx_block ?_ | refine hw_tt ?_ | refine hw_ff ?_ | refine hw_iT ?_ | refine hw_iF ?_ | refine hw_skip ?_ | refine hw_ret ?_ | refine hw_exit ?_ | refine hx_then_ret ?_ | refine hx_block_ret ?_ | refine hx_then_exit ?_ | refine hx_block_here ?_ | refine hx_far ?_ | refine hx_any ?_ | (apply ha_end; decide +kernel))
  refine hw_if rfl (fun hlt => ?_) (fun hge => ?_)
  · have hk2 : k < xs.length := by omega
    have hc := hx.get k hk2
    rw [findI_step _ _ _ hk2] at hinv
    repeat' (first | refine hl_a ?_ | refine hq_a ?_ | refine hl_nil ?_ | refine hq_nil ?_ | refine hq_ga ?_ | refine hq_sk ?_ | refine hq_su ?_ | refine hq_gT ?_ | refine hq_gF ?_ | refine hq_gd (fun h => ?_) (fun h => ?_) | refine hl_ga ?_ | refine hl_sk ?_ | refine hl_su ?_ | refine hl_gT ?_ | refine hl_gF ?_ | refine hl_gd (fun h => ?_) (fun h => ?_) | refine hx_next ?_ | refine hw_seq ?_ | refine hw_region ?_ | refine hw_dr ?_ | refine hw_block ?_ | refine hx_block ?_ | refine hw_tt ?_ | refine hw_ff ?_ | refine hw_iT ?_ | refine hw_iF ?_ | refine hw_skip ?_ | refine hw_ret ?_ | refine hw_exit ?_ | refine hx_then_ret ?_ | refine hx_block_ret ?_ | refine hx_then_exit ?_ | refine hx_block_here ?_ | refine hx_far ?_ | refine hx_any ?_ | (apply ha_end; decide +kernel))
    refine hw_if rfl (fun h => ?_) (fun h => ?_)
    · repeat' (first | refine hl_a ?_ | refine hq_a ?_ | refine hl_nil ?_ | refine hq_nil ?_ | refine hq_ga ?_ | refine hq_sk ?_ | refine hq_su ?_ | refine hq_gT ?_ | refine hq_gF ?_ | refine hq_gd (fun h => ?_) (fun h => ?_) | refine hl_ga ?_ | refine hl_sk ?_ | refine hl_su ?_ | refine hl_gT ?_ | refine hl_gF ?_ | refine hl_gd (fun h => ?_) (fun h => ?_) | refine hx_next ?_ | refine hw_seq ?_ | refine hw_region ?_ | refine hw_dr ?_ | refine hw_block ?_ | refine hx_block ?_ | refine hw_tt ?_ | refine hw_ff ?_ | refine hw_iT ?_ | refine hw_iF ?_ | refine hw_skip ?_ | refine hw_ret ?_ | refine hw_exit ?_ | refine hx_then_ret ?_ | refine hx_block_ret ?_ | refine hx_then_exit ?_ | refine hx_block_here ?_ | refine hx_far ?_ | refine hx_any ?_ | (apply ha_end; decide +kernel))
      refine hx_ret1 rfl rfl (fun w hm => ⟨?_, hm.none⟩)
      rw [if_pos (decide_eq_true h)] at hinv; rw [hinv]
    · repeat' (first | refine hl_a ?_ | refine hq_a ?_ | refine hl_nil ?_ | refine hq_nil ?_ | refine hq_ga ?_ | refine hq_sk ?_ | refine hq_su ?_ | refine hq_gT ?_ | refine hq_gF ?_ | refine hq_gd (fun h => ?_) (fun h => ?_) | refine hl_ga ?_ | refine hl_sk ?_ | refine hl_su ?_ | refine hl_gT ?_ | refine hl_gF ?_ | refine hl_gd (fun h => ?_) (fun h => ?_) | refine hx_next ?_ | refine hw_seq ?_ | refine hw_region ?_ | refine hw_dr ?_ | refine hw_block ?_ | refine hx_block ?_ | refine hw_tt ?_ | refine hw_ff ?_ | refine hw_iT ?_ | refine hw_iF ?_ | refine hw_skip ?_ | refine hw_ret ?_ | refine hw_exit ?_ | refine hx_then_ret ?_ | refine hx_block_ret ?_ | refine hx_then_exit ?_ | refine hx_block_here ?_ | refine hx_far ?_ | refine hx_any ?_ | (apply ha_end; decide +kernel))
      refine hx_round ⟨rfl, k + 1, hk2, rfl, rfl, by rw [← hinv, if_neg (by simpa using h)]⟩ (by omega) ⟨rfl, rfl, rfl, rfl, trivial⟩
  · repeat' (first | refine hl_a ?_ | refine hq_a ?_ | refine hl_nil ?_ | refine hq_nil ?_ | refine hq_ga ?_ | refine hq_sk ?_ | refine hq_su ?_ | refine hq_gT ?_ | refine hq_gF ?_ | refine hq_gd (fun h => ?_) (fun h => ?_) | refine hl_ga ?_ | refine hl_sk ?_ | refine hl_su ?_ | refine hl_gT ?_ | refine hl_gF ?_ | refine hl_gd (fun h => ?_) (fun h => ?_) | refine hx_next ?_ | refine hw_seq ?_ | refine hw_region ?_ | refine hw_dr ?_ | refine hw_block ?_ | refine hx_block ?_ | refine hw_tt ?_ | refine hw_ff ?_ | refine hw_iT ?_ | refine hw_iF ?_ | refine hw_skip ?_ | refine hw_ret ?_ | refine hw_exit ?_ | refine hx_then_ret ?_ | refine hx_block_ret ?_ | refine hx_then_exit ?_ | refine hx_block_here ?_ | refine hx_far ?_ | refine hx_any ?_ | (apply ha_end; decide +kernel))
    refine hx_ret1 rfl rfl (fun w hm => ⟨?_, hm.none⟩)
    rw [findI_end _ _ _ (by omega)] at hinv; rw [hinv]
theorem containsI_c (v : Value) (L : List Nat) (x : Nat) (w : World) (hx : RdE eN 0 w v L) : Ret Try.prog 133 [v, .int .i64 (x : Int)] w (.bool (decide (x ∈ L))) := by
  refine calls_hw Try.func133 Try.ntmps133 rfl rfl ?_
  repeat' (first | refine hl_a ?_ | refine hq_a ?_ | refine hl_nil ?_ | refine hq_nil ?_ | refine hq_ga ?_ | refine hq_sk ?_ | refine hq_su ?_ | refine hq_gT ?_ | refine hq_gF ?_ | refine hq_gd (fun h => ?_) (fun h => ?_) | refine hl_ga ?_ | refine hl_sk ?_ | refine hl_su ?_ | refine hl_gT ?_ | refine hl_gF ?_ | refine hl_gd (fun h => ?_) (fun h => ?_) | refine hx_next ?_ | refine hw_seq ?_ | refine hw_region ?_ | refine hw_dr ?_ | refine hw_block ?_ | refine hx_block ?_ | refine hw_tt ?_ | refine hw_ff ?_ | refine hw_iT ?_ | refine hw_iF ?_ | refine hw_skip ?_ | refine hw_ret ?_ | refine hw_exit ?_ | refine hx_then_ret ?_ | refine hx_block_ret ?_ | refine hx_then_exit ?_ | refine hx_block_here ?_ | refine hx_far ?_ | refine hx_any ?_ | (apply ha_end; decide +kernel))
  first | refine hl_q (by decide) (q_call (fun w hm => indexI_c v _ (x : Int) w (RdE.nat (hx.up hm.below))) rfl) ?_ | refine hq_q (by decide) (q_call (fun w hm => indexI_c v _ (x : Int) w (RdE.nat (hx.up hm.below))) rfl) ?_ | refine hl_g _ _ rfl rfl (by decide) (q_call (fun w hm => indexI_c v _ (x : Int) w (RdE.nat (hx.up hm.below))) rfl) ?_ | refine hq_g _ _ rfl rfl (by decide) (q_call (fun w hm => indexI_c v _ (x : Int) w (RdE.nat (hx.up hm.below))) rfl) ?_
  repeat' (first | refine hl_a ?_ | refine hq_a ?_ | refine hl_nil ?_ | refine hq_nil ?_ | refine hq_ga ?_ | refine hq_sk ?_ | refine hq_su ?_ | refine hq_gT ?_ | refine hq_gF ?_ | refine hq_gd (fun h => ?_) (fun h => ?_) | refine hl_ga ?_ | refine hl_sk ?_ | refine hl_su ?_ | refine hl_gT ?_ | refine hl_gF ?_ | refine hl_gd (fun h => ?_) (fun h => ?_) | refine hx_next ?_ | refine hw_seq ?_ | refine hw_region ?_ | refine hw_dr ?_ | refine hw_block ?_ | refine hx_block ?_ | refine hw_tt ?_ | refine hw_ff ?_ | refine hw_iT ?_ | refine hw_iF ?_ | refine hw_skip ?_ | refine hw_ret ?_ | refine hw_exit ?_ | refine hx_then_ret ?_ | refine hx_block_ret ?_ | refine hx_then_exit ?_ | refine hx_block_here ?_ | refine hx_far ?_ | refine hx_any ?_ | (apply ha_end; decide +kernel))
  refine hx_ret1 rfl rfl (fun w hm => ⟨?_, hm.none⟩)
  refine dec_int ?_
  rw [findI_ge]
  constructor
  · rintro ⟨y, hy, e⟩
    have e2 : (x : Int) = y := of_decide_eq_true e
    rw [← e2] at hy
    exact mem_cast.1 hy
  · exact fun h => ⟨x, mem_cast.2 h, by simp⟩
theorem indexFuncI_c (f : FuncId) [hB : Body Try.prog f] (caps : List Value) (v : Value) (xs : List Int) (p : Int → Bool) (w : World) (hx : RdE (Value.int .i64) 0 w v xs)
    (hf : ∀ w', Below w.heap.size w w' → ∀ i, i < xs.length → Ret Try.prog f (.int .i64 (xs.getD i 0) :: caps) w' (.bool (p (xs.getD i 0)))) :
    Ret Try.prog 131 [v, .func (.func f) #[] caps.toArray] w (.int .i64 (findI p xs 0)) := by
  refine calls_hw Try.func131 Try.ntmps131 rfl rfl ?_
  have hs := hx.sl
  have hle := hs.le
  repeat' (first | refine hl_a ?_ | refine hq_a ?_ | refine hl_nil ?_ | refine hq_nil ?_ | refine hq_ga ?_ | refine hq_sk ?_ | refine hq_su ?_ | refine hq_gT ?_ | refine hq_gF ?_ | refine hq_gd (fun h => ?_) (fun h => ?_) | refine hl_ga ?_ | refine hl_sk ?_ | refine hl_su ?_ | refine hl_gT ?_ | refine hl_gF ?_ | refine hl_gd (fun h => ?_) (fun h => ?_) | refine hx_next ?_ | refine hw_seq ?_ | refine hw_region ?_ | refine hw_dr ?_ | refine hw_block ?_ | refine hx_block ?_ | refine hw_tt ?_ | refine hw_ff ?_ | refine hw_iT ?_ | refine hw_iF ?_ | refine hw_skip ?_ | refine hw_ret ?_ | refine hw_exit ?_ | refine hx_then_ret ?_ | refine hx_block_ret ?_ | refine hx_then_exit ?_ | refine hx_block_here ?_ | refine hx_far ?_ | refine hx_any ?_ | (apply ha_end; decide +kernel))
  refine hw_loop (fun e r m => r = [] ∧ ∃ k : Nat, k ≤ xs.length ∧ m = xs.length - k ∧ e = [(0, v), (1, .func (.func f) #[] caps.toArray), (7, .int .i64 (xs.length : Int)), (8, .int .i64 k)] ∧ findI p (xs.drop k) k = findI p xs 0)
    ⟨rfl, 0, Nat.zero_le _, rfl, rfl, rfl⟩ ⟨rfl, rfl, rfl, rfl, trivial⟩ ?_
  rintro _ _ _ ⟨rfl, k, hk, rfl, rfl, hinv⟩
  repeat' (first | refine hl_a ?_ | refine hq_a ?_ | refine hl_nil ?_ | refine hq_nil ?_ | refine hq_ga ?_ | refine hq_sk ?_ | refine hq_su ?_ | refine hq_gT ?_ | refine hq_gF ?_ | refine hq_gd (fun h => ?_) (fun h => ?_) | refine hl_ga ?_ | refine hl_sk ?_ | refine hl_su ?_ | refine hl_gT ?_ | refine hl_gF ?_ | refine hl_gd (fun h => ?_) (fun h => ?_) | refine hx_next ?_ | refine hw_seq ?_ | refine hw_region ?_ | refine hw_dr ?_ | refine hw_block ?_ | refine hx_block ?_ | refine hw_tt ?_ | refine hw_ff ?_ | refine hw_iT ?_ | refine hw_iF ?_ | refine hw_skip ?_ | refine hw_ret ?_ | refine hw_exit ?_ | refine hx_then_ret ?_ | refine hx_block_ret ?_ | refine hx_then_exit ?_ | refine hx_block_here ?_ | refine hx_far ?_ | refine hx_any ?_ | (apply ha_end; decide +kernel))
  refine hw_if rfl (fun hlt => ?_) (fun hge => ?_)
  · have hk2 : k < xs.length := by omega
    have hc := hx.get k hk2
    rw [findI_step _ _ _ hk2] at hinv
    have hcall : ∀ w', Mem w [] w' → Ret Try.prog f (.int .i64 (xs.getD k 0) :: caps) w' (.bool (p (xs.getD k 0))) := fun w' hm => hf w' hm.below k hk2
    rcases Bool.eq_false_or_eq_true (p (xs.getD k 0)) with hp | hp <;> rw [hp] at hcall
    · repeat' (first | refine hl_a ?_ | refine hq_a ?_ | refine hl_nil ?_ | refine hq_nil ?_ | refine hq_ga ?_ | refine hq_sk ?_ | refine hq_su ?_ | refine hq_gT ?_ | refine hq_gF ?_ | refine hq_gd (fun h => ?_) (fun h => ?_) | refine hl_ga ?_ | refine hl_sk ?_ | refine hl_su ?_ | refine hl_gT ?_ | refine hl_gF ?_ | refine hl_gd (fun h => ?_) (fun h => ?_) | refine hx_next ?_ | refine hw_seq ?_ | refine hw_region ?_ | refine hw_dr ?_ | refine hw_block ?_ | refine hx_block ?_ | refine hw_tt ?_ | refine hw_ff ?_ | refine hw_iT ?_ | refine hw_iF ?_ | refine hw_skip ?_ | refine hw_ret ?_ | refine hw_exit ?_ | refine hx_then_ret ?_ | refine hx_block_ret ?_ | refine hx_then_exit ?_ | refine hx_block_here ?_ | refine hx_far ?_ | refine hx_any ?_ | (apply ha_end; decide +kernel))
      first | refine hl_q (by decide) (q_callv (vs := [.int .i64 (xs.getD k 0)]) rfl rfl hcall) ?_ | refine hq_q (by decide) (q_callv (vs := [.int .i64 (xs.getD k 0)]) rfl rfl hcall) ?_ | refine hl_g _ _ rfl rfl (by decide) (q_callv (vs := [.int .i64 (xs.getD k 0)]) rfl rfl hcall) ?_ | refine hq_g _ _ rfl rfl (by decide) (q_callv (vs := [.int .i64 (xs.getD k 0)]) rfl rfl hcall) ?_
      repeat' (first | refine hl_a ?_ | refine hq_a ?_ | refine hl_nil ?_ | refine hq_nil ?_ | refine hq_ga ?_ | refine hq_sk ?_ | refine hq_su ?_ | refine hq_gT ?_ | refine hq_gF ?_ | refine hq_gd (fun h => ?_) (fun h => ?_) | refine hl_ga ?_ | refine hl_sk ?_ | refine hl_su ?_ | refine hl_gT ?_ | refine hl_gF ?_ | refine hl_gd (fun h => ?_) (fun h => ?_) | refine hx_next ?_ | refine hw_seq ?_ | refine hw_region ?_ | refine hw_dr ?_ | refine hw_block ?_ | refine hx_block ?_ | refine hw_tt ?_ | refine hw_ff ?_ | refine hw_iT ?_ | refine hw_iF ?_ | refine hw_skip ?_ | refine hw_ret ?_ | refine hw_exit ?_ | refine hx_then_ret ?_ | refine hx_block_ret ?_ | refine hx_then_exit ?_ | refine hx_block_here ?_ | refine hx_far ?_ | refine hx_any ?_ | (apply ha_end; decide +kernel))
      refine hx_ret1 rfl rfl (fun w hm => ⟨?_, hm.none⟩)
      rw [if_pos hp] at hinv; rw [hinv]
    · repeat' (first | refine hl_a ?_ | refine hq_a ?_ | refine hl_nil ?_ | refine hq_nil ?_ | refine hq_ga ?_ | refine hq_sk ?_ | refine hq_su ?_ | refine hq_gT ?_ | refine hq_gF ?_ | refine hq_gd (fun h => ?_) (fun h => ?_) | refine hl_ga ?_ | refine hl_sk ?_ | refine hl_su ?_ | refine hl_gT ?_ | refine hl_gF ?_ | refine hl_gd (fun h => ?_) (fun h => ?_) | refine hx_next ?_ | refine hw_seq ?_ | refine hw_region ?_ | refine hw_dr ?_ | refine hw_block ?_ | refine hx_block ?_ | refine hw_tt ?_ | refine hw_ff ?_ | refine hw_iT ?_ | refine hw_iF ?_ | refine hw_skip ?_ | refine hw_ret ?_ | refine hw_exit ?_ | refine hx_then_ret ?_ | refine hx_block_ret ?_ | refine hx_then_exit ?_ | refine hx_block_here ?_ | refine hx_far ?_ | refine hx_any ?_ | (apply ha_end; decide +kernel))
      first | refine hl_q (by decide) (q_callv (vs := [.int .i64 (xs.getD k 0)]) rfl rfl hcall) ?_ | refine hq_q (by decide) (q_callv (vs := [.int .i64 (xs.getD k 0)]) rfl rfl hcall) ?_ | refine hl_g _ _ rfl rfl (by decide) (q_callv (vs := [.int .i64 (xs.getD k 0)]) rfl rfl hcall) ?_ | refine hq_g _ _ rfl rfl (by decide) (q_callv (vs := [.int .i64 (xs.getD k 0)]) rfl rfl hcall) ?_
      repeat' (first | refine hl_a ?_ | refine hq_a ?_ | refine hl_nil ?_ | refine hq_nil ?_ | refine hq_ga ?_ | refine hq_sk ?_ | refine hq_su ?_ | refine hq_gT ?_ | refine hq_gF ?_ | refine hq_gd (fun h => ?_) (fun h => ?_) | refine hl_ga ?_ | refine hl_sk ?_ | refine hl_su ?_ | refine hl_gT ?_ | refine hl_gF ?_ | refine hl_gd (fun h => ?_) (fun h => ?_) | refine hx_next ?_ | refine hw_seq ?_ | refine hw_region ?_ | refine hw_dr ?_ | refine hw_block ?_ | refine hx_block ?_ | refine hw_tt ?_ | refine hw_ff ?_ | refine hw_iT ?_ | refine hw_iF ?_ | refine hw_skip ?_ | refine hw_ret ?_ | refine hw_exit ?_ | refine hx_then_ret ?_ | refine hx_block_ret ?_ | refine hx_then_exit ?_ | refine hx_block_here ?_ | refine hx_far ?_ | refine hx_any ?_ | (apply ha_end; decide +kernel))
      refine hx_round ⟨rfl, k + 1, hk2, rfl, rfl, by rw [← hinv, if_neg (by rw [hp]; exact Bool.false_ne_true)]⟩ (by omega) ⟨rfl, rfl, rfl, rfl, trivial⟩
  · repeat' (first | refine hl_a ?_ | refine hq_a ?_ | refine hl_nil ?_ | refine hq_nil ?_ | refine hq_ga ?_ | refine hq_sk ?_ | refine hq_su ?_ | refine hq_gT ?_ | refine hq_gF ?_ | refine hq_gd (fun h => ?_) (fun h => ?_) | refine hl_ga ?_ | refine hl_sk ?_ | refine hl_su ?_ | refine hl_gT ?_ | refine hl_gF ?_ | refine hl_gd (fun h => ?_) (fun h => ?_) | refine hx_next ?_ | refine hw_seq ?_ | refine hw_region ?_ | refine hw_dr ?_ | refine hw_block ?_ | refine hx_block ?_ | refine hw_tt ?_ | refine hw_ff ?_ | refine hw_iT ?_ | refine hw_iF ?_ | refine hw_skip ?_ | refine hw_ret ?_ | refine hw_exit ?_ | refine hx_then_ret ?_ | refine hx_block_ret ?_ | refine hx_then_exit ?_ | refine hx_block_here ?_ | refine hx_far ?_ | refine hx_any ?_ | (apply ha_end; decide +kernel))
    refine hx_ret1 rfl rfl (fun w hm => ⟨?_, hm.none⟩)
    rw [findI_end _ _ _ (by omega)] at hinv; rw [hinv]
theorem containsFuncI_c (f : FuncId) [hB : Body Try.prog f] (caps : List Value) (v : Value) (xs : List Int) (p : Int → Bool) (w : World) (hx : RdE (Value.int .i64) 0 w v xs)
    (hf : ∀ w', Below w.heap.size w w' → ∀ i, i < xs.length → Ret Try.prog f (.int .i64 (xs.getD i 0) :: caps) w' (.bool (p (xs.getD i 0)))) :
    Ret Try.prog 119 [v, .func (.func f) #[] caps.toArray] w (.bool (decide (∃ x ∈ xs, p x = true))) := by
  refine calls_hw Try.func119 Try.ntmps119 rfl rfl ?_
  repeat' (first | refine hl_a ?_ | refine hq_a ?_ | refine hl_nil ?_ | refine hq_nil ?_ | refine hq_ga ?_ | refine hq_sk ?_ | refine hq_su ?_ | refine hq_gT ?_ | refine hq_gF ?_ | refine hq_gd (fun h => ?_) (fun h => ?_) | refine hl_ga ?_ | refine hl_sk ?_ | refine hl_su ?_ | refine hl_gT ?_ | refine hl_gF ?_ | refine hl_gd (fun h => ?_) (fun h => ?_) | refine hx_next ?_ | refine hw_seq ?_ | refine hw_region ?_ | refine hw_dr ?_ | refine hw_block ?_ | refine hx_block ?_ | refine hw_tt ?_ | refine hw_ff ?_ | refine hw_iT ?_ | refine hw_iF ?_ | refine hw_skip ?_ | refine hw_ret ?_ | refine hw_exit ?_ | refine hx_then_ret ?_ | refine hx_block_ret ?_ | refine hx_then_exit ?_ | refine hx_block_here ?_ | refine hx_far ?_ | refine hx_any ?_ | (apply ha_end; decide +kernel))
  first | refine hl_q (by decide) (q_call (fun w hm => indexFuncI_c f caps v xs p w (hx.up hm.below) (fun w' hb => hf w' (hm.below.trans (hb.mono hm.below.size)))) rfl) ?_ | refine hq_q (by decide) (q_call (fun w hm => indexFuncI_c f caps v xs p w (hx.up hm.below) (fun w' hb => hf w' (hm.below.trans (hb.mono hm.below.size)))) rfl) ?_ | refine hl_g _ _ rfl rfl (by decide) (q_call (fun w hm => indexFuncI_c f caps v xs p w (hx.up hm.below) (fun w' hb => hf w' (hm.below.trans (hb.mono hm.below.size)))) rfl) ?_ | refine hq_g _ _ rfl rfl (by decide) (q_call (fun w hm => indexFuncI_c f caps v xs p w (hx.up hm.below) (fun w' hb => hf w' (hm.below.trans (hb.mono hm.below.size)))) rfl) ?_
  repeat' (first | refine hl_a ?_ | refine hq_a ?_ | refine hl_nil ?_ | refine hq_nil ?_ | refine hq_ga ?_ | refine hq_sk ?_ | refine hq_su ?_ | refine hq_gT ?_ | refine hq_gF ?_ | refine hq_gd (fun h => ?_) (fun h => ?_) | refine hl_ga ?_ | refine hl_sk ?_ | refine hl_su ?_ | refine hl_gT ?_ | refine hl_gF ?_ | refine hl_gd (fun h => ?_) (fun h => ?_) | refine hx_next ?_ | refine hw_seq ?_ | refine hw_region ?_ | refine hw_dr ?_ | refine hw_block ?_ | refine hx_block ?_ | refine hw_tt ?_ | refine hw_ff ?_ | refine hw_iT ?_ | refine hw_iF ?_ | refine hw_skip ?_ | refine hw_ret ?_ | refine hw_exit ?_ | refine hx_then_ret ?_ | refine hx_block_ret ?_ | refine hx_then_exit ?_ | refine hx_block_here ?_ | refine hx_far ?_ | refine hx_any ?_ | (apply ha_end; decide +kernel))
  refine hx_ret1 rfl rfl (fun w hm => ⟨?_, hm.none⟩)
  have h := findI_ge p xs 0
  simp only [h]
set_option maxHeartbeats 2000000 in
theorem setsFrom_c (n : Nat) (tot : Int) (v : Value) (ks : List Int) (xss : List (List Int)) (row : Nat → Value) (w : World) (hr : RdM w v ks xss row) (hv : ValidM n tot ks xss) :
    Gives Try.prog 120 [chV (n : Int) tot v] w (OutE 3 eN (canL n xss)) := by
  refine calls_hw Try.func120 Try.ntmps120 rfl rfl ?_
  have hsl := hr.sl
  have hle := hsl.le
  have hs1 := hv.s1
  have h64 : 2 ^ n ≤ 64 := Nat.pow_le_pow_right (by decide) (show n ≤ 6 by omega)
  have h2p := Nat.two_pow_pos n
  repeat' (first | refine hl_a ?_ | refine hq_a ?_ | refine hl_nil ?_ | refine hq_nil ?_ | refine hq_ga ?_ | refine hq_sk ?_ | refine hq_su ?_ | refine hq_gT ?_ | refine hq_gF ?_ | refine hq_gd (fun h => ?_) (fun h => ?_) | refine hl_ga ?_ | refine hl_sk ?_ | refine hl_su ?_ | refine hl_gT ?_ | refine hl_gF ?_ | refine hl_gd (fun h => ?_) (fun h => ?_) | refine hx_next ?_ | refine hw_seq ?_ | refine hw_region ?_ | refine hw_dr ?_ | refine hw_block ?_ | refine hx_block ?_ | refine hw_tt ?_ | refine hw_ff ?_ | refine hw_iT ?_ | refine hw_iF ?_ | refine hw_skip ?_ | refine hw_ret ?_ | refine hw_exit ?_ | refine hx_then_ret ?_ | refine hx_block_ret ?_ | refine hx_then_exit ?_ | refine hx_block_here ?_ | refine hx_far ?_ | refine hx_any ?_ | (apply ha_end; decide +kernel))
  refine hl_box (by decide) rfl (fun b => ?_)
  repeat' (first | refine hl_a ?_ | refine hq_a ?_ | refine hl_nil ?_ | refine hq_nil ?_ | refine hq_ga ?_ | refine hq_sk ?_ | refine hq_su ?_ | refine hq_gT ?_ | refine hq_gF ?_ | refine hq_gd (fun h => ?_) (fun h => ?_) | refine hl_ga ?_ | refine hl_sk ?_ | refine hl_su ?_ | refine hl_gT ?_ | refine hl_gF ?_ | refine hl_gd (fun h => ?_) (fun h => ?_) | refine hx_next ?_ | refine hw_seq ?_ | refine hw_region ?_ | refine hw_dr ?_ | refine hw_block ?_ | refine hx_block ?_ | refine hw_tt ?_ | refine hw_ff ?_ | refine hw_iT ?_ | refine hw_iF ?_ | refine hw_skip ?_ | refine hw_ret ?_ | refine hw_exit ?_ | refine hx_then_ret ?_ | refine hx_block_ret ?_ | refine hx_then_exit ?_ | refine hx_block_here ?_ | refine hx_far ?_ | refine hx_any ?_ | (apply ha_end; decide +kernel))
  first | refine hl_q (by decide) (q_shl (a := 1) (b := n) rfl rfl (by omega) (by omega)) ?_ | refine hq_q (by decide) (q_shl (a := 1) (b := n) rfl rfl (by omega) (by omega)) ?_ | refine hl_g _ _ rfl rfl (by decide) (q_shl (a := 1) (b := n) rfl rfl (by omega) (by omega)) ?_ | refine hq_g _ _ rfl rfl (by decide) (q_shl (a := 1) (b := n) rfl rfl (by omega) (by omega)) ?_
  repeat' (first | refine hl_a ?_ | refine hq_a ?_ | refine hl_nil ?_ | refine hq_nil ?_ | refine hq_ga ?_ | refine hq_sk ?_ | refine hq_su ?_ | refine hq_gT ?_ | refine hq_gF ?_ | refine hq_gd (fun h => ?_) (fun h => ?_) | refine hl_ga ?_ | refine hl_sk ?_ | refine hl_su ?_ | refine hl_gT ?_ | refine hl_gF ?_ | refine hl_gd (fun h => ?_) (fun h => ?_) | refine hx_next ?_ | refine hw_seq ?_ | refine hw_region ?_ | refine hw_dr ?_ | refine hw_block ?_ | refine hx_block ?_ | refine hw_tt ?_ | refine hw_ff ?_ | refine hw_iT ?_ | refine hw_iF ?_ | refine hw_skip ?_ | refine hw_ret ?_ | refine hw_exit ?_ | refine hx_then_ret ?_ | refine hx_block_ret ?_ | refine hx_then_exit ?_ | refine hx_block_here ?_ | refine hx_far ?_ | refine hx_any ?_ | (apply ha_end; decide +kernel))
  rw [show (((1 * 2 ^ n : Nat) : Int) - 1) = ((2 ^ n - 1 : Nat) : Int) by omega]
  refine hl_build1 (u := eN (2 ^ n - 1)) (by decide) rfl rfl rfl (fun b1 => ?_)
  repeat' (first | refine hl_a ?_ | refine hq_a ?_ | refine hl_nil ?_ | refine hq_nil ?_ | refine hq_ga ?_ | refine hq_sk ?_ | refine hq_su ?_ | refine hq_gT ?_ | refine hq_gF ?_ | refine hq_gd (fun h => ?_) (fun h => ?_) | refine hl_ga ?_ | refine hl_sk ?_ | refine hl_su ?_ | refine hl_gT ?_ | refine hl_gF ?_ | refine hl_gd (fun h => ?_) (fun h => ?_) | refine hx_next ?_ | refine hw_seq ?_ | refine hw_region ?_ | refine hw_dr ?_ | refine hw_block ?_ | refine hx_block ?_ | refine hw_tt ?_ | refine hw_ff ?_ | refine hw_iT ?_ | refine hw_iF ?_ | refine hw_skip ?_ | refine hw_ret ?_ | refine hw_exit ?_ | refine hx_then_ret ?_ | refine hx_block_ret ?_ | refine hx_then_exit ?_ | refine hx_block_here ?_ | refine hx_far ?_ | refine hx_any ?_ | (apply ha_end; decide +kernel))
  refine hw_loop (fun e r m => ∃ (i : Nat) (L : List Nat) (u : Value), r = [rBlk b #[.int .i64 (n : Int), .int .i64 tot, v] 33, rE 3 eN u L] ∧ SetsOk n L ∧ SlOk u L.length ∧ i + m = 64 ∧ i ≤ L.length ∧ e = [(1, .pointer (some ⟨b, 0, none⟩)), (3, u), (4, .int .i64 (i : Int))] ∧ setsG xss n m i L = canL n xss)
    (m0 := 64) ⟨0, [2 ^ n - 1], _, rfl, one_ok n (by omega), lit_ok _ 1 (by decide), rfl, Nat.zero_le _, rfl, rfl⟩ ⟨rfl, rfl, rfl, trivial⟩ ?_
  rintro _ _ m ⟨i, L, u, rfl, hL, hu, hm64, hi, rfl, hinv⟩
  have hLl := hL.len (by omega)
  repeat' (first | refine hl_a ?_ | refine hq_a ?_ | refine hl_nil ?_ | refine hq_nil ?_ | refine hq_ga ?_ | refine hq_sk ?_ | refine hq_su ?_ | refine hq_gT ?_ | refine hq_gF ?_ | refine hq_gd (fun h => ?_) (fun h => ?_) | refine hl_ga ?_ | refine hl_sk ?_ | refine hl_su ?_ | refine hl_gT ?_ | refine hl_gF ?_ | refine hl_gd (fun h => ?_) (fun h => ?_) | refine hx_next ?_ | refine hw_seq ?_ | refine hw_region ?_ | refine hw_dr ?_ | refine hw_block ?_ | refine hx_block ?_ | refine hw_tt ?_ | refine hw_ff ?_ | refine hw_iT ?_ | refine hw_iF ?_ | refine hw_skip ?_ | refine hw_ret ?_ | refine hw_exit ?_ | refine hx_then_ret ?_ | refine hx_block_ret ?_ | refine hx_then_exit ?_ | refine hx_block_here ?_ | refine hx_far ?_ | refine hx_any ?_ | (apply ha_end; decide +kernel))
  refine hw_if rfl (fun hlt => ?_) (fun hge => ?_)
  · have hi2 : i < L.length := by omega
    obtain ⟨q, rfl⟩ : ∃ q, m = q + 1 := ⟨m - 1, by omega⟩
    rw [setsG, if_pos hi2] at hinv
    have hxi := hL.all _ (getD_mem' hi2)
    have hld := ld_E (w0 := w) (rs := [rBlk b #[.int .i64 (n : Int), .int .i64 tot, v] 33, rE 3 eN u L]) (e := 3) (enc := eN) (v := u) (xs := L) 1 (j := i) 0 rfl hi2
    repeat' (first | refine hl_a ?_ | refine hq_a ?_ | refine hl_nil ?_ | refine hq_nil ?_ | refine hq_ga ?_ | refine hq_sk ?_ | refine hq_su ?_ | refine hq_gT ?_ | refine hq_gF ?_ | refine hq_gd (fun h => ?_) (fun h => ?_) | refine hl_ga ?_ | refine hl_sk ?_ | refine hl_su ?_ | refine hl_gT ?_ | refine hl_gF ?_ | refine hl_gd (fun h => ?_) (fun h => ?_) | refine hx_next ?_ | refine hw_seq ?_ | refine hw_region ?_ | refine hw_dr ?_ | refine hw_block ?_ | refine hx_block ?_ | refine hw_tt ?_ | refine hw_ff ?_ | refine hw_iT ?_ | refine hw_iF ?_ | refine hw_skip ?_ | refine hw_ret ?_ | refine hw_exit ?_ | refine hx_then_ret ?_ | refine hx_block_ret ?_ | refine hx_then_exit ?_ | refine hx_block_here ?_ | refine hx_far ?_ | refine hx_any ?_ | (apply ha_end; decide +kernel))
    first | refine hl_q (by decide) (q_call (fun w hm => isSingle_c (L.getD i 0) hxi.1 (by omega) w) rfl) ?_ | refine hq_q (by decide) (q_call (fun w hm => isSingle_c (L.getD i 0) hxi.1 (by omega) w) rfl) ?_ | refine hl_g _ _ rfl rfl (by decide) (q_call (fun w hm => isSingle_c (L.getD i 0) hxi.1 (by omega) w) rfl) ?_ | refine hq_g _ _ rfl rfl (by decide) (q_call (fun w hm => isSingle_c (L.getD i 0) hxi.1 (by omega) w) rfl) ?_
    repeat' (first | refine hl_a ?_ | refine hq_a ?_ | refine hl_nil ?_ | refine hq_nil ?_ | refine hq_ga ?_ | refine hq_sk ?_ | refine hq_su ?_ | refine hq_gT ?_ | refine hq_gF ?_ | refine hq_gd (fun h => ?_) (fun h => ?_) | refine hl_ga ?_ | refine hl_sk ?_ | refine hl_su ?_ | refine hl_gT ?_ | refine hl_gF ?_ | refine hl_gd (fun h => ?_) (fun h => ?_) | refine hx_next ?_ | refine hw_seq ?_ | refine hw_region ?_ | refine hw_dr ?_ | refine hw_block ?_ | refine hx_block ?_ | refine hw_tt ?_ | refine hw_ff ?_ | refine hw_iT ?_ | refine hw_iF ?_ | refine hw_skip ?_ | refine hw_ret ?_ | refine hw_exit ?_ | refine hx_then_ret ?_ | refine hx_block_ret ?_ | refine hx_then_exit ?_ | refine hx_block_here ?_ | refine hx_far ?_ | refine hx_any ?_ | (apply ha_end; decide +kernel))
    refine hw_if rfl (fun h => ?_) (fun h => ?_)
    · rw [if_pos h] at hinv
      repeat' (first | refine hl_a ?_ | refine hq_a ?_ | refine hl_nil ?_ | refine hq_nil ?_ | refine hq_ga ?_ | refine hq_sk ?_ | refine hq_su ?_ | refine hq_gT ?_ | refine hq_gF ?_ | refine hq_gd (fun h => ?_) (fun h => ?_) | refine hl_ga ?_ | refine hl_sk ?_ | refine hl_su ?_ | refine hl_gT ?_ | refine hl_gF ?_ | refine hl_gd (fun h => ?_) (fun h => ?_) | refine hx_next ?_ | refine hw_seq ?_ | refine hw_region ?_ | refine hw_dr ?_ | refine hw_block ?_ | refine hx_block ?_ | refine hw_tt ?_ | refine hw_ff ?_ | refine hw_iT ?_ | refine hw_iF ?_ | refine hw_skip ?_ | refine hw_ret ?_ | refine hw_exit ?_ | refine hx_then_ret ?_ | refine hx_block_ret ?_ | refine hx_then_exit ?_ | refine hx_block_here ?_ | refine hx_far ?_ | refine hx_any ?_ | (apply ha_end; decide +kernel))
      exact hx_round ⟨i + 1, L, u, rfl, hL, hu, (by omega : i + 1 + q = 64), hi2, rfl, hinv⟩ (by omega) ⟨rfl, rfl, rfl, trivial⟩
    rw [if_neg h] at hinv
    repeat' (first | refine hl_a ?_ | refine hq_a ?_ | refine hl_nil ?_ | refine hq_nil ?_ | refine hq_ga ?_ | refine hq_sk ?_ | refine hq_su ?_ | refine hq_gT ?_ | refine hq_gF ?_ | refine hq_gd (fun h => ?_) (fun h => ?_) | refine hl_ga ?_ | refine hl_sk ?_ | refine hl_su ?_ | refine hl_gT ?_ | refine hl_gF ?_ | refine hl_gd (fun h => ?_) (fun h => ?_) | refine hx_next ?_ | refine hw_seq ?_ | refine hw_region ?_ | refine hw_dr ?_ | refine hw_block ?_ | refine hx_block ?_ | refine hw_tt ?_ | refine hw_ff ?_ | refine hw_iT ?_ | refine hw_iF ?_ | refine hw_skip ?_ | refine hw_ret ?_ | refine hw_exit ?_ | refine hx_then_ret ?_ | refine hx_block_ret ?_ | refine hx_then_exit ?_ | refine hx_block_here ?_ | refine hx_far ?_ | refine hx_any ?_ | (apply ha_end; decide +kernel))
    refine hw_loop (fun e r m => ∃ (k : Nat) (u : Value), r = [rBlk b #[.int .i64 (n : Int), .int .i64 tot, v] 33, rE 3 eN u (addK xss n (L.getD i 0) k L)] ∧ SlOk u (addK xss n (L.getD i 0) k L).length ∧ k ≤ xss.length ∧ m = xss.length - k ∧ e = [(1, .pointer (some ⟨b, 0, none⟩)), (3, u), (4, .int .i64 (i : Int)), (25, v), (26, .int .i64 (xss.length : Int)), (27, .int .i64 (k : Int))])
      ⟨0, u, rfl, hu, Nat.zero_le _, rfl, rfl⟩ ⟨rfl, rfl, rfl, rfl, rfl, rfl, trivial⟩ ?_
    rintro _ _ _ ⟨k, u, rfl, hu, hk, rfl, rfl⟩
    have hA := addK_ok hv hL hxi k hk
    have hAl := hA.len (by omega)
    obtain ⟨hA1, hA2⟩ := addK_getD xss n (L.getD i 0) L k i hi2
    repeat' (first | refine hl_a ?_ | refine hq_a ?_ | refine hl_nil ?_ | refine hq_nil ?_ | refine hq_ga ?_ | refine hq_sk ?_ | refine hq_su ?_ | refine hq_gT ?_ | refine hq_gF ?_ | refine hq_gd (fun h => ?_) (fun h => ?_) | refine hl_ga ?_ | refine hl_sk ?_ | refine hl_su ?_ | refine hl_gT ?_ | refine hl_gF ?_ | refine hl_gd (fun h => ?_) (fun h => ?_) | refine hx_next ?_ | refine hw_seq ?_ | refine hw_region ?_ | refine hw_dr ?_ | refine hw_block ?_ | refine hx_block ?_ | refine hw_tt ?_ | refine hw_ff ?_ | refine hw_iT ?_ | refine hw_iF ?_ | refine hw_skip ?_ | refine hw_ret ?_ | refine hw_exit ?_ | refine hx_then_ret ?_ | refine hx_block_ret ?_ | refine hx_then_exit ?_ | refine hx_block_here ?_ | refine hx_far ?_ | refine hx_any ?_ | (apply ha_end; decide +kernel))
    refine hw_if rfl (fun hlt2 => ?_) (fun hge2 => ?_)
    · have hk2 : k < xss.length := by omega
      have ck := hr.get k hk2
      have ck0 := hr.key k hk2
      have hrk := hr.row k hk2
      have sk := hrk.sl
      have hrl := hv.rlen k hk2
      have himg := img_ok hv k (L.getD i 0) hk2 hxi
      have hstep : addK xss n (L.getD i 0) (k + 1) L = if imgN (xss.getD k []) (L.getD i 0) n ∈ addK xss n (L.getD i 0) k L then addK xss n (L.getD i 0) k L else addK xss n (L.getD i 0) k L ++ [imgN (xss.getD k []) (L.getD i 0) n] := rfl
      have hld2 := ld_E (w0 := w) (rs := [rBlk b #[.int .i64 (n : Int), .int .i64 tot, v] 33, rE 3 eN u (addK xss n (L.getD i 0) k L)]) (e := 3) (enc := eN) (v := u) (xs := addK xss n (L.getD i 0) k L) 1 (j := i) 0 rfl hA2
      rw [hA1] at hld2
      repeat' (first | refine hl_a ?_ | refine hq_a ?_ | refine hl_nil ?_ | refine hq_nil ?_ | refine hq_ga ?_ | refine hq_sk ?_ | refine hq_su ?_ | refine hq_gT ?_ | refine hq_gF ?_ | refine hq_gd (fun h => ?_) (fun h => ?_) | refine hl_ga ?_ | refine hl_sk ?_ | refine hl_su ?_ | refine hl_gT ?_ | refine hl_gF ?_ | refine hl_gd (fun h => ?_) (fun h => ?_) | refine hx_next ?_ | refine hw_seq ?_ | refine hw_region ?_ | refine hw_dr ?_ | refine hw_block ?_ | refine hx_block ?_ | refine hw_tt ?_ | refine hw_ff ?_ | refine hw_iT ?_ | refine hw_iF ?_ | refine hw_skip ?_ | refine hw_ret ?_ | refine hw_exit ?_ | refine hx_then_ret ?_ | refine hx_block_ret ?_ | refine hx_then_exit ?_ | refine hx_block_here ?_ | refine hx_far ?_ | refine hx_any ?_ | (apply ha_end; decide +kernel))
      refine hl_alloc (by decide) (fun bx => ?_)
      repeat' (first | refine hl_a ?_ | refine hq_a ?_ | refine hl_nil ?_ | refine hq_nil ?_ | refine hq_ga ?_ | refine hq_sk ?_ | refine hq_su ?_ | refine hq_gT ?_ | refine hq_gF ?_ | refine hq_gd (fun h => ?_) (fun h => ?_) | refine hl_ga ?_ | refine hl_sk ?_ | refine hl_su ?_ | refine hl_gT ?_ | refine hl_gF ?_ | refine hl_gd (fun h => ?_) (fun h => ?_) | refine hx_next ?_ | refine hw_seq ?_ | refine hw_region ?_ | refine hw_dr ?_ | refine hw_block ?_ | refine hx_block ?_ | refine hw_tt ?_ | refine hw_ff ?_ | refine hw_iT ?_ | refine hw_iF ?_ | refine hw_skip ?_ | refine hw_ret ?_ | refine hw_exit ?_ | refine hx_then_ret ?_ | refine hx_block_ret ?_ | refine hx_then_exit ?_ | refine hx_block_here ?_ | refine hx_far ?_ | refine hx_any ?_ | (apply ha_end; decide +kernel))
      refine hl_storeA 2 rfl rfl rfl rfl rfl (mp_one sk) ?_
      refine hl_mem (fun w hm => hm) ?_
      have hld3 : Ld w [rBlk b #[.int .i64 (n : Int), .int .i64 tot, v] 33, rE 3 eN u (addK xss n (L.getD i 0) k L), rBlk bx #[.int .i64 (ks.getD k 0), row k] 92] (vAt u i) (eN (L.getD i 0)) := by
        have := ld_E (w0 := w) (rs := [rBlk b #[.int .i64 (n : Int), .int .i64 tot, v] 33, rE 3 eN u (addK xss n (L.getD i 0) k L), rBlk bx #[.int .i64 (ks.getD k 0), row k] 92]) (e := 3) (enc := eN) (v := u) (xs := addK xss n (L.getD i 0) k L) 1 (j := i) 0 rfl hA2
        rwa [hA1] at this
      repeat' (first | refine hl_a ?_ | refine hq_a ?_ | refine hl_nil ?_ | refine hq_nil ?_ | refine hq_ga ?_ | refine hq_sk ?_ | refine hq_su ?_ | refine hq_gT ?_ | refine hq_gF ?_ | refine hq_gd (fun h => ?_) (fun h => ?_) | refine hl_ga ?_ | refine hl_sk ?_ | refine hl_su ?_ | refine hl_gT ?_ | refine hl_gF ?_ | refine hl_gd (fun h => ?_) (fun h => ?_) | refine hx_next ?_ | refine hw_seq ?_ | refine hw_region ?_ | refine hw_dr ?_ | refine hw_block ?_ | refine hx_block ?_ | refine hw_tt ?_ | refine hw_ff ?_ | refine hw_iT ?_ | refine hw_iF ?_ | refine hw_skip ?_ | refine hw_ret ?_ | refine hw_exit ?_ | refine hx_then_ret ?_ | refine hx_block_ret ?_ | refine hx_then_exit ?_ | refine hx_block_here ?_ | refine hx_far ?_ | refine hx_any ?_ | (apply ha_end; decide +kernel))
      first | refine hl_q (by decide) (q_call (fun w hm => setBy_c (ks.getD k 0) (row k) (xss.getD k []) n (L.getD i 0) w (hrk.up hm.below) (by omega) (by omega) (fun t ht => (hv.row k hk2).all t ht) (by omega)) rfl) ?_ | refine hq_q (by decide) (q_call (fun w hm => setBy_c (ks.getD k 0) (row k) (xss.getD k []) n (L.getD i 0) w (hrk.up hm.below) (by omega) (by omega) (fun t ht => (hv.row k hk2).all t ht) (by omega)) rfl) ?_ | refine hl_g _ _ rfl rfl (by decide) (q_call (fun w hm => setBy_c (ks.getD k 0) (row k) (xss.getD k []) n (L.getD i 0) w (hrk.up hm.below) (by omega) (by omega) (fun t ht => (hv.row k hk2).all t ht) (by omega)) rfl) ?_ | refine hq_g _ _ rfl rfl (by decide) (q_call (fun w hm => setBy_c (ks.getD k 0) (row k) (xss.getD k []) n (L.getD i 0) w (hrk.up hm.below) (by omega) (by omega) (fun t ht => (hv.row k hk2).all t ht) (by omega)) rfl) ?_
      repeat' (first | refine hl_a ?_ | refine hq_a ?_ | refine hl_nil ?_ | refine hq_nil ?_ | refine hq_ga ?_ | refine hq_sk ?_ | refine hq_su ?_ | refine hq_gT ?_ | refine hq_gF ?_ | refine hq_gd (fun h => ?_) (fun h => ?_) | refine hl_ga ?_ | refine hl_sk ?_ | refine hl_su ?_ | refine hl_gT ?_ | refine hl_gF ?_ | refine hl_gd (fun h => ?_) (fun h => ?_) | refine hx_next ?_ | refine hw_seq ?_ | refine hw_region ?_ | refine hw_dr ?_ | refine hw_block ?_ | refine hx_block ?_ | refine hw_tt ?_ | refine hw_ff ?_ | refine hw_iT ?_ | refine hw_iF ?_ | refine hw_skip ?_ | refine hw_ret ?_ | refine hw_exit ?_ | refine hx_then_ret ?_ | refine hx_block_ret ?_ | refine hx_then_exit ?_ | refine hx_block_here ?_ | refine hx_far ?_ | refine hx_any ?_ | (apply ha_end; decide +kernel))
      first | refine hl_q (by decide) (q_call (fun w hm => containsI_c u _ (imgN (xss.getD k []) (L.getD i 0) n) w (hm.rd 1 rfl 0)) rfl) ?_ | refine hq_q (by decide) (q_call (fun w hm => containsI_c u _ (imgN (xss.getD k []) (L.getD i 0) n) w (hm.rd 1 rfl 0)) rfl) ?_ | refine hl_g _ _ rfl rfl (by decide) (q_call (fun w hm => containsI_c u _ (imgN (xss.getD k []) (L.getD i 0) n) w (hm.rd 1 rfl 0)) rfl) ?_ | refine hq_g _ _ rfl rfl (by decide) (q_call (fun w hm => containsI_c u _ (imgN (xss.getD k []) (L.getD i 0) n) w (hm.rd 1 rfl 0)) rfl) ?_
      repeat' (first | refine hl_a ?_ | refine hq_a ?_ | refine hl_nil ?_ | refine hq_nil ?_ | refine hq_ga ?_ | refine hq_sk ?_ | refine hq_su ?_ | refine hq_gT ?_ | refine hq_gF ?_ | refine hq_gd (fun h => ?_) (fun h => ?_) | refine hl_ga ?_ | refine hl_sk ?_ | refine hl_su ?_ | refine hl_gT ?_ | refine hl_gF ?_ | refine hl_gd (fun h => ?_) (fun h => ?_) | refine hx_next ?_ | refine hw_seq ?_ | refine hw_region ?_ | refine hw_dr ?_ | refine hw_block ?_ | refine hx_block ?_ | refine hw_tt ?_ | refine hw_ff ?_ | refine hw_iT ?_ | refine hw_iF ?_ | refine hw_skip ?_ | refine hw_ret ?_ | refine hw_exit ?_ | refine hx_then_ret ?_ | refine hx_block_ret ?_ | refine hx_then_exit ?_ | refine hx_block_here ?_ | refine hx_far ?_ | refine hx_any ?_ | (apply ha_end; decide +kernel))
      refine hw_if rfl (fun h2 => ?_) (fun h2 => ?_)
      · rw [if_neg h2] at hstep
        repeat' (first | refine hl_a ?_ | refine hq_a ?_ | refine hl_nil ?_ | refine hq_nil ?_ | refine hq_ga ?_ | refine hq_sk ?_ | refine hq_su ?_ | refine hq_gT ?_ | refine hq_gF ?_ | refine hq_gd (fun h => ?_) (fun h => ?_) | refine hl_ga ?_ | refine hl_sk ?_ | refine hl_su ?_ | refine hl_gT ?_ | refine hl_gF ?_ | refine hl_gd (fun h => ?_) (fun h => ?_) | refine hx_next ?_ | refine hw_seq ?_ | refine hw_region ?_ | refine hw_dr ?_ | refine hw_block ?_ | refine hx_block ?_ | refine hw_tt ?_ | refine hw_ff ?_ | refine hw_iT ?_ | refine hw_iF ?_ | refine hw_skip ?_ | refine hw_ret ?_ | refine hw_exit ?_ | refine hx_then_ret ?_ | refine hx_block_ret ?_ | refine hx_then_exit ?_ | refine hx_block_here ?_ | refine hx_far ?_ | refine hx_any ?_ | (apply ha_end; decide +kernel))
        refine hl_pushE 1 rfl (by decide) (by decide) (imgN (xss.getD k []) (L.getD i 0) n) rfl rfl rfl (fun b => rfl) (by omega) (by decide) (fun u2 b2 hu2 => ?_)
        repeat' (first | refine hl_a ?_ | refine hq_a ?_ | refine hl_nil ?_ | refine hq_nil ?_ | refine hq_ga ?_ | refine hq_sk ?_ | refine hq_su ?_ | refine hq_gT ?_ | refine hq_gF ?_ | refine hq_gd (fun h => ?_) (fun h => ?_) | refine hl_ga ?_ | refine hl_sk ?_ | refine hl_su ?_ | refine hl_gT ?_ | refine hl_gF ?_ | refine hl_gd (fun h => ?_) (fun h => ?_) | refine hx_next ?_ | refine hw_seq ?_ | refine hw_region ?_ | refine hw_dr ?_ | refine hw_block ?_ | refine hx_block ?_ | refine hw_tt ?_ | refine hw_ff ?_ | refine hw_iT ?_ | refine hw_iF ?_ | refine hw_skip ?_ | refine hw_ret ?_ | refine hw_exit ?_ | refine hx_then_ret ?_ | refine hx_block_ret ?_ | refine hx_then_exit ?_ | refine hx_block_here ?_ | refine hx_far ?_ | refine hx_any ?_ | (apply ha_end; decide +kernel))
        refine hx_mem (fun w hm => Mem.keep [_, _] hm) ?_
        exact hx_round ⟨k + 1, u2, by rw [hstep], by rw [hstep]; exact hu2, hk2, rfl, rfl⟩ (by omega) ⟨rfl, rfl, rfl, rfl, rfl, rfl, trivial⟩
      · rw [if_pos (Classical.not_not.1 h2)] at hstep
        repeat' (first | refine hl_a ?_ | refine hq_a ?_ | refine hl_nil ?_ | refine hq_nil ?_ | refine hq_ga ?_ | refine hq_sk ?_ | refine hq_su ?_ | refine hq_gT ?_ | refine hq_gF ?_ | refine hq_gd (fun h => ?_) (fun h => ?_) | refine hl_ga ?_ | refine hl_sk ?_ | refine hl_su ?_ | refine hl_gT ?_ | refine hl_gF ?_ | refine hl_gd (fun h => ?_) (fun h => ?_) | refine hx_next ?_ | refine hw_seq ?_ | refine hw_region ?_ | refine hw_dr ?_ | refine hw_block ?_ | refine hx_block ?_ | refine hw_tt ?_ | refine hw_ff ?_ | refine hw_iT ?_ | refine hw_iF ?_ | refine hw_skip ?_ | refine hw_ret ?_ | refine hw_exit ?_ | refine hx_then_ret ?_ | refine hx_block_ret ?_ | refine hx_then_exit ?_ | refine hx_block_here ?_ | refine hx_far ?_ | refine hx_any ?_ | (apply ha_end; decide +kernel))
        refine hx_mem (fun w hm => Mem.keep [_, _] hm) ?_
        exact hx_round ⟨k + 1, u, by rw [hstep], by rw [hstep]; exact hu, hk2, rfl, rfl⟩ (by omega) ⟨rfl, rfl, rfl, rfl, rfl, rfl, trivial⟩
    · have e : k = xss.length := by omega
      subst e
      repeat' (first | refine hl_a ?_ | refine hq_a ?_ | refine hl_nil ?_ | refine hq_nil ?_ | refine hq_ga ?_ | refine hq_sk ?_ | refine hq_su ?_ | refine hq_gT ?_ | refine hq_gF ?_ | refine hq_gd (fun h => ?_) (fun h => ?_) | refine hl_ga ?_ | refine hl_sk ?_ | refine hl_su ?_ | refine hl_gT ?_ | refine hl_gF ?_ | refine hl_gd (fun h => ?_) (fun h => ?_) | refine hx_next ?_ | refine hw_seq ?_ | refine hw_region ?_ | refine hw_dr ?_ | refine hw_block ?_ | refine hx_block ?_ | refine hw_tt ?_ | refine hw_ff ?_ | refine hw_iT ?_ | refine hw_iF ?_ | refine hw_skip ?_ | refine hw_ret ?_ | refine hw_exit ?_ | refine hx_then_ret ?_ | refine hx_block_ret ?_ | refine hx_then_exit ?_ | refine hx_block_here ?_ | refine hx_far ?_ | refine hx_any ?_ | (apply ha_end; decide +kernel))
      exact hx_round ⟨i + 1, _, u, rfl, hA, hu, (by omega : i + 1 + q = 64), by omega, rfl, hinv⟩ (by omega) ⟨rfl, rfl, rfl, trivial⟩
  · rw [setsG_end _ _ _ _ _ (by omega)] at hinv
    rw [← hinv]
    repeat' (first | refine hl_a ?_ | refine hq_a ?_ | refine hl_nil ?_ | refine hq_nil ?_ | refine hq_ga ?_ | refine hq_sk ?_ | refine hq_su ?_ | refine hq_gT ?_ | refine hq_gF ?_ | refine hq_gd (fun h => ?_) (fun h => ?_) | refine hl_ga ?_ | refine hl_sk ?_ | refine hl_su ?_ | refine hl_gT ?_ | refine hl_gF ?_ | refine hl_gd (fun h => ?_) (fun h => ?_) | refine hx_next ?_ | refine hw_seq ?_ | refine hw_region ?_ | refine hw_dr ?_ | refine hw_block ?_ | refine hx_block ?_ | refine hw_tt ?_ | refine hw_ff ?_ | refine hw_iT ?_ | refine hw_iF ?_ | refine hw_skip ?_ | refine hw_ret ?_ | refine hw_exit ?_ | refine hx_then_ret ?_ | refine hx_block_ret ?_ | refine hx_then_exit ?_ | refine hx_block_here ?_ | refine hx_far ?_ | refine hx_any ?_ | (apply ha_end; decide +kernel))
    exact hx_ret1 rfl rfl (fun w hm => ⟨_, _, rfl, hm.lone 1 rfl, rfl, hu⟩)
set_option maxHeartbeats 2000000 in
theorem l05Sets_c (p : Addr) (n : Nat) (tot : Int) (v : Value) (ks : List Int) (xss : List (List Int)) (row : Nat → Value) (w : World) (hp : PtM w p n tot v ks xss row) (hv : ValidM n tot ks xss) :
    Gives Try.prog 117 [.pointer (some p)] w (OutE 2 eN (canL n xss)) := by
  refine calls_hw Try.func117 Try.ntmps117 rfl rfl ?_
  obtain ⟨q0, q1, q2, hr⟩ := id hp
  have hsl := hr.sl
  have hle := hsl.le
  have hs1 := hv.s1
  have h64 : 2 ^ n ≤ 64 := Nat.pow_le_pow_right (by decide) (show n ≤ 6 by omega)
  have h2p := Nat.two_pow_pos n
  repeat' (first | refine hl_a ?_ | refine hq_a ?_ | refine hl_nil ?_ | refine hq_nil ?_ | refine hq_ga ?_ | refine hq_sk ?_ | refine hq_su ?_ | refine hq_gT ?_ | refine hq_gF ?_ | refine hq_gd (fun h => ?_) (fun h => ?_) | refine hl_ga ?_ | refine hl_sk ?_ | refine hl_su ?_ | refine hl_gT ?_ | refine hl_gF ?_ | refine hl_gd (fun h => ?_) (fun h => ?_) | refine hx_next ?_ | refine hw_seq ?_ | refine hw_region ?_ | refine hw_dr ?_ | refine hw_block ?_ | refine hx_block ?_ | refine hw_tt ?_ | refine hw_ff ?_ | refine hw_iT ?_ | refine hw_iF ?_ | refine hw_skip ?_ | refine hw_ret ?_ | refine hw_exit ?_ | refine hx_then_ret ?_ | refine hx_block_ret ?_ | refine hx_then_exit ?_ | refine hx_block_here ?_ | refine hx_far ?_ | refine hx_any ?_ | (apply ha_end; decide +kernel))
  first | refine hl_q (by decide) (q_convU (a := n) rfl (by omega)) ?_ | refine hq_q (by decide) (q_convU (a := n) rfl (by omega)) ?_ | refine hl_g _ _ rfl rfl (by decide) (q_convU (a := n) rfl (by omega)) ?_ | refine hq_g _ _ rfl rfl (by decide) (q_convU (a := n) rfl (by omega)) ?_
  first | refine hl_q (by decide) (q_shl (a := 1) (b := n) rfl rfl (by omega) (by omega)) ?_ | refine hq_q (by decide) (q_shl (a := 1) (b := n) rfl rfl (by omega) (by omega)) ?_ | refine hl_g _ _ rfl rfl (by decide) (q_shl (a := 1) (b := n) rfl rfl (by omega) (by omega)) ?_ | refine hq_g _ _ rfl rfl (by decide) (q_shl (a := 1) (b := n) rfl rfl (by omega) (by omega)) ?_
  repeat' (first | refine hl_a ?_ | refine hq_a ?_ | refine hl_nil ?_ | refine hq_nil ?_ | refine hq_ga ?_ | refine hq_sk ?_ | refine hq_su ?_ | refine hq_gT ?_ | refine hq_gF ?_ | refine hq_gd (fun h => ?_) (fun h => ?_) | refine hl_ga ?_ | refine hl_sk ?_ | refine hl_su ?_ | refine hl_gT ?_ | refine hl_gF ?_ | refine hl_gd (fun h => ?_) (fun h => ?_) | refine hx_next ?_ | refine hw_seq ?_ | refine hw_region ?_ | refine hw_dr ?_ | refine hw_block ?_ | refine hx_block ?_ | refine hw_tt ?_ | refine hw_ff ?_ | refine hw_iT ?_ | refine hw_iF ?_ | refine hw_skip ?_ | refine hw_ret ?_ | refine hw_exit ?_ | refine hx_then_ret ?_ | refine hx_block_ret ?_ | refine hx_then_exit ?_ | refine hx_block_here ?_ | refine hx_far ?_ | refine hx_any ?_ | (apply ha_end; decide +kernel))
  rw [show (((1 * 2 ^ n : Nat) : Int) - 1) = ((2 ^ n - 1 : Nat) : Int) by omega]
  refine hl_build1 (u := eN (2 ^ n - 1)) (by decide) rfl rfl rfl (fun b1 => ?_)
  repeat' (first | refine hl_a ?_ | refine hq_a ?_ | refine hl_nil ?_ | refine hq_nil ?_ | refine hq_ga ?_ | refine hq_sk ?_ | refine hq_su ?_ | refine hq_gT ?_ | refine hq_gF ?_ | refine hq_gd (fun h => ?_) (fun h => ?_) | refine hl_ga ?_ | refine hl_sk ?_ | refine hl_su ?_ | refine hl_gT ?_ | refine hl_gF ?_ | refine hl_gd (fun h => ?_) (fun h => ?_) | refine hx_next ?_ | refine hw_seq ?_ | refine hw_region ?_ | refine hw_dr ?_ | refine hw_block ?_ | refine hx_block ?_ | refine hw_tt ?_ | refine hw_ff ?_ | refine hw_iT ?_ | refine hw_iF ?_ | refine hw_skip ?_ | refine hw_ret ?_ | refine hw_exit ?_ | refine hx_then_ret ?_ | refine hx_block_ret ?_ | refine hx_then_exit ?_ | refine hx_block_here ?_ | refine hx_far ?_ | refine hx_any ?_ | (apply ha_end; decide +kernel))
  refine hw_loop (fun e r m => ∃ (i : Nat) (L : List Nat) (u : Value), r = [rE 2 eN u L] ∧ SetsOk n L ∧ SlOk u L.length ∧ i + m = 64 ∧ i ≤ L.length ∧ e = [(0, .pointer (some p)), (3, u), (4, .int .i64 (i : Int))] ∧ setsG xss n m i L = canL n xss)
    (m0 := 64) ⟨0, [2 ^ n - 1], _, rfl, one_ok n (by omega), lit_ok _ 1 (by decide), rfl, Nat.zero_le _, rfl, rfl⟩ ⟨rfl, rfl, rfl, trivial⟩ ?_
  rintro _ _ m ⟨i, L, u, rfl, hL, hu, hm64, hi, rfl, hinv⟩
  have hLl := hL.len (by omega)
  repeat' (first | refine hl_a ?_ | refine hq_a ?_ | refine hl_nil ?_ | refine hq_nil ?_ | refine hq_ga ?_ | refine hq_sk ?_ | refine hq_su ?_ | refine hq_gT ?_ | refine hq_gF ?_ | refine hq_gd (fun h => ?_) (fun h => ?_) | refine hl_ga ?_ | refine hl_sk ?_ | refine hl_su ?_ | refine hl_gT ?_ | refine hl_gF ?_ | refine hl_gd (fun h => ?_) (fun h => ?_) | refine hx_next ?_ | refine hw_seq ?_ | refine hw_region ?_ | refine hw_dr ?_ | refine hw_block ?_ | refine hx_block ?_ | refine hw_tt ?_ | refine hw_ff ?_ | refine hw_iT ?_ | refine hw_iF ?_ | refine hw_skip ?_ | refine hw_ret ?_ | refine hw_exit ?_ | refine hx_then_ret ?_ | refine hx_block_ret ?_ | refine hx_then_exit ?_ | refine hx_block_here ?_ | refine hx_far ?_ | refine hx_any ?_ | (apply ha_end; decide +kernel))
  refine hw_if rfl (fun hlt => ?_) (fun hge => ?_)
  · have hi2 : i < L.length := by omega
    obtain ⟨q, rfl⟩ : ∃ q, m = q + 1 := ⟨m - 1, by omega⟩
    rw [setsG, if_pos hi2] at hinv
    have hxi := hL.all _ (getD_mem' hi2)
    repeat' (first | refine hl_a ?_ | refine hq_a ?_ | refine hl_nil ?_ | refine hq_nil ?_ | refine hq_ga ?_ | refine hq_sk ?_ | refine hq_su ?_ | refine hq_gT ?_ | refine hq_gF ?_ | refine hq_gd (fun h => ?_) (fun h => ?_) | refine hl_ga ?_ | refine hl_sk ?_ | refine hl_su ?_ | refine hl_gT ?_ | refine hl_gF ?_ | refine hl_gd (fun h => ?_) (fun h => ?_) | refine hx_next ?_ | refine hw_seq ?_ | refine hw_region ?_ | refine hw_dr ?_ | refine hw_block ?_ | refine hx_block ?_ | refine hw_tt ?_ | refine hw_ff ?_ | refine hw_iT ?_ | refine hw_iF ?_ | refine hw_skip ?_ | refine hw_ret ?_ | refine hw_exit ?_ | refine hx_then_ret ?_ | refine hx_block_ret ?_ | refine hx_then_exit ?_ | refine hx_block_here ?_ | refine hx_far ?_ | refine hx_any ?_ | (apply ha_end; decide +kernel))
    refine hw_loop (fun e r m => ∃ (k : Nat) (u : Value), r = [rE 2 eN u (addK xss n (L.getD i 0) k L)] ∧ SlOk u (addK xss n (L.getD i 0) k L).length ∧ k ≤ xss.length ∧ m = xss.length - k ∧ e = [(0, .pointer (some p)), (3, u), (4, .int .i64 (i : Int)), (5, .int .i64 (k : Int))] ∧ (SingN (L.getD i 0) → k = 0))
      ⟨0, u, rfl, hu, Nat.zero_le _, rfl, rfl, fun _ => rfl⟩ ⟨rfl, rfl, rfl, rfl, trivial⟩ ?_
    rintro _ _ _ ⟨k, u, rfl, hu, hk, rfl, rfl, hk0⟩
    have hA := addK_ok hv hL hxi k hk
    have hAl := hA.len (by omega)
    obtain ⟨hA1, hA2⟩ := addK_getD xss n (L.getD i 0) L k i hi2
    have hld2 := ld_E (w0 := w) (rs := [rE 2 eN u (addK xss n (L.getD i 0) k L)]) (e := 2) (enc := eN) (v := u) (xs := addK xss n (L.getD i 0) k L) 0 (j := i) 0 rfl hA2
    rw [hA1] at hld2
    rcases Nat.lt_or_ge k xss.length with hk2 | hk2
    · have hk3 : (k : Int) < (xss.length : Int) := by omega
      have himg := img_ok hv k (L.getD i 0) hk2 hxi
      have hstep : addK xss n (L.getD i 0) (k + 1) L = if imgN (xss.getD k []) (L.getD i 0) n ∈ addK xss n (L.getD i 0) k L then addK xss n (L.getD i 0) k L else addK xss n (L.getD i 0) k L ++ [imgN (xss.getD k []) (L.getD i 0) n] := rfl
      repeat' (first | refine hl_a ?_ | refine hq_a ?_ | refine hl_nil ?_ | refine hq_nil ?_ | refine hq_ga ?_ | refine hq_sk ?_ | refine hq_su ?_ | refine hq_gT ?_ | refine hq_gF ?_ | refine hq_gd (fun h => ?_) (fun h => ?_) | refine hl_ga ?_ | refine hl_sk ?_ | refine hl_su ?_ | refine hl_gT ?_ | refine hl_gF ?_ | refine hl_gd (fun h => ?_) (fun h => ?_) | refine hx_next ?_ | refine hw_seq ?_ | refine hw_region ?_ | refine hw_dr ?_ | refine hw_block ?_ | refine hx_block ?_ | refine hw_tt ?_ | refine hw_ff ?_ | refine hw_iT ?_ | refine hw_iF ?_ | refine hw_skip ?_ | refine hw_ret ?_ | refine hw_exit ?_ | refine hx_then_ret ?_ | refine hx_block_ret ?_ | refine hx_then_exit ?_ | refine hx_block_here ?_ | refine hx_far ?_ | refine hx_any ?_ | (apply ha_end; decide +kernel))
      first | refine hl_q (by decide) (q_call (fun w hm => l05Single_c (L.getD i 0) hxi.1 (by omega) w) rfl) ?_ | refine hq_q (by decide) (q_call (fun w hm => l05Single_c (L.getD i 0) hxi.1 (by omega) w) rfl) ?_ | refine hl_g _ _ rfl rfl (by decide) (q_call (fun w hm => l05Single_c (L.getD i 0) hxi.1 (by omega) w) rfl) ?_ | refine hq_g _ _ rfl rfl (by decide) (q_call (fun w hm => l05Single_c (L.getD i 0) hxi.1 (by omega) w) rfl) ?_
      repeat' (first | refine hl_a ?_ | refine hq_a ?_ | refine hl_nil ?_ | refine hq_nil ?_ | refine hq_ga ?_ | refine hq_sk ?_ | refine hq_su ?_ | refine hq_gT ?_ | refine hq_gF ?_ | refine hq_gd (fun h => ?_) (fun h => ?_) | refine hl_ga ?_ | refine hl_sk ?_ | refine hl_su ?_ | refine hl_gT ?_ | refine hl_gF ?_ | refine hl_gd (fun h => ?_) (fun h => ?_) | refine hx_next ?_ | refine hw_seq ?_ | refine hw_region ?_ | refine hw_dr ?_ | refine hw_block ?_ | refine hx_block ?_ | refine hw_tt ?_ | refine hw_ff ?_ | refine hw_iT ?_ | refine hw_iF ?_ | refine hw_skip ?_ | refine hw_ret ?_ | refine hw_exit ?_ | refine hx_then_ret ?_ | refine hx_block_ret ?_ | refine hx_then_exit ?_ | refine hx_block_here ?_ | refine hx_far ?_ | refine hx_any ?_ | (apply ha_end; decide +kernel))
      refine hw_if rfl (fun h => ?_) (fun h => ?_)
      · rw [if_neg h] at hinv
        repeat' (first | refine hl_a ?_ | refine hq_a ?_ | refine hl_nil ?_ | refine hq_nil ?_ | refine hq_ga ?_ | refine hq_sk ?_ | refine hq_su ?_ | refine hq_gT ?_ | refine hq_gF ?_ | refine hq_gd (fun h => ?_) (fun h => ?_) | refine hl_ga ?_ | refine hl_sk ?_ | refine hl_su ?_ | refine hl_gT ?_ | refine hl_gF ?_ | refine hl_gd (fun h => ?_) (fun h => ?_) | refine hx_next ?_ | refine hw_seq ?_ | refine hw_region ?_ | refine hw_dr ?_ | refine hw_block ?_ | refine hx_block ?_ | refine hw_tt ?_ | refine hw_ff ?_ | refine hw_iT ?_ | refine hw_iF ?_ | refine hw_skip ?_ | refine hw_ret ?_ | refine hw_exit ?_ | refine hx_then_ret ?_ | refine hx_block_ret ?_ | refine hx_then_exit ?_ | refine hx_block_here ?_ | refine hx_far ?_ | refine hx_any ?_ | (apply ha_end; decide +kernel))
        first | refine hl_q (by decide) (q_call (fun w hm => l05Image_c p n tot v ks xss row (L.getD i 0) k w (hp.up hm.below) hv hk2 (by omega)) rfl) ?_ | refine hq_q (by decide) (q_call (fun w hm => l05Image_c p n tot v ks xss row (L.getD i 0) k w (hp.up hm.below) hv hk2 (by omega)) rfl) ?_ | refine hl_g _ _ rfl rfl (by decide) (q_call (fun w hm => l05Image_c p n tot v ks xss row (L.getD i 0) k w (hp.up hm.below) hv hk2 (by omega)) rfl) ?_ | refine hq_g _ _ rfl rfl (by decide) (q_call (fun w hm => l05Image_c p n tot v ks xss row (L.getD i 0) k w (hp.up hm.below) hv hk2 (by omega)) rfl) ?_
        repeat' (first | refine hl_a ?_ | refine hq_a ?_ | refine hl_nil ?_ | refine hq_nil ?_ | refine hq_ga ?_ | refine hq_sk ?_ | refine hq_su ?_ | refine hq_gT ?_ | refine hq_gF ?_ | refine hq_gd (fun h => ?_) (fun h => ?_) | refine hl_ga ?_ | refine hl_sk ?_ | refine hl_su ?_ | refine hl_gT ?_ | refine hl_gF ?_ | refine hl_gd (fun h => ?_) (fun h => ?_) | refine hx_next ?_ | refine hw_seq ?_ | refine hw_region ?_ | refine hw_dr ?_ | refine hw_block ?_ | refine hx_block ?_ | refine hw_tt ?_ | refine hw_ff ?_ | refine hw_iT ?_ | refine hw_iF ?_ | refine hw_skip ?_ | refine hw_ret ?_ | refine hw_exit ?_ | refine hx_then_ret ?_ | refine hx_block_ret ?_ | refine hx_then_exit ?_ | refine hx_block_here ?_ | refine hx_far ?_ | refine hx_any ?_ | (apply ha_end; decide +kernel))
        first | refine hl_q (by decide) (q_call (fun w hm => l00Has_c u _ (imgN (xss.getD k []) (L.getD i 0) n : Nat) w (RdE.nat (hm.rd 0 rfl 0))) rfl) ?_ | refine hq_q (by decide) (q_call (fun w hm => l00Has_c u _ (imgN (xss.getD k []) (L.getD i 0) n : Nat) w (RdE.nat (hm.rd 0 rfl 0))) rfl) ?_ | refine hl_g _ _ rfl rfl (by decide) (q_call (fun w hm => l00Has_c u _ (imgN (xss.getD k []) (L.getD i 0) n : Nat) w (RdE.nat (hm.rd 0 rfl 0))) rfl) ?_ | refine hq_g _ _ rfl rfl (by decide) (q_call (fun w hm => l00Has_c u _ (imgN (xss.getD k []) (L.getD i 0) n : Nat) w (RdE.nat (hm.rd 0 rfl 0))) rfl) ?_
        repeat' (first | refine hl_a ?_ | refine hq_a ?_ | refine hl_nil ?_ | refine hq_nil ?_ | refine hq_ga ?_ | refine hq_sk ?_ | refine hq_su ?_ | refine hq_gT ?_ | refine hq_gF ?_ | refine hq_gd (fun h => ?_) (fun h => ?_) | refine hl_ga ?_ | refine hl_sk ?_ | refine hl_su ?_ | refine hl_gT ?_ | refine hl_gF ?_ | refine hl_gd (fun h => ?_) (fun h => ?_) | refine hx_next ?_ | refine hw_seq ?_ | refine hw_region ?_ | refine hw_dr ?_ | refine hw_block ?_ | refine hx_block ?_ | refine hw_tt ?_ | refine hw_ff ?_ | refine hw_iT ?_ | refine hw_iF ?_ | refine hw_skip ?_ | refine hw_ret ?_ | refine hw_exit ?_ | refine hx_then_ret ?_ | refine hx_block_ret ?_ | refine hx_then_exit ?_ | refine hx_block_here ?_ | refine hx_far ?_ | refine hx_any ?_ | (apply ha_end; decide +kernel))
        refine hw_if rfl (fun h2 => ?_) (fun h2 => ?_)
        · rw [if_neg (fun e => h2 (mem_cast.2 e))] at hstep
          repeat' (first | refine hl_a ?_ | refine hq_a ?_ | refine hl_nil ?_ | refine hq_nil ?_ | refine hq_ga ?_ | refine hq_sk ?_ | refine hq_su ?_ | refine hq_gT ?_ | refine hq_gF ?_ | refine hq_gd (fun h => ?_) (fun h => ?_) | refine hl_ga ?_ | refine hl_sk ?_ | refine hl_su ?_ | refine hl_gT ?_ | refine hl_gF ?_ | refine hl_gd (fun h => ?_) (fun h => ?_) | refine hx_next ?_ | refine hw_seq ?_ | refine hw_region ?_ | refine hw_dr ?_ | refine hw_block ?_ | refine hx_block ?_ | refine hw_tt ?_ | refine hw_ff ?_ | refine hw_iT ?_ | refine hw_iF ?_ | refine hw_skip ?_ | refine hw_ret ?_ | refine hw_exit ?_ | refine hx_then_ret ?_ | refine hx_block_ret ?_ | refine hx_then_exit ?_ | refine hx_block_here ?_ | refine hx_far ?_ | refine hx_any ?_ | (apply ha_end; decide +kernel))
          refine hl_pushE 0 rfl (by decide) (by decide) (imgN (xss.getD k []) (L.getD i 0) n) rfl rfl rfl (fun b => rfl) (by omega) (by decide) (fun u2 b2 hu2 => ?_)
          repeat' (first | refine hl_a ?_ | refine hq_a ?_ | refine hl_nil ?_ | refine hq_nil ?_ | refine hq_ga ?_ | refine hq_sk ?_ | refine hq_su ?_ | refine hq_gT ?_ | refine hq_gF ?_ | refine hq_gd (fun h => ?_) (fun h => ?_) | refine hl_ga ?_ | refine hl_sk ?_ | refine hl_su ?_ | refine hl_gT ?_ | refine hl_gF ?_ | refine hl_gd (fun h => ?_) (fun h => ?_) | refine hx_next ?_ | refine hw_seq ?_ | refine hw_region ?_ | refine hw_dr ?_ | refine hw_block ?_ | refine hx_block ?_ | refine hw_tt ?_ | refine hw_ff ?_ | refine hw_iT ?_ | refine hw_iF ?_ | refine hw_skip ?_ | refine hw_ret ?_ | refine hw_exit ?_ | refine hx_then_ret ?_ | refine hx_block_ret ?_ | refine hx_then_exit ?_ | refine hx_block_here ?_ | refine hx_far ?_ | refine hx_any ?_ | (apply ha_end; decide +kernel))
          exact hx_round ⟨k + 1, u2, by rw [hstep]; rfl, by rw [hstep]; exact hu2, hk2, rfl, rfl, fun e => absurd e h⟩ (by omega) ⟨rfl, rfl, rfl, rfl, trivial⟩
        · rw [if_pos (mem_cast.1 (Classical.not_not.1 h2))] at hstep
          repeat' (first | refine hl_a ?_ | refine hq_a ?_ | refine hl_nil ?_ | refine hq_nil ?_ | refine hq_ga ?_ | refine hq_sk ?_ | refine hq_su ?_ | refine hq_gT ?_ | refine hq_gF ?_ | refine hq_gd (fun h => ?_) (fun h => ?_) | refine hl_ga ?_ | refine hl_sk ?_ | refine hl_su ?_ | refine hl_gT ?_ | refine hl_gF ?_ | refine hl_gd (fun h => ?_) (fun h => ?_) | refine hx_next ?_ | refine hw_seq ?_ | refine hw_region ?_ | refine hw_dr ?_ | refine hw_block ?_ | refine hx_block ?_ | refine hw_tt ?_ | refine hw_ff ?_ | refine hw_iT ?_ | refine hw_iF ?_ | refine hw_skip ?_ | refine hw_ret ?_ | refine hw_exit ?_ | refine hx_then_ret ?_ | refine hx_block_ret ?_ | refine hx_then_exit ?_ | refine hx_block_here ?_ | refine hx_far ?_ | refine hx_any ?_ | (apply ha_end; decide +kernel))
          exact hx_round ⟨k + 1, u, by rw [hstep], by rw [hstep]; exact hu, hk2, rfl, rfl, fun e => absurd e h⟩ (by omega) ⟨rfl, rfl, rfl, rfl, trivial⟩
      · have hsg := Classical.not_not.1 h
        rw [if_pos hsg] at hinv
        obtain rfl := hk0 hsg
        repeat' (first | refine hl_a ?_ | refine hq_a ?_ | refine hl_nil ?_ | refine hq_nil ?_ | refine hq_ga ?_ | refine hq_sk ?_ | refine hq_su ?_ | refine hq_gT ?_ | refine hq_gF ?_ | refine hq_gd (fun h => ?_) (fun h => ?_) | refine hl_ga ?_ | refine hl_sk ?_ | refine hl_su ?_ | refine hl_gT ?_ | refine hl_gF ?_ | refine hl_gd (fun h => ?_) (fun h => ?_) | refine hx_next ?_ | refine hw_seq ?_ | refine hw_region ?_ | refine hw_dr ?_ | refine hw_block ?_ | refine hx_block ?_ | refine hw_tt ?_ | refine hw_ff ?_ | refine hw_iT ?_ | refine hw_iF ?_ | refine hw_skip ?_ | refine hw_ret ?_ | refine hw_exit ?_ | refine hx_then_ret ?_ | refine hx_block_ret ?_ | refine hx_then_exit ?_ | refine hx_block_here ?_ | refine hx_far ?_ | refine hx_any ?_ | (apply ha_end; decide +kernel))
        exact hx_round ⟨i + 1, L, u, rfl, hL, hu, (by omega : i + 1 + q = 64), hi2, rfl, hinv⟩ (by omega) ⟨rfl, rfl, rfl, trivial⟩
    · have e : k = xss.length := by omega
      subst e
      have hge2 : ¬ ((xss.length : Int) < (xss.length : Int)) := by omega
      have hng : ¬ SingN (L.getD i 0) := fun e => by have := hk0 e; have := hv.len; omega
      rw [if_neg hng] at hinv
      repeat' (first | refine hl_a ?_ | refine hq_a ?_ | refine hl_nil ?_ | refine hq_nil ?_ | refine hq_ga ?_ | refine hq_sk ?_ | refine hq_su ?_ | refine hq_gT ?_ | refine hq_gF ?_ | refine hq_gd (fun h => ?_) (fun h => ?_) | refine hl_ga ?_ | refine hl_sk ?_ | refine hl_su ?_ | refine hl_gT ?_ | refine hl_gF ?_ | refine hl_gd (fun h => ?_) (fun h => ?_) | refine hx_next ?_ | refine hw_seq ?_ | refine hw_region ?_ | refine hw_dr ?_ | refine hw_block ?_ | refine hx_block ?_ | refine hw_tt ?_ | refine hw_ff ?_ | refine hw_iT ?_ | refine hw_iF ?_ | refine hw_skip ?_ | refine hw_ret ?_ | refine hw_exit ?_ | refine hx_then_ret ?_ | refine hx_block_ret ?_ | refine hx_then_exit ?_ | refine hx_block_here ?_ | refine hx_far ?_ | refine hx_any ?_ | (apply ha_end; decide +kernel))
      exact hx_round ⟨i + 1, _, u, rfl, hA, hu, (by omega : i + 1 + q = 64), by omega, rfl, hinv⟩ (by omega) ⟨rfl, rfl, rfl, trivial⟩
  · rw [setsG_end _ _ _ _ _ (by omega)] at hinv
    rw [← hinv]
    repeat' (first | refine hl_a ?_ | refine hq_a ?_ | refine hl_nil ?_ | refine hq_nil ?_ | refine hq_ga ?_ | refine hq_sk ?_ | refine hq_su ?_ | refine hq_gT ?_ | refine hq_gF ?_ | refine hq_gd (fun h => ?_) (fun h => ?_) | refine hl_ga ?_ | refine hl_sk ?_ | refine hl_su ?_ | refine hl_gT ?_ | refine hl_gF ?_ | refine hl_gd (fun h => ?_) (fun h => ?_) | refine hx_next ?_ | refine hw_seq ?_ | refine hw_region ?_ | refine hw_dr ?_ | refine hw_block ?_ | refine hx_block ?_ | refine hw_tt ?_ | refine hw_ff ?_ | refine hw_iT ?_ | refine hw_iF ?_ | refine hw_skip ?_ | refine hw_ret ?_ | refine hw_exit ?_ | refine hx_then_ret ?_ | refine hx_block_ret ?_ | refine hx_then_exit ?_ | refine hx_block_here ?_ | refine hx_far ?_ | refine hx_any ?_ | (apply ha_end; decide +kernel))
    exact hx_ret1 rfl rfl (fun w hm => ⟨_, _, rfl, hm.lone 0 rfl, rfl, hu⟩)
theorem setsG_ok {n : Nat} {tot : Int} {ks : List Int} {xss : List (List Int)} (hv : ValidM n tot ks xss) : ∀ f i L, SetsOk n L → SetsOk n (setsG xss n f i L)
  | 0, _, _, h => h
  | f + 1, i, L, h => by
    rw [setsG]
    split
    · rename_i hi
      refine setsG_ok hv f _ _ ?_
      split
      · exact h
      · exact addK_ok hv h (h.all _ (getD_mem' hi)) _ (Nat.le_refl _)
    · exact h
noncomputable def canP (st tot : Int) (ks : List Int) (xss : List (List Int)) : Prop := ValidM st tot ks xss ∧ ∃ x ∈ canL st.toNat xss, SingN x
noncomputable instance (st tot : Int) (ks : List Int) (xss : List (List Int)) : Decidable (canP st tot ks xss) := Classical.propDecidable _
noncomputable def canC (st tot : Int) (ks : List Int) (xss : List (List Int)) : Int := if ValidM st tot ks xss then 0 else 1
noncomputable instance (L : List Nat) : Decidable (∃ x ∈ L, SingN x) := Classical.propDecidable _
theorem canCoalesce_c (n : Nat) (tot : Int) (v : Value) (ks : List Int) (xss : List (List Int)) (row : Nat → Value) (w : World) (hr : RdM w v ks xss row) (hv : ValidM n tot ks xss) :
    Ret Try.prog 78 [chV (n : Int) tot v] w (.bool (decide (∃ x ∈ canL n xss, SingN x))) := by
  refine calls_hw Try.func78 Try.ntmps78 rfl rfl ?_
  have hs1 := hv.s1
  have h64 : 2 ^ n ≤ 64 := Nat.pow_le_pow_right (by decide) (show n ≤ 6 by omega)
  have hok : SetsOk n (canL n xss) := setsG_ok hv _ _ _ (one_ok n (by omega))
  repeat' (first | refine hl_a ?_ | refine hq_a ?_ | refine hl_nil ?_ | refine hq_nil ?_ | refine hq_ga ?_ | refine hq_sk ?_ | refine hq_su ?_ | refine hq_gT ?_ | refine hq_gF ?_ | refine hq_gd (fun h => ?_) (fun h => ?_) | refine hl_ga ?_ | refine hl_sk ?_ | refine hl_su ?_ | refine hl_gT ?_ | refine hl_gF ?_ | refine hl_gd (fun h => ?_) (fun h => ?_) | refine hx_next ?_ | refine hw_seq ?_ | refine hw_region ?_ | refine hw_dr ?_ | refine hw_block ?_ | refine hx_block ?_ | refine hw_tt ?_ | refine hw_ff ?_ | refine hw_iT ?_ | refine hw_iF ?_ | refine hw_skip ?_ | refine hw_ret ?_ | refine hw_exit ?_ | refine hx_then_ret ?_ | refine hx_block_ret ?_ | refine hx_then_exit ?_ | refine hx_block_here ?_ | refine hx_far ?_ | refine hx_any ?_ | (apply ha_end; decide +kernel))
  refine hl_box (by decide) rfl (fun b => ?_)
  repeat' (first | refine hl_a ?_ | refine hq_a ?_ | refine hl_nil ?_ | refine hq_nil ?_ | refine hq_ga ?_ | refine hq_sk ?_ | refine hq_su ?_ | refine hq_gT ?_ | refine hq_gF ?_ | refine hq_gd (fun h => ?_) (fun h => ?_) | refine hl_ga ?_ | refine hl_sk ?_ | refine hl_su ?_ | refine hl_gT ?_ | refine hl_gF ?_ | refine hl_gd (fun h => ?_) (fun h => ?_) | refine hx_next ?_ | refine hw_seq ?_ | refine hw_region ?_ | refine hw_dr ?_ | refine hw_block ?_ | refine hx_block ?_ | refine hw_tt ?_ | refine hw_ff ?_ | refine hw_iT ?_ | refine hw_iF ?_ | refine hw_skip ?_ | refine hw_ret ?_ | refine hw_exit ?_ | refine hx_then_ret ?_ | refine hx_block_ret ?_ | refine hx_then_exit ?_ | refine hx_block_here ?_ | refine hx_far ?_ | refine hx_any ?_ | (apply ha_end; decide +kernel))
  refine hl_call (by decide) (fun w hm => setsFrom_c n tot v ks xss row w (hr.up hm.below) hv) rfl ?_
  rintro u _ ⟨rfl, hu⟩
  repeat' (first | refine hl_a ?_ | refine hq_a ?_ | refine hl_nil ?_ | refine hq_nil ?_ | refine hq_ga ?_ | refine hq_sk ?_ | refine hq_su ?_ | refine hq_gT ?_ | refine hq_gF ?_ | refine hq_gd (fun h => ?_) (fun h => ?_) | refine hl_ga ?_ | refine hl_sk ?_ | refine hl_su ?_ | refine hl_gT ?_ | refine hl_gF ?_ | refine hl_gd (fun h => ?_) (fun h => ?_) | refine hx_next ?_ | refine hw_seq ?_ | refine hw_region ?_ | refine hw_dr ?_ | refine hw_block ?_ | refine hx_block ?_ | refine hw_tt ?_ | refine hw_ff ?_ | refine hw_iT ?_ | refine hw_iF ?_ | refine hw_skip ?_ | refine hw_ret ?_ | refine hw_exit ?_ | refine hx_then_ret ?_ | refine hx_block_ret ?_ | refine hx_then_exit ?_ | refine hx_block_here ?_ | refine hx_far ?_ | refine hx_any ?_ | (apply ha_end; decide +kernel))
  have hsg : ∀ (w' : World) (i : Nat), i < ((canL n xss).map fun j : Nat => (j : Int)).length → Ret Try.prog 121 [.int .i64 (((canL n xss).map fun j : Nat => (j : Int)).getD i 0)] w' (.bool (decide (SingN (((canL n xss).map fun j : Nat => (j : Int)).getD i 0).toNat))) := fun w' i hi => by
    rw [List.length_map] at hi
    have h1 := hok.all _ (getD_mem' hi)
    have h2 : ((canL n xss).map fun j : Nat => (j : Int)).getD i 0 = ((canL n xss).getD i 0 : Nat) := by simp [List.getD_eq_getElem?_getD, hi]
    rw [h2, Int.toNat_natCast]
    exact isSingle_c _ h1.1 (by omega) w'
  first | refine hl_q (by decide) (q_call (fun w hm => containsFuncI_c 121 [] u _ (fun y => decide (SingN y.toNat)) w (RdE.nat (hm.rd 1 rfl 0)) (fun w' hb i hi => hsg w' i hi)) rfl) ?_ | refine hq_q (by decide) (q_call (fun w hm => containsFuncI_c 121 [] u _ (fun y => decide (SingN y.toNat)) w (RdE.nat (hm.rd 1 rfl 0)) (fun w' hb i hi => hsg w' i hi)) rfl) ?_ | refine hl_g _ _ rfl rfl (by decide) (q_call (fun w hm => containsFuncI_c 121 [] u _ (fun y => decide (SingN y.toNat)) w (RdE.nat (hm.rd 1 rfl 0)) (fun w' hb i hi => hsg w' i hi)) rfl) ?_ | refine hq_g _ _ rfl rfl (by decide) (q_call (fun w hm => containsFuncI_c 121 [] u _ (fun y => decide (SingN y.toNat)) w (RdE.nat (hm.rd 1 rfl 0)) (fun w' hb i hi => hsg w' i hi)) rfl) ?_
  repeat' (first | refine hl_a ?_ | refine hq_a ?_ | refine hl_nil ?_ | refine hq_nil ?_ | refine hq_ga ?_ | refine hq_sk ?_ | refine hq_su ?_ | refine hq_gT ?_ | refine hq_gF ?_ | refine hq_gd (fun h => ?_) (fun h => ?_) | refine hl_ga ?_ | refine hl_sk ?_ | refine hl_su ?_ | refine hl_gT ?_ | refine hl_gF ?_ | refine hl_gd (fun h => ?_) (fun h => ?_) | refine hx_next ?_ | refine hw_seq ?_ | refine hw_region ?_ | refine hw_dr ?_ | refine hw_block ?_ | refine hx_block ?_ | refine hw_tt ?_ | refine hw_ff ?_ | refine hw_iT ?_ | refine hw_iF ?_ | refine hw_skip ?_ | refine hw_ret ?_ | refine hw_exit ?_ | refine hx_then_ret ?_ | refine hx_block_ret ?_ | refine hx_then_exit ?_ | refine hx_block_here ?_ | refine hx_far ?_ | refine hx_any ?_ | (apply ha_end; decide +kernel))
  refine hx_ret1 rfl rfl (fun w hm => ⟨?_, hm.none⟩)
  refine dec_int ?_
  constructor
  · rintro ⟨y, hy, e⟩
    obtain ⟨x, hx, rfl⟩ := List.mem_map.1 hy
    have := of_decide_eq_true e
    rw [Int.toNat_natCast] at this
    exact ⟨x, hx, this⟩
  · rintro ⟨x, hx, e⟩
    exact ⟨(x : Int), List.mem_map.2 ⟨x, hx, rfl⟩, by simpa using e⟩
theorem l05Can_c (p : Addr) (n : Nat) (tot : Int) (v : Value) (ks : List Int) (xss : List (List Int)) (row : Nat → Value) (w : World) (hp : PtM w p n tot v ks xss row) (hv : ValidM n tot ks xss) :
    Ret Try.prog 77 [.pointer (some p)] w (.bool (decide (∃ x ∈ canL n xss, SingN x))) := by
  refine calls_hw Try.func77 Try.ntmps77 rfl rfl ?_
  have hs1 := hv.s1
  have h64 : 2 ^ n ≤ 64 := Nat.pow_le_pow_right (by decide) (show n ≤ 6 by omega)
  have hok : SetsOk n (canL n xss) := setsG_ok hv _ _ _ (one_ok n (by omega))
  have hlen := hok.len (by omega)
  repeat' (first | refine hl_a ?_ | refine hq_a ?_ | refine hl_nil ?_ | refine hq_nil ?_ | refine hq_ga ?_ | refine hq_sk ?_ | refine hq_su ?_ | refine hq_gT ?_ | refine hq_gF ?_ | refine hq_gd (fun h => ?_) (fun h => ?_) | refine hl_ga ?_ | refine hl_sk ?_ | refine hl_su ?_ | refine hl_gT ?_ | refine hl_gF ?_ | refine hl_gd (fun h => ?_) (fun h => ?_) | refine hx_next ?_ | refine hw_seq ?_ | refine hw_region ?_ | refine hw_dr ?_ | refine hw_block ?_ | refine hx_block ?_ | refine hw_tt ?_ | refine hw_ff ?_ | refine hw_iT ?_ | refine hw_iF ?_ | refine hw_skip ?_ | refine hw_ret ?_ | refine hw_exit ?_ | refine hx_then_ret ?_ | refine hx_block_ret ?_ | refine hx_then_exit ?_ | refine hx_block_here ?_ | refine hx_far ?_ | refine hx_any ?_ | (apply ha_end; decide +kernel))
  refine hl_call (by decide) (fun w hm => l05Sets_c p n tot v ks xss row w (hp.up hm.below) hv) rfl ?_
  rintro u _ ⟨rfl, hu⟩
  repeat' (first | refine hl_a ?_ | refine hq_a ?_ | refine hl_nil ?_ | refine hq_nil ?_ | refine hq_ga ?_ | refine hq_sk ?_ | refine hq_su ?_ | refine hq_gT ?_ | refine hq_gF ?_ | refine hq_gd (fun h => ?_) (fun h => ?_) | refine hl_ga ?_ | refine hl_sk ?_ | refine hl_su ?_ | refine hl_gT ?_ | refine hl_gF ?_ | refine hl_gd (fun h => ?_) (fun h => ?_) | refine hx_next ?_ | refine hw_seq ?_ | refine hw_region ?_ | refine hw_dr ?_ | refine hw_block ?_ | refine hx_block ?_ | refine hw_tt ?_ | refine hw_ff ?_ | refine hw_iT ?_ | refine hw_iF ?_ | refine hw_skip ?_ | refine hw_ret ?_ | refine hw_exit ?_ | refine hx_then_ret ?_ | refine hx_block_ret ?_ | refine hx_then_exit ?_ | refine hx_block_here ?_ | refine hx_far ?_ | refine hx_any ?_ | (apply ha_end; decide +kernel))
  refine hw_loop (fun e r m => r = [rE 2 eN u (canL n xss)] ∧ ∃ i : Nat, i ≤ (canL n xss).length ∧ m = (canL n xss).length - i ∧ e = [(3, u), (4, .int .i64 (i : Int))] ∧ ∀ j, j < i → ¬ SingN ((canL n xss).getD j 0))
    ⟨rfl, 0, Nat.zero_le _, rfl, rfl, by omega⟩ ⟨rfl, rfl, trivial⟩ ?_
  rintro _ _ _ ⟨rfl, i, hi, rfl, rfl, hall⟩
  repeat' (first | refine hl_a ?_ | refine hq_a ?_ | refine hl_nil ?_ | refine hq_nil ?_ | refine hq_ga ?_ | refine hq_sk ?_ | refine hq_su ?_ | refine hq_gT ?_ | refine hq_gF ?_ | refine hq_gd (fun h => ?_) (fun h => ?_) | refine hl_ga ?_ | refine hl_sk ?_ | refine hl_su ?_ | refine hl_gT ?_ | refine hl_gF ?_ | refine hl_gd (fun h => ?_) (fun h => ?_) | refine hx_next ?_ | refine hw_seq ?_ | refine hw_region ?_ | refine hw_dr ?_ | refine hw_block ?_ | refine hx_block ?_ | refine hw_tt ?_ | refine hw_ff ?_ | refine hw_iT ?_ | refine hw_iF ?_ | refine hw_skip ?_ | refine hw_ret ?_ | refine hw_exit ?_ | refine hx_then_ret ?_ | refine hx_block_ret ?_ | refine hx_then_exit ?_ | refine hx_block_here ?_ | refine hx_far ?_ | refine hx_any ?_ | (apply ha_end; decide +kernel))
  refine hw_if rfl (fun hlt => ?_) (fun hge => ?_)
  · have hi2 : i < (canL n xss).length := by omega
    have hxi := hok.all _ (getD_mem' hi2)
    have hld := ld_E (w0 := w) (rs := [rE 2 eN u (canL n xss)]) (e := 2) (enc := eN) (v := u) (xs := canL n xss) 0 (j := i) 0 rfl hi2
    repeat' (first | refine hl_a ?_ | refine hq_a ?_ | refine hl_nil ?_ | refine hq_nil ?_ | refine hq_ga ?_ | refine hq_sk ?_ | refine hq_su ?_ | refine hq_gT ?_ | refine hq_gF ?_ | refine hq_gd (fun h => ?_) (fun h => ?_) | refine hl_ga ?_ | refine hl_sk ?_ | refine hl_su ?_ | refine hl_gT ?_ | refine hl_gF ?_ | refine hl_gd (fun h => ?_) (fun h => ?_) | refine hx_next ?_ | refine hw_seq ?_ | refine hw_region ?_ | refine hw_dr ?_ | refine hw_block ?_ | refine hx_block ?_ | refine hw_tt ?_ | refine hw_ff ?_ | refine hw_iT ?_ | refine hw_iF ?_ | refine hw_skip ?_ | refine hw_ret ?_ | refine hw_exit ?_ | refine hx_then_ret ?_ | refine hx_block_ret ?_ | refine hx_then_exit ?_ | refine hx_block_here ?_ | refine hx_far ?_ | refine hx_any ?_ | (apply ha_end; decide +kernel))
    first | refine hl_q (by decide) (q_call (fun w hm => l05Single_c ((canL n xss).getD i 0) hxi.1 (by omega) w) rfl) ?_ | refine hq_q (by decide) (q_call (fun w hm => l05Single_c ((canL n xss).getD i 0) hxi.1 (by omega) w) rfl) ?_ | refine hl_g _ _ rfl rfl (by decide) (q_call (fun w hm => l05Single_c ((canL n xss).getD i 0) hxi.1 (by omega) w) rfl) ?_ | refine hq_g _ _ rfl rfl (by decide) (q_call (fun w hm => l05Single_c ((canL n xss).getD i 0) hxi.1 (by omega) w) rfl) ?_
    repeat' (first | refine hl_a ?_ | refine hq_a ?_ | refine hl_nil ?_ | refine hq_nil ?_ | refine hq_ga ?_ | refine hq_sk ?_ | refine hq_su ?_ | refine hq_gT ?_ | refine hq_gF ?_ | refine hq_gd (fun h => ?_) (fun h => ?_) | refine hl_ga ?_ | refine hl_sk ?_ | refine hl_su ?_ | refine hl_gT ?_ | refine hl_gF ?_ | refine hl_gd (fun h => ?_) (fun h => ?_) | refine hx_next ?_ | refine hw_seq ?_ | refine hw_region ?_ | refine hw_dr ?_ | refine hw_block ?_ | refine hx_block ?_ | refine hw_tt ?_ | refine hw_ff ?_ | refine hw_iT ?_ | refine hw_iF ?_ | refine hw_skip ?_ | refine hw_ret ?_ | refine hw_exit ?_ | refine hx_then_ret ?_ | refine hx_block_ret ?_ | refine hx_then_exit ?_ | refine hx_block_here ?_ | refine hx_far ?_ | refine hx_any ?_ | (apply ha_end; decide +kernel))
    refine hw_if rfl (fun h => ?_) (fun h => ?_)
    · repeat' (first | refine hl_a ?_ | refine hq_a ?_ | refine hl_nil ?_ | refine hq_nil ?_ | refine hq_ga ?_ | refine hq_sk ?_ | refine hq_su ?_ | refine hq_gT ?_ | refine hq_gF ?_ | refine hq_gd (fun h => ?_) (fun h => ?_) | refine hl_ga ?_ | refine hl_sk ?_ | refine hl_su ?_ | refine hl_gT ?_ | refine hl_gF ?_ | refine hl_gd (fun h => ?_) (fun h => ?_) | refine hx_next ?_ | refine hw_seq ?_ | refine hw_region ?_ | refine hw_dr ?_ | refine hw_block ?_ | refine hx_block ?_ | refine hw_tt ?_ | refine hw_ff ?_ | refine hw_iT ?_ | refine hw_iF ?_ | refine hw_skip ?_ | refine hw_ret ?_ | refine hw_exit ?_ | refine hx_then_ret ?_ | refine hx_block_ret ?_ | refine hx_then_exit ?_ | refine hx_block_here ?_ | refine hx_far ?_ | refine hx_any ?_ | (apply ha_end; decide +kernel))
      refine hx_ret1 rfl rfl (fun w hm => ⟨?_, hm.none⟩)
      rw [decide_eq_true (p := ∃ x ∈ canL n xss, SingN x) ⟨_, getD_mem' hi2, h⟩]
    · repeat' (first | refine hl_a ?_ | refine hq_a ?_ | refine hl_nil ?_ | refine hq_nil ?_ | refine hq_ga ?_ | refine hq_sk ?_ | refine hq_su ?_ | refine hq_gT ?_ | refine hq_gF ?_ | refine hq_gd (fun h => ?_) (fun h => ?_) | refine hl_ga ?_ | refine hl_sk ?_ | refine hl_su ?_ | refine hl_gT ?_ | refine hl_gF ?_ | refine hl_gd (fun h => ?_) (fun h => ?_) | refine hx_next ?_ | refine hw_seq ?_ | refine hw_region ?_ | refine hw_dr ?_ | refine hw_block ?_ | refine hx_block ?_ | refine hw_tt ?_ | refine hw_ff ?_ | refine hw_iT ?_ | refine hw_iF ?_ | refine hw_skip ?_ | refine hw_ret ?_ | refine hw_exit ?_ | refine hx_then_ret ?_ | refine hx_block_ret ?_ | refine hx_then_exit ?_ | refine hx_block_here ?_ | refine hx_far ?_ | refine hx_any ?_ | (apply ha_end; decide +kernel))
      refine hx_round ⟨rfl, i + 1, hi2, rfl, rfl, fun j hj => ?_⟩ (by omega) ⟨rfl, rfl, trivial⟩
      by_cases e : j = i
      · subst e; exact h
      · exact hall j (by omega)
  · repeat' (first | refine hl_a ?_ | refine hq_a ?_ | refine hl_nil ?_ | refine hq_nil ?_ | refine hq_ga ?_ | refine hq_sk ?_ | refine hq_su ?_ | refine hq_gT ?_ | refine hq_gF ?_ | refine hq_gd (fun h => ?_) (fun h => ?_) | refine hl_ga ?_ | refine hl_sk ?_ | refine hl_su ?_ | refine hl_gT ?_ | refine hl_gF ?_ | refine hl_gd (fun h => ?_) (fun h => ?_) | refine hx_next ?_ | refine hw_seq ?_ | refine hw_region ?_ | refine hw_dr ?_ | refine hw_block ?_ | refine hx_block ?_ | refine hw_tt ?_ | refine hw_ff ?_ | refine hw_iT ?_ | refine hw_iF ?_ | refine hw_skip ?_ | refine hw_ret ?_ | refine hw_exit ?_ | refine hx_then_ret ?_ | refine hx_block_ret ?_ | refine hx_then_exit ?_ | refine hx_block_here ?_ | refine hx_far ?_ | refine hx_any ?_ | (apply ha_end; decide +kernel))
    refine hx_ret1 rfl rfl (fun w hm => ⟨?_, hm.none⟩)
    rw [decide_eq_false (p := ∃ x ∈ canL n xss, SingN x)]
    rintro ⟨x, hx, hs⟩
    obtain ⟨j, hj, rfl⟩ := List.mem_iff_getElem.1 hx
    rw [← getD_lt _ _ 0 hj] at hs
    exact hall j (by omega) hs
theorem implCanCoalesce_c (st tot : Int) (v : Value) (ks : List Int) (xss : List (List Int)) (row : Nat → Value) (w : World) (hr : RdM w v ks xss row) :
    Ret Try.prog 30 [chV st tot v] w (.tuple #[.bool (decide (canP st tot ks xss)), .int .i64 (canC st tot ks xss)]) := by
  refine calls_hw Try.func30 Try.ntmps30 rfl rfl ?_
  repeat' (first | refine hl_a ?_ | refine hq_a ?_ | refine hl_nil ?_ | refine hq_nil ?_ | refine hq_ga ?_ | refine hq_sk ?_ | refine hq_su ?_ | refine hq_gT ?_ | refine hq_gF ?_ | refine hq_gd (fun h => ?_) (fun h => ?_) | refine hl_ga ?_ | refine hl_sk ?_ | refine hl_su ?_ | refine hl_gT ?_ | refine hl_gF ?_ | refine hl_gd (fun h => ?_) (fun h => ?_) | refine hx_next ?_ | refine hw_seq ?_ | refine hw_region ?_ | refine hw_dr ?_ | refine hw_block ?_ | refine hx_block ?_ | refine hw_tt ?_ | refine hw_ff ?_ | refine hw_iT ?_ | refine hw_iF ?_ | refine hw_skip ?_ | refine hw_ret ?_ | refine hw_exit ?_ | refine hx_then_ret ?_ | refine hx_block_ret ?_ | refine hx_then_exit ?_ | refine hx_block_here ?_ | refine hx_far ?_ | refine hx_any ?_ | (apply ha_end; decide +kernel))
  refine hl_box (by decide) rfl (fun b => ?_)
  repeat' (first | refine hl_a ?_ | refine hq_a ?_ | refine hl_nil ?_ | refine hq_nil ?_ | refine hq_ga ?_ | refine hq_sk ?_ | refine hq_su ?_ | refine hq_gT ?_ | refine hq_gF ?_ | refine hq_gd (fun h => ?_) (fun h => ?_) | refine hl_ga ?_ | refine hl_sk ?_ | refine hl_su ?_ | refine hl_gT ?_ | refine hl_gF ?_ | refine hl_gd (fun h => ?_) (fun h => ?_) | refine hx_next ?_ | refine hw_seq ?_ | refine hw_region ?_ | refine hw_dr ?_ | refine hw_block ?_ | refine hx_block ?_ | refine hw_tt ?_ | refine hw_ff ?_ | refine hw_iT ?_ | refine hw_iF ?_ | refine hw_skip ?_ | refine hw_ret ?_ | refine hw_exit ?_ | refine hx_then_ret ?_ | refine hx_block_ret ?_ | refine hx_then_exit ?_ | refine hx_block_here ?_ | refine hx_far ?_ | refine hx_any ?_ | (apply ha_end; decide +kernel))
  first | refine hl_q (by decide) (q_call (fun w hm => (implValidMaps_c st tot v ks xss row w (hr.up hm.below))) rfl) ?_ | refine hq_q (by decide) (q_call (fun w hm => (implValidMaps_c st tot v ks xss row w (hr.up hm.below))) rfl) ?_ | refine hl_g _ _ rfl rfl (by decide) (q_call (fun w hm => (implValidMaps_c st tot v ks xss row w (hr.up hm.below))) rfl) ?_ | refine hq_g _ _ rfl rfl (by decide) (q_call (fun w hm => (implValidMaps_c st tot v ks xss row w (hr.up hm.below))) rfl) ?_
  repeat' (first | refine hl_a ?_ | refine hq_a ?_ | refine hl_nil ?_ | refine hq_nil ?_ | refine hq_ga ?_ | refine hq_sk ?_ | refine hq_su ?_ | refine hq_gT ?_ | refine hq_gF ?_ | refine hq_gd (fun h => ?_) (fun h => ?_) | refine hl_ga ?_ | refine hl_sk ?_ | refine hl_su ?_ | refine hl_gT ?_ | refine hl_gF ?_ | refine hl_gd (fun h => ?_) (fun h => ?_) | refine hx_next ?_ | refine hw_seq ?_ | refine hw_region ?_ | refine hw_dr ?_ | refine hw_block ?_ | refine hx_block ?_ | refine hw_tt ?_ | refine hw_ff ?_ | refine hw_iT ?_ | refine hw_iF ?_ | refine hw_skip ?_ | refine hw_ret ?_ | refine hw_exit ?_ | refine hx_then_ret ?_ | refine hx_block_ret ?_ | refine hx_then_exit ?_ | refine hx_block_here ?_ | refine hx_far ?_ | refine hx_any ?_ | (apply ha_end; decide +kernel))
  refine hw_if rfl (fun h => ?_) (fun h => ?_)
  · repeat' (first | refine hl_a ?_ | refine hq_a ?_ | refine hl_nil ?_ | refine hq_nil ?_ | refine hq_ga ?_ | refine hq_sk ?_ | refine hq_su ?_ | refine hq_gT ?_ | refine hq_gF ?_ | refine hq_gd (fun h => ?_) (fun h => ?_) | refine hl_ga ?_ | refine hl_sk ?_ | refine hl_su ?_ | refine hl_gT ?_ | refine hl_gF ?_ | refine hl_gd (fun h => ?_) (fun h => ?_) | refine hx_next ?_ | refine hw_seq ?_ | refine hw_region ?_ | refine hw_dr ?_ | refine hw_block ?_ | refine hx_block ?_ | refine hw_tt ?_ | refine hw_ff ?_ | refine hw_iT ?_ | refine hw_iF ?_ | refine hw_skip ?_ | refine hw_ret ?_ | refine hw_exit ?_ | refine hx_then_ret ?_ | refine hx_block_ret ?_ | refine hx_then_exit ?_ | refine hx_block_here ?_ | refine hx_far ?_ | refine hx_any ?_ | (apply ha_end; decide +kernel))
    refine hx_ret2 rfl rfl rfl (fun w hm => ⟨?_, hm.none⟩)
    rw [decide_eq_false (fun e => h e.1), canC, if_neg h]
  have hv := Classical.not_not.1 h
  obtain ⟨n, rfl, hn1, hn6⟩ := hv.nat
  repeat' (first | refine hl_a ?_ | refine hq_a ?_ | refine hl_nil ?_ | refine hq_nil ?_ | refine hq_ga ?_ | refine hq_sk ?_ | refine hq_su ?_ | refine hq_gT ?_ | refine hq_gF ?_ | refine hq_gd (fun h => ?_) (fun h => ?_) | refine hl_ga ?_ | refine hl_sk ?_ | refine hl_su ?_ | refine hl_gT ?_ | refine hl_gF ?_ | refine hl_gd (fun h => ?_) (fun h => ?_) | refine hx_next ?_ | refine hw_seq ?_ | refine hw_region ?_ | refine hw_dr ?_ | refine hw_block ?_ | refine hx_block ?_ | refine hw_tt ?_ | refine hw_ff ?_ | refine hw_iT ?_ | refine hw_iF ?_ | refine hw_skip ?_ | refine hw_ret ?_ | refine hw_exit ?_ | refine hx_then_ret ?_ | refine hx_block_ret ?_ | refine hx_then_exit ?_ | refine hx_block_here ?_ | refine hx_far ?_ | refine hx_any ?_ | (apply ha_end; decide +kernel))
  first | refine hl_q (by decide) (q_call (fun w hm => (canCoalesce_c n tot v ks xss row w (hr.up hm.below) hv)) rfl) ?_ | refine hq_q (by decide) (q_call (fun w hm => (canCoalesce_c n tot v ks xss row w (hr.up hm.below) hv)) rfl) ?_ | refine hl_g _ _ rfl rfl (by decide) (q_call (fun w hm => (canCoalesce_c n tot v ks xss row w (hr.up hm.below) hv)) rfl) ?_ | refine hq_g _ _ rfl rfl (by decide) (q_call (fun w hm => (canCoalesce_c n tot v ks xss row w (hr.up hm.below) hv)) rfl) ?_
  repeat' (first | refine hl_a ?_ | refine hq_a ?_ | refine hl_nil ?_ | refine hq_nil ?_ | refine hq_ga ?_ | refine hq_sk ?_ | refine hq_su ?_ | refine hq_gT ?_ | refine hq_gF ?_ | refine hq_gd (fun h => ?_) (fun h => ?_) | refine hl_ga ?_ | refine hl_sk ?_ | refine hl_su ?_ | refine hl_gT ?_ | refine hl_gF ?_ | refine hl_gd (fun h => ?_) (fun h => ?_) | refine hx_next ?_ | refine hw_seq ?_ | refine hw_region ?_ | refine hw_dr ?_ | refine hw_block ?_ | refine hx_block ?_ | refine hw_tt ?_ | refine hw_ff ?_ | refine hw_iT ?_ | refine hw_iF ?_ | refine hw_skip ?_ | refine hw_ret ?_ | refine hw_exit ?_ | refine hx_then_ret ?_ | refine hx_block_ret ?_ | refine hx_then_exit ?_ | refine hx_block_here ?_ | refine hx_far ?_ | refine hx_any ?_ | (apply ha_end; decide +kernel))
  refine hx_ret2 rfl rfl rfl (fun w hm => ⟨?_, hm.none⟩)
  have hiff : canP (n : Int) tot ks xss ↔ ∃ x ∈ canL n xss, SingN x := by
    unfold canP
    rw [Int.toNat_natCast]
    exact ⟨fun e => e.2, fun e => ⟨hv, e⟩⟩
  rw [canC, if_pos hv]
  simp only [hiff]
theorem specCanCoalesce_c (st tot : Int) (v : Value) (ks : List Int) (xss : List (List Int)) (row : Nat → Value) (w : World) (hr : RdM w v ks xss row) :
    Ret Try.prog 29 [chV st tot v] w (.tuple #[.bool (decide (canP st tot ks xss)), .int .i64 (canC st tot ks xss)]) := by
  refine calls_hw Try.func29 Try.ntmps29 rfl rfl ?_
  repeat' (first | refine hl_a ?_ | refine hq_a ?_ | refine hl_nil ?_ | refine hq_nil ?_ | refine hq_ga ?_ | refine hq_sk ?_ | refine hq_su ?_ | refine hq_gT ?_ | refine hq_gF ?_ | refine hq_gd (fun h => ?_) (fun h => ?_) | refine hl_ga ?_ | refine hl_sk ?_ | refine hl_su ?_ | refine hl_gT ?_ | refine hl_gF ?_ | refine hl_gd (fun h => ?_) (fun h => ?_) | refine hx_next ?_ | refine hw_seq ?_ | refine hw_region ?_ | refine hw_dr ?_ | refine hw_block ?_ | refine hx_block ?_ | refine hw_tt ?_ | refine hw_ff ?_ | refine hw_iT ?_ | refine hw_iF ?_ | refine hw_skip ?_ | refine hw_ret ?_ | refine hw_exit ?_ | refine hx_then_ret ?_ | refine hx_block_ret ?_ | refine hx_then_exit ?_ | refine hx_block_here ?_ | refine hx_far ?_ | refine hx_any ?_ | (apply ha_end; decide +kernel))
  refine hl_box (by decide) rfl (fun b => ?_)
  repeat' (first | refine hl_a ?_ | refine hq_a ?_ | refine hl_nil ?_ | refine hq_nil ?_ | refine hq_ga ?_ | refine hq_sk ?_ | refine hq_su ?_ | refine hq_gT ?_ | refine hq_gF ?_ | refine hq_gd (fun h => ?_) (fun h => ?_) | refine hl_ga ?_ | refine hl_sk ?_ | refine hl_su ?_ | refine hl_gT ?_ | refine hl_gF ?_ | refine hl_gd (fun h => ?_) (fun h => ?_) | refine hx_next ?_ | refine hw_seq ?_ | refine hw_region ?_ | refine hw_dr ?_ | refine hw_block ?_ | refine hx_block ?_ | refine hw_tt ?_ | refine hw_ff ?_ | refine hw_iT ?_ | refine hw_iF ?_ | refine hw_skip ?_ | refine hw_ret ?_ | refine hw_exit ?_ | refine hx_then_ret ?_ | refine hx_block_ret ?_ | refine hx_then_exit ?_ | refine hx_block_here ?_ | refine hx_far ?_ | refine hx_any ?_ | (apply ha_end; decide +kernel))
  first | refine hl_q (by decide) (q_call (fun w hm => ((ptM_blk 0 rfl hm (hr.up hm.below)).ok)) rfl) ?_ | refine hq_q (by decide) (q_call (fun w hm => ((ptM_blk 0 rfl hm (hr.up hm.below)).ok)) rfl) ?_ | refine hl_g _ _ rfl rfl (by decide) (q_call (fun w hm => ((ptM_blk 0 rfl hm (hr.up hm.below)).ok)) rfl) ?_ | refine hq_g _ _ rfl rfl (by decide) (q_call (fun w hm => ((ptM_blk 0 rfl hm (hr.up hm.below)).ok)) rfl) ?_
  repeat' (first | refine hl_a ?_ | refine hq_a ?_ | refine hl_nil ?_ | refine hq_nil ?_ | refine hq_ga ?_ | refine hq_sk ?_ | refine hq_su ?_ | refine hq_gT ?_ | refine hq_gF ?_ | refine hq_gd (fun h => ?_) (fun h => ?_) | refine hl_ga ?_ | refine hl_sk ?_ | refine hl_su ?_ | refine hl_gT ?_ | refine hl_gF ?_ | refine hl_gd (fun h => ?_) (fun h => ?_) | refine hx_next ?_ | refine hw_seq ?_ | refine hw_region ?_ | refine hw_dr ?_ | refine hw_block ?_ | refine hx_block ?_ | refine hw_tt ?_ | refine hw_ff ?_ | refine hw_iT ?_ | refine hw_iF ?_ | refine hw_skip ?_ | refine hw_ret ?_ | refine hw_exit ?_ | refine hx_then_ret ?_ | refine hx_block_ret ?_ | refine hx_then_exit ?_ | refine hx_block_here ?_ | refine hx_far ?_ | refine hx_any ?_ | (apply ha_end; decide +kernel))
  refine hw_if rfl (fun h => ?_) (fun h => ?_)
  · repeat' (first | refine hl_a ?_ | refine hq_a ?_ | refine hl_nil ?_ | refine hq_nil ?_ | refine hq_ga ?_ | refine hq_sk ?_ | refine hq_su ?_ | refine hq_gT ?_ | refine hq_gF ?_ | refine hq_gd (fun h => ?_) (fun h => ?_) | refine hl_ga ?_ | refine hl_sk ?_ | refine hl_su ?_ | refine hl_gT ?_ | refine hl_gF ?_ | refine hl_gd (fun h => ?_) (fun h => ?_) | refine hx_next ?_ | refine hw_seq ?_ | refine hw_region ?_ | refine hw_dr ?_ | refine hw_block ?_ | refine hx_block ?_ | refine hw_tt ?_ | refine hw_ff ?_ | refine hw_iT ?_ | refine hw_iF ?_ | refine hw_skip ?_ | refine hw_ret ?_ | refine hw_exit ?_ | refine hx_then_ret ?_ | refine hx_block_ret ?_ | refine hx_then_exit ?_ | refine hx_block_here ?_ | refine hx_far ?_ | refine hx_any ?_ | (apply ha_end; decide +kernel))
    refine hx_ret2 rfl rfl rfl (fun w hm => ⟨?_, hm.none⟩)
    rw [decide_eq_false (fun e => h e.1), canC, if_neg h]
  have hv := Classical.not_not.1 h
  obtain ⟨n, rfl, hn1, hn6⟩ := hv.nat
  repeat' (first | refine hl_a ?_ | refine hq_a ?_ | refine hl_nil ?_ | refine hq_nil ?_ | refine hq_ga ?_ | refine hq_sk ?_ | refine hq_su ?_ | refine hq_gT ?_ | refine hq_gF ?_ | refine hq_gd (fun h => ?_) (fun h => ?_) | refine hl_ga ?_ | refine hl_sk ?_ | refine hl_su ?_ | refine hl_gT ?_ | refine hl_gF ?_ | refine hl_gd (fun h => ?_) (fun h => ?_) | refine hx_next ?_ | refine hw_seq ?_ | refine hw_region ?_ | refine hw_dr ?_ | refine hw_block ?_ | refine hx_block ?_ | refine hw_tt ?_ | refine hw_ff ?_ | refine hw_iT ?_ | refine hw_iF ?_ | refine hw_skip ?_ | refine hw_ret ?_ | refine hw_exit ?_ | refine hx_then_ret ?_ | refine hx_block_ret ?_ | refine hx_then_exit ?_ | refine hx_block_here ?_ | refine hx_far ?_ | refine hx_any ?_ | (apply ha_end; decide +kernel))
  first | refine hl_q (by decide) (q_call (fun w hm => (l05Can_c _ n tot v ks xss row w (ptM_blk 0 rfl hm (hr.up hm.below)) hv)) rfl) ?_ | refine hq_q (by decide) (q_call (fun w hm => (l05Can_c _ n tot v ks xss row w (ptM_blk 0 rfl hm (hr.up hm.below)) hv)) rfl) ?_ | refine hl_g _ _ rfl rfl (by decide) (q_call (fun w hm => (l05Can_c _ n tot v ks xss row w (ptM_blk 0 rfl hm (hr.up hm.below)) hv)) rfl) ?_ | refine hq_g _ _ rfl rfl (by decide) (q_call (fun w hm => (l05Can_c _ n tot v ks xss row w (ptM_blk 0 rfl hm (hr.up hm.below)) hv)) rfl) ?_
  repeat' (first | refine hl_a ?_ | refine hq_a ?_ | refine hl_nil ?_ | refine hq_nil ?_ | refine hq_ga ?_ | refine hq_sk ?_ | refine hq_su ?_ | refine hq_gT ?_ | refine hq_gF ?_ | refine hq_gd (fun h => ?_) (fun h => ?_) | refine hl_ga ?_ | refine hl_sk ?_ | refine hl_su ?_ | refine hl_gT ?_ | refine hl_gF ?_ | refine hl_gd (fun h => ?_) (fun h => ?_) | refine hx_next ?_ | refine hw_seq ?_ | refine hw_region ?_ | refine hw_dr ?_ | refine hw_block ?_ | refine hx_block ?_ | refine hw_tt ?_ | refine hw_ff ?_ | refine hw_iT ?_ | refine hw_iF ?_ | refine hw_skip ?_ | refine hw_ret ?_ | refine hw_exit ?_ | refine hx_then_ret ?_ | refine hx_block_ret ?_ | refine hx_then_exit ?_ | refine hx_block_here ?_ | refine hx_far ?_ | refine hx_any ?_ | (apply ha_end; decide +kernel))
  refine hx_ret2 rfl rfl rfl (fun w hm => ⟨?_, hm.none⟩)
  have hiff : canP (n : Int) tot ks xss ↔ ∃ x ∈ canL n xss, SingN x := by
    unfold canP
    rw [Int.toNat_natCast]
    exact ⟨fun e => e.2, fun e => ⟨hv, e⟩⟩
  rw [canC, if_pos hv]
  simp only [hiff]
end Go.Proofs.Yteddlbgbakbpeaa
