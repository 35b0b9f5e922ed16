/- Contracts: names of codes, numbers in decimal, texts joined. -/
import Derived.Test.YtgeidbjcphjbiaaLibT
import Derived.Test.YtgeidbjcphjbiaaPureT
import Derived.Test.YtgeidbjcphjbiaaF29
import Derived.Test.YtgeidbjcphjbiaaF40
namespace Go.Eng
section
variable {P : Program} {N : Nat} {env : Env} {w0 : World} {rs : List Res} {dst : Option Nat} {ty : TypeId} {pos : String} {after : Array Edge} {gd : Option (Nat × Bool)} {x : Operand} {k : IntKind} {n : Int}
theorem q_negK {t : TypeId} (hx : env.ev x = some (.int k n)) : QO P N env w0 rs ⟨dst, .unOp .neg t x, ty, pos, after, gd⟩ (.int k (k.wrap (-n))) := qo_val fun a hs w _ => by
  have h1 : (Op.unary .neg (.int k n)).run P w = .ok (.int k (k.wrap (-n))) w := by
    rw [unary_neg]; simp [go_sem]
  simp [execOp, hs.ev hx, h1]
theorem q_convW {s t : TypeId} {k' : IntKind} [hS : IntT P s k] [hT : IntT P t k'] (hx : env.ev x = some (.int k n)) : QO P N env w0 rs ⟨dst, .convert s t x, ty, pos, after, gd⟩ (.int k' (k'.wrap n)) := qo_val fun ac hs w hm => by
  have h2 : (convert s t (.int k n)).run P w = .ok (.int k' (k'.wrap n)) w := by
    simp [convert, run_underlying hS.und, run_underlying hT.und, Conv.intToInt]
  simp [execOp, hs.ev hx, h2]
theorem wrap_u64_neg {n : Int} (h0 : -9223372036854775808 ≤ n) (h1 : n < 0) : IntKind.u64.wrap n = n + 18446744073709551616 := by
  simp only [IntKind.wrap, IntKind.bits, IntKind.signed]; simp; omega
theorem wrap_u64_neg2 {n : Int} (h0 : -9223372036854775808 ≤ n) (h1 : n < 0) : IntKind.u64.wrap (-(n + 18446744073709551616)) = -n := by
  simp only [IntKind.wrap, IntKind.bits, IntKind.signed]; simp; omega
end
end Go.Eng
namespace Go.Proofs.Ytgeidbjcphjbiaa
open Go.Eng Go.RowKit
set_option linter.unusedVariables false

/-- The names of the codes. -/
def codeNames : List (List UInt8) := [[111, 107], [105, 110, 118, 97, 108, 105, 100], [114, 97, 110, 103, 101], [108, 105, 109, 105, 116], [115, 116, 97, 116, 101], [115, 121, 110, 116, 97, 120], [110, 111, 116, 102, 111, 117, 110, 100], [98, 117, 100, 103, 101, 116], [112, 114, 111, 111, 102]]
def codeN (k : Int) : List UInt8 := if 0 ≤ k ∧ k ≤ 8 then codeNames.getD k.toNat [] else []

theorem implCodeName_c (k : Int) (w : World) (hk : I64 k) : Ret Try.prog 13 [.int .i64 k] w (sV (codeN k)) := by
  refine calls_hw Try.func13 Try.ntmps13 rfl rfl ?_
  repeat' (first | refine hl_a ?_ | refine hq_a ?_ | refine hl_nil ?_ | refine hq_nil ?_ | refine hq_ga ?_ | refine hq_sk ?_ | refine hq_su ?_ | refine hq_gT ?_ | refine hq_gF ?_ | refine hq_gd (fun h => ?_) (fun h => ?_) | refine hl_ga ?_ | refine hl_sk ?_ | refine hl_su ?_ | refine hl_gT ?_ | refine hl_gF ?_ | refine hl_gd (fun h => ?_) (fun h => ?_) | refine hx_next ?_ | refine hw_seq ?_ | refine hw_region ?_ | refine hw_dr ?_ | refine hw_block ?_ | refine hx_block ?_ | refine hw_tt ?_ | refine hw_ff ?_ | refine hw_iT ?_ | refine hw_iF ?_ | refine hw_skip ?_ | refine hw_ret ?_ | refine hw_exit ?_ | refine hx_then_ret ?_ | refine hx_block_ret ?_ | refine hx_then_exit ?_ | refine hx_block_here ?_ | refine hx_far ?_ | refine hx_any ?_ | (apply ha_end; decide +kernel))
  first | refine hl_q (by decide) (q_build (codeNames.map sV) rfl rfl (by decide) (by kernel_rfl)) ?_ | refine hq_q (by decide) (q_build (codeNames.map sV) rfl rfl (by decide) (by kernel_rfl)) ?_ | refine hl_g _ _ rfl rfl (by decide) (q_build (codeNames.map sV) rfl rfl (by decide) (by kernel_rfl)) ?_ | refine hq_g _ _ rfl rfl (by decide) (q_build (codeNames.map sV) rfl rfl (by decide) (by kernel_rfl)) ?_
  repeat' (first | refine hl_a ?_ | refine hq_a ?_ | refine hl_nil ?_ | refine hq_nil ?_ | refine hq_ga ?_ | refine hq_sk ?_ | refine hq_su ?_ | refine hq_gT ?_ | refine hq_gF ?_ | refine hq_gd (fun h => ?_) (fun h => ?_) | refine hl_ga ?_ | refine hl_sk ?_ | refine hl_su ?_ | refine hl_gT ?_ | refine hl_gF ?_ | refine hl_gd (fun h => ?_) (fun h => ?_) | refine hx_next ?_ | refine hw_seq ?_ | refine hw_region ?_ | refine hw_dr ?_ | refine hw_block ?_ | refine hx_block ?_ | refine hw_tt ?_ | refine hw_ff ?_ | refine hw_iT ?_ | refine hw_iF ?_ | refine hw_skip ?_ | refine hw_ret ?_ | refine hw_exit ?_ | refine hx_then_ret ?_ | refine hx_block_ret ?_ | refine hx_then_exit ?_ | refine hx_block_here ?_ | refine hx_far ?_ | refine hx_any ?_ | (apply ha_end; decide +kernel))
  refine hl_alloc (by decide) (fun b => ?_)
  refine hl_storeA 0 rfl rfl rfl rfl (by kernel_rfl) (by decide) ?_
  repeat' (first | refine hl_a ?_ | refine hq_a ?_ | refine hl_nil ?_ | refine hq_nil ?_ | refine hq_ga ?_ | refine hq_sk ?_ | refine hq_su ?_ | refine hq_gT ?_ | refine hq_gF ?_ | refine hq_gd (fun h => ?_) (fun h => ?_) | refine hl_ga ?_ | refine hl_sk ?_ | refine hl_su ?_ | refine hl_gT ?_ | refine hl_gF ?_ | refine hl_gd (fun h => ?_) (fun h => ?_) | refine hx_next ?_ | refine hw_seq ?_ | refine hw_region ?_ | refine hw_dr ?_ | refine hw_block ?_ | refine hx_block ?_ | refine hw_tt ?_ | refine hw_ff ?_ | refine hw_iT ?_ | refine hw_iF ?_ | refine hw_skip ?_ | refine hw_ret ?_ | refine hw_exit ?_ | refine hx_then_ret ?_ | refine hx_block_ret ?_ | refine hx_then_exit ?_ | refine hx_block_here ?_ | refine hx_far ?_ | refine hx_any ?_ | (apply ha_end; decide +kernel))
  first | refine hl_q (by decide) (q_call (fun w hm => hasIndex_c k 9 (by decide) w) rfl) ?_ | refine hq_q (by decide) (q_call (fun w hm => hasIndex_c k 9 (by decide) w) rfl) ?_ | refine hl_g _ _ rfl rfl (by decide) (q_call (fun w hm => hasIndex_c k 9 (by decide) w) rfl) ?_ | refine hq_g _ _ rfl rfl (by decide) (q_call (fun w hm => hasIndex_c k 9 (by decide) w) rfl) ?_
  rcases Classical.em (0 ≤ k ∧ k ≤ 8) with h | h
  · have h' : 0 ≤ k ∧ k ≤ ((9 : Nat) : Int) - 1 := by omega
    have h2 : ¬ ¬ (0 ≤ k ∧ k ≤ ((9 : Nat) : Int) - 1) := fun e => e h'
    obtain ⟨i, rfl⟩ := Int.eq_ofNat_of_zero_le h.1
    have hi : i < 9 := by omega
    repeat' (first | refine hl_a ?_ | refine hq_a ?_ | refine hl_nil ?_ | refine hq_nil ?_ | refine hq_ga ?_ | refine hq_sk ?_ | refine hq_su ?_ | refine hq_gT ?_ | refine hq_gF ?_ | refine hq_gd (fun h => ?_) (fun h => ?_) | refine hl_ga ?_ | refine hl_sk ?_ | refine hl_su ?_ | refine hl_gT ?_ | refine hl_gF ?_ | refine hl_gd (fun h => ?_) (fun h => ?_) | refine hx_next ?_ | refine hw_seq ?_ | refine hw_region ?_ | refine hw_dr ?_ | refine hw_block ?_ | refine hx_block ?_ | refine hw_tt ?_ | refine hw_ff ?_ | refine hw_iT ?_ | refine hw_iF ?_ | refine hw_skip ?_ | refine hw_ret ?_ | refine hw_exit ?_ | refine hx_then_ret ?_ | refine hx_block_ret ?_ | refine hx_then_exit ?_ | refine hx_block_here ?_ | refine hx_far ?_ | refine hx_any ?_ | (apply ha_end; decide +kernel))
    first | refine hl_q (by decide) (q_idxA (i := i) rfl rfl hi) ?_ | refine hq_q (by decide) (q_idxA (i := i) rfl rfl hi) ?_ | refine hl_g _ _ rfl rfl (by decide) (q_idxA (i := i) rfl rfl hi) ?_ | refine hq_g _ _ rfl rfl (by decide) (q_idxA (i := i) rfl rfl hi) ?_
    have hl : Ld w [rBlk b ((codeNames.map sV).toArray) 79] ((⟨b, 0, none⟩ : Addr).add (i * 1)) (sV (codeNames.getD i [])) := by
      rw [add_off]
      refine ld_blk 0 rfl ?_
      have h9 : i < codeNames.length := hi
      rw [List.getElem?_toArray, Nat.zero_add, Nat.mul_one, List.getElem?_map, List.getElem?_eq_getElem h9, getD_lt _ _ _ h9]; rfl
    repeat' (first | refine hl_a ?_ | refine hq_a ?_ | refine hl_nil ?_ | refine hq_nil ?_ | refine hq_ga ?_ | refine hq_sk ?_ | refine hq_su ?_ | refine hq_gT ?_ | refine hq_gF ?_ | refine hq_gd (fun h => ?_) (fun h => ?_) | refine hl_ga ?_ | refine hl_sk ?_ | refine hl_su ?_ | refine hl_gT ?_ | refine hl_gF ?_ | refine hl_gd (fun h => ?_) (fun h => ?_) | refine hx_next ?_ | refine hw_seq ?_ | refine hw_region ?_ | refine hw_dr ?_ | refine hw_block ?_ | refine hx_block ?_ | refine hw_tt ?_ | refine hw_ff ?_ | refine hw_iT ?_ | refine hw_iF ?_ | refine hw_skip ?_ | refine hw_ret ?_ | refine hw_exit ?_ | refine hx_then_ret ?_ | refine hx_block_ret ?_ | refine hx_then_exit ?_ | refine hx_block_here ?_ | refine hx_far ?_ | refine hx_any ?_ | (apply ha_end; decide +kernel))
    refine hx_ret1 rfl rfl (fun w hm => ⟨?_, hm.none⟩)
    rw [codeN, if_pos h]; rfl
  · have h' : ¬ (0 ≤ k ∧ k ≤ ((9 : Nat) : Int) - 1) := fun e => h (by omega)
    repeat' (first | refine hl_a ?_ | refine hq_a ?_ | refine hl_nil ?_ | refine hq_nil ?_ | refine hq_ga ?_ | refine hq_sk ?_ | refine hq_su ?_ | refine hq_gT ?_ | refine hq_gF ?_ | refine hq_gd (fun h => ?_) (fun h => ?_) | refine hl_ga ?_ | refine hl_sk ?_ | refine hl_su ?_ | refine hl_gT ?_ | refine hl_gF ?_ | refine hl_gd (fun h => ?_) (fun h => ?_) | refine hx_next ?_ | refine hw_seq ?_ | refine hw_region ?_ | refine hw_dr ?_ | refine hw_block ?_ | refine hx_block ?_ | refine hw_tt ?_ | refine hw_ff ?_ | refine hw_iT ?_ | refine hw_iF ?_ | refine hw_skip ?_ | refine hw_ret ?_ | refine hw_exit ?_ | refine hx_then_ret ?_ | refine hx_block_ret ?_ | refine hx_then_exit ?_ | refine hx_block_here ?_ | refine hx_far ?_ | refine hx_any ?_ | (apply ha_end; decide +kernel))
    refine hx_ret1 rfl rfl (fun w hm => ⟨?_, hm.none⟩)
    rw [codeN, if_neg h]
theorem specCodeName_c (k : Int) (w : World) (hk : I64 k) : Ret Try.prog 12 [.int .i64 k] w (sV (codeN k)) := by
  refine calls_hw Try.func12 Try.ntmps12 rfl rfl ?_
  repeat' (first | refine hl_a ?_ | refine hq_a ?_ | refine hl_nil ?_ | refine hq_nil ?_ | refine hq_ga ?_ | refine hq_sk ?_ | refine hq_su ?_ | refine hq_gT ?_ | refine hq_gF ?_ | refine hq_gd (fun h => ?_) (fun h => ?_) | refine hl_ga ?_ | refine hl_sk ?_ | refine hl_su ?_ | refine hl_gT ?_ | refine hl_gF ?_ | refine hl_gd (fun h => ?_) (fun h => ?_) | refine hx_next ?_ | refine hw_seq ?_ | refine hw_region ?_ | refine hw_dr ?_ | refine hw_block ?_ | refine hx_block ?_ | refine hw_tt ?_ | refine hw_ff ?_ | refine hw_iT ?_ | refine hw_iF ?_ | refine hw_skip ?_ | refine hw_ret ?_ | refine hw_exit ?_ | refine hx_then_ret ?_ | refine hx_block_ret ?_ | refine hx_then_exit ?_ | refine hx_block_here ?_ | refine hx_far ?_ | refine hx_any ?_ | (apply ha_end; decide +kernel))
  refine hl_lit (codeNames.map sV) (by decide) rfl rfl (by decide) rfl (by decide) (by decide) (fun b => ?_)
  repeat' (first | refine hl_a ?_ | refine hq_a ?_ | refine hl_nil ?_ | refine hq_nil ?_ | refine hq_ga ?_ | refine hq_sk ?_ | refine hq_su ?_ | refine hq_gT ?_ | refine hq_gF ?_ | refine hq_gd (fun h => ?_) (fun h => ?_) | refine hl_ga ?_ | refine hl_sk ?_ | refine hl_su ?_ | refine hl_gT ?_ | refine hl_gF ?_ | refine hl_gd (fun h => ?_) (fun h => ?_) | refine hx_next ?_ | refine hw_seq ?_ | refine hw_region ?_ | refine hw_dr ?_ | refine hw_block ?_ | refine hx_block ?_ | refine hw_tt ?_ | refine hw_ff ?_ | refine hw_iT ?_ | refine hw_iF ?_ | refine hw_skip ?_ | refine hw_ret ?_ | refine hw_exit ?_ | refine hx_then_ret ?_ | refine hx_block_ret ?_ | refine hx_then_exit ?_ | refine hx_block_here ?_ | refine hx_far ?_ | refine hx_any ?_ | (apply ha_end; decide +kernel))
  first | refine hl_q (by decide) (q_call (fun w hm => l00In_c _ _ _ _) rfl) ?_ | refine hq_q (by decide) (q_call (fun w hm => l00In_c _ _ _ _) rfl) ?_ | refine hl_g _ _ rfl rfl (by decide) (q_call (fun w hm => l00In_c _ _ _ _) rfl) ?_ | refine hq_g _ _ rfl rfl (by decide) (q_call (fun w hm => l00In_c _ _ _ _) rfl) ?_
  rcases Classical.em (0 ≤ k ∧ k ≤ 8) with h | h
  · have h2 : ¬ ¬ (0 ≤ k ∧ k ≤ 8) := fun e => e h
    obtain ⟨i, rfl⟩ := Int.eq_ofNat_of_zero_le h.1
    have hi : i < 9 := by omega
    have hs : SlOk (.slice (some ⟨b, 0, none⟩) 9 9) 9 := lit_ok _ 9 (by decide)
    have hl : Ld w [rOwn 9 1 (.slice (some ⟨b, 0, none⟩) 9 9) 9 (codeNames.map sV)] (vAt (.slice (some ⟨b, 0, none⟩) 9 9) i) (sV (codeNames.getD i [])) := by
      refine ld_own 0 rfl ?_
      have h9 : i < codeNames.length := hi
      rw [List.getElem?_map, List.getElem?_eq_getElem h9, getD_lt _ _ _ h9]; rfl
    repeat' (first | refine hl_a ?_ | refine hq_a ?_ | refine hl_nil ?_ | refine hq_nil ?_ | refine hq_ga ?_ | refine hq_sk ?_ | refine hq_su ?_ | refine hq_gT ?_ | refine hq_gF ?_ | refine hq_gd (fun h => ?_) (fun h => ?_) | refine hl_ga ?_ | refine hl_sk ?_ | refine hl_su ?_ | refine hl_gT ?_ | refine hl_gF ?_ | refine hl_gd (fun h => ?_) (fun h => ?_) | refine hx_next ?_ | refine hw_seq ?_ | refine hw_region ?_ | refine hw_dr ?_ | refine hw_block ?_ | refine hx_block ?_ | refine hw_tt ?_ | refine hw_ff ?_ | refine hw_iT ?_ | refine hw_iF ?_ | refine hw_skip ?_ | refine hw_ret ?_ | refine hw_exit ?_ | refine hx_then_ret ?_ | refine hx_block_ret ?_ | refine hx_then_exit ?_ | refine hx_block_here ?_ | refine hx_far ?_ | refine hx_any ?_ | (apply ha_end; decide +kernel))
    refine hx_ret1 rfl rfl (fun w hm => ⟨?_, hm.none⟩)
    rw [codeN, if_pos h]; rfl
  · repeat' (first | refine hl_a ?_ | refine hq_a ?_ | refine hl_nil ?_ | refine hq_nil ?_ | refine hq_ga ?_ | refine hq_sk ?_ | refine hq_su ?_ | refine hq_gT ?_ | refine hq_gF ?_ | refine hq_gd (fun h => ?_) (fun h => ?_) | refine hl_ga ?_ | refine hl_sk ?_ | refine hl_su ?_ | refine hl_gT ?_ | refine hl_gF ?_ | refine hl_gd (fun h => ?_) (fun h => ?_) | refine hx_next ?_ | refine hw_seq ?_ | refine hw_region ?_ | refine hw_dr ?_ | refine hw_block ?_ | refine hx_block ?_ | refine hw_tt ?_ | refine hw_ff ?_ | refine hw_iT ?_ | refine hw_iF ?_ | refine hw_skip ?_ | refine hw_ret ?_ | refine hw_exit ?_ | refine hx_then_ret ?_ | refine hx_block_ret ?_ | refine hx_then_exit ?_ | refine hx_block_here ?_ | refine hx_far ?_ | refine hx_any ?_ | (apply ha_end; decide +kernel))
    refine hx_ret1 rfl rfl (fun w hm => ⟨?_, hm.none⟩)
    rw [codeN, if_neg h]

/-- The text of one byte that has just been laid. -/
theorem ld_byte {w0 : World} {rs : List Res} {e b : Nat} (i : Nat) (d : Nat) (hd : d < 10) (hi : rs[i]? = some (rOwn e 1 (.slice (some ⟨b, 0, none⟩) 1 1) 1 [.int .u8 (48 + (d : Int))])) : ∀ j, j < [dig d].length → Ld w0 rs ((⟨b, 0, none⟩ : Addr).add j) (.int .u8 (([dig d].getD j 0).toNat : Int)) := by
  intro j hj
  have e : j = 0 := by simpa using hj
  subst e
  have h := ld_own (w0 := w0) i (j := 0) hi rfl
  have h2 : (([dig d].getD 0 0).toNat : Int) = 48 + (d : Int) := by
    show ((dig d).toNat : Int) = _
    rw [dig_toNat hd]; simp
  rw [h2]
  exact h
theorem Decimal_c (n : Nat) (hn : n < 4611686018427387904) (w : World) : Ret Try.prog 110 [.int .i64 (n : Int)] w (sV (dec n)) := by
  induction n using Nat.strongRecOn generalizing w with
  | ind n ih =>
  refine calls_hw Try.func110 Try.ntmps110 rfl rfl ?_
  repeat' (first | refine hl_a ?_ | refine hq_a ?_ | refine hl_nil ?_ | refine hq_nil ?_ | refine hq_ga ?_ | refine hq_sk ?_ | refine hq_su ?_ | refine hq_gT ?_ | refine hq_gF ?_ | refine hq_gd (fun h => ?_) (fun h => ?_) | refine hl_ga ?_ | refine hl_sk ?_ | refine hl_su ?_ | refine hl_gT ?_ | refine hl_gF ?_ | refine hl_gd (fun h => ?_) (fun h => ?_) | refine hx_next ?_ | refine hw_seq ?_ | refine hw_region ?_ | refine hw_dr ?_ | refine hw_block ?_ | refine hx_block ?_ | refine hw_tt ?_ | refine hw_ff ?_ | refine hw_iT ?_ | refine hw_iF ?_ | refine hw_skip ?_ | refine hw_ret ?_ | refine hw_exit ?_ | refine hx_then_ret ?_ | refine hx_block_ret ?_ | refine hx_then_exit ?_ | refine hx_block_here ?_ | refine hx_far ?_ | refine hx_any ?_ | (apply ha_end; decide +kernel))
  refine hw_if rfl (fun h => ?_) (fun h => ?_)
  · rw [dec_ge (by omega)]
    have h1 : n / 10 < n := by omega
    have hl := dec_len 20 (n / 10) (Nat.lt_of_lt_of_le (Nat.lt_of_le_of_lt (Nat.div_le_self n 10) hn) (by decide))
    have hl2 : (dec (n / 10)).length + [dig (n % 10)].length ≤ 9223372036854775807 := by simp; omega
    repeat' (first | refine hl_a ?_ | refine hq_a ?_ | refine hl_nil ?_ | refine hq_nil ?_ | refine hq_ga ?_ | refine hq_sk ?_ | refine hq_su ?_ | refine hq_gT ?_ | refine hq_gF ?_ | refine hq_gd (fun h => ?_) (fun h => ?_) | refine hl_ga ?_ | refine hl_sk ?_ | refine hl_su ?_ | refine hl_gT ?_ | refine hl_gF ?_ | refine hl_gd (fun h => ?_) (fun h => ?_) | refine hx_next ?_ | refine hw_seq ?_ | refine hw_region ?_ | refine hw_block ?_ | refine hx_block ?_ | refine hw_tt ?_ | refine hw_ff ?_ | refine hw_iT ?_ | refine hw_iF ?_ | refine hw_skip ?_ | refine hw_ret ?_ | refine hw_exit ?_ | refine hx_then_ret ?_ | refine hx_block_ret ?_ | refine hx_then_exit ?_ | refine hx_block_here ?_ | refine hx_far ?_ | refine hx_any ?_ | (apply ha_end; decide +kernel))
    refine hw_g [] 11 (by kernel_rfl) ?_
    first | refine hg_t 0 ?_ | refine hg_tn 0 ?_
    refine hg_t 1 ?_ (hq := by exact q_quoN (b := 10) rfl rfl (by omega) (by decide))
    first | refine hg_t 3 ?_ | refine hg_tn 3 ?_
    refine hg_t 4 ?_ (hq := by exact q_remN (b := 10) rfl rfl (by omega) (by decide))
    first | refine hg_t 5 ?_ | refine hg_tn 5 ?_
    refine hg_t 6 ?_ (hq := by exact q_conv rfl (wrap_u8 (by omega) (by omega)))
    refine hg_2 2 7 (by decide +kernel) rfl rfl ?_ ?_
    · first | refine hl_q (by decide) (q_call (fun w hm => ih _ h1 (by omega) w) rfl) ?_ | refine hq_q (by decide) (q_call (fun w hm => ih _ h1 (by omega) w) rfl) ?_ | refine hl_g _ _ rfl rfl (by decide) (q_call (fun w hm => ih _ h1 (by omega) w) rfl) ?_ | refine hq_g _ _ rfl rfl (by decide) (q_call (fun w hm => ih _ h1 (by omega) w) rfl) ?_
      refine hl_nil ?_
      refine hx_hg (by first | exact fun w hm => hm.none | exact fun w hm => Mem.keep _ hm) ?_
      refine hg_1 7 (by decide +kernel) rfl ?_
      refine hl_lit [.int .u8 (48 + ((n % 10 : Nat) : Int))] (by decide) rfl rfl (by simp [Value.oneCell']) rfl (by decide) (by decide) (fun b => ?_)
      refine hl_nil ?_
      refine hx_hg (by first | exact fun w hm => hm.none | exact fun w hm => Mem.keep _ hm) ?_
      refine hg_1 8 (by decide +kernel) rfl ?_
      first | refine hl_q (by decide) (q_b2s [dig (n % 10)] rfl (ld_byte 0 (n % 10) (by omega) rfl)) ?_ | refine hq_q (by decide) (q_b2s [dig (n % 10)] rfl (ld_byte 0 (n % 10) (by omega) rfl)) ?_ | refine hl_g _ _ rfl rfl (by decide) (q_b2s [dig (n % 10)] rfl (ld_byte 0 (n % 10) (by omega) rfl)) ?_ | refine hq_g _ _ rfl rfl (by decide) (q_b2s [dig (n % 10)] rfl (ld_byte 0 (n % 10) (by omega) rfl)) ?_
      refine hl_nil ?_
      refine hx_hg (by first | exact fun w hm => hm.none | exact fun w hm => Mem.keep _ hm) ?_
      refine hg_1 9 (by decide +kernel) rfl ?_
      first | refine hl_q (by decide) (q_catS rfl rfl hl2) ?_ | refine hq_q (by decide) (q_catS rfl rfl hl2) ?_ | refine hl_g _ _ rfl rfl (by decide) (q_catS rfl rfl hl2) ?_ | refine hq_g _ _ rfl rfl (by decide) (q_catS rfl rfl hl2) ?_
      refine hl_nil ?_
      refine hx_hg (by first | exact fun w hm => hm.none | exact fun w hm => Mem.keep _ hm) ?_
      refine hg_1 10 (by decide +kernel) rfl ?_
      refine hl_a ?_
      refine hl_nil ?_
      refine hx_hg (by first | exact fun w hm => hm.none | exact fun w hm => Mem.keep _ hm) ?_
      refine hg_end (by decide +kernel) ?_
      repeat' (first | refine hl_a ?_ | refine hq_a ?_ | refine hl_nil ?_ | refine hq_nil ?_ | refine hq_ga ?_ | refine hq_sk ?_ | refine hq_su ?_ | refine hq_gT ?_ | refine hq_gF ?_ | refine hq_gd (fun h => ?_) (fun h => ?_) | refine hl_ga ?_ | refine hl_sk ?_ | refine hl_su ?_ | refine hl_gT ?_ | refine hl_gF ?_ | refine hl_gd (fun h => ?_) (fun h => ?_) | refine hx_next ?_ | refine hw_seq ?_ | refine hw_region ?_ | refine hw_dr ?_ | refine hw_block ?_ | refine hx_block ?_ | refine hw_tt ?_ | refine hw_ff ?_ | refine hw_iT ?_ | refine hw_iF ?_ | refine hw_skip ?_ | refine hw_ret ?_ | refine hw_exit ?_ | refine hx_then_ret ?_ | refine hx_block_ret ?_ | refine hx_then_exit ?_ | refine hx_block_here ?_ | refine hx_far ?_ | refine hx_any ?_ | (apply ha_end; decide +kernel))
      refine hx_ret1 rfl rfl (fun w hm => ⟨?_, hm.none⟩)
      rfl
    · refine hl_lit [.int .u8 (48 + ((n % 10 : Nat) : Int))] (by decide) rfl rfl (by simp [Value.oneCell']) rfl (by decide) (by decide) (fun b => ?_)
      refine hl_nil ?_
      refine hx_hg (by first | exact fun w hm => hm.none | exact fun w hm => Mem.keep _ hm) ?_
      refine hg_2 2 8 (by decide +kernel) rfl rfl ?_ ?_
      · first | refine hl_q (by decide) (q_call (fun w hm => ih _ h1 (by omega) w) rfl) ?_ | refine hq_q (by decide) (q_call (fun w hm => ih _ h1 (by omega) w) rfl) ?_ | refine hl_g _ _ rfl rfl (by decide) (q_call (fun w hm => ih _ h1 (by omega) w) rfl) ?_ | refine hq_g _ _ rfl rfl (by decide) (q_call (fun w hm => ih _ h1 (by omega) w) rfl) ?_
        refine hl_nil ?_
        refine hx_hg (by first | exact fun w hm => hm.none | exact fun w hm => Mem.keep _ hm) ?_
        refine hg_1 8 (by decide +kernel) rfl ?_
        first | refine hl_q (by decide) (q_b2s [dig (n % 10)] rfl (ld_byte 0 (n % 10) (by omega) rfl)) ?_ | refine hq_q (by decide) (q_b2s [dig (n % 10)] rfl (ld_byte 0 (n % 10) (by omega) rfl)) ?_ | refine hl_g _ _ rfl rfl (by decide) (q_b2s [dig (n % 10)] rfl (ld_byte 0 (n % 10) (by omega) rfl)) ?_ | refine hq_g _ _ rfl rfl (by decide) (q_b2s [dig (n % 10)] rfl (ld_byte 0 (n % 10) (by omega) rfl)) ?_
        refine hl_nil ?_
        refine hx_hg (by first | exact fun w hm => hm.none | exact fun w hm => Mem.keep _ hm) ?_
        refine hg_1 9 (by decide +kernel) rfl ?_
        first | refine hl_q (by decide) (q_catS rfl rfl hl2) ?_ | refine hq_q (by decide) (q_catS rfl rfl hl2) ?_ | refine hl_g _ _ rfl rfl (by decide) (q_catS rfl rfl hl2) ?_ | refine hq_g _ _ rfl rfl (by decide) (q_catS rfl rfl hl2) ?_
        refine hl_nil ?_
        refine hx_hg (by first | exact fun w hm => hm.none | exact fun w hm => Mem.keep _ hm) ?_
        refine hg_1 10 (by decide +kernel) rfl ?_
        refine hl_a ?_
        refine hl_nil ?_
        refine hx_hg (by first | exact fun w hm => hm.none | exact fun w hm => Mem.keep _ hm) ?_
        refine hg_end (by decide +kernel) ?_
        repeat' (first | refine hl_a ?_ | refine hq_a ?_ | refine hl_nil ?_ | refine hq_nil ?_ | refine hq_ga ?_ | refine hq_sk ?_ | refine hq_su ?_ | refine hq_gT ?_ | refine hq_gF ?_ | refine hq_gd (fun h => ?_) (fun h => ?_) | refine hl_ga ?_ | refine hl_sk ?_ | refine hl_su ?_ | refine hl_gT ?_ | refine hl_gF ?_ | refine hl_gd (fun h => ?_) (fun h => ?_) | refine hx_next ?_ | refine hw_seq ?_ | refine hw_region ?_ | refine hw_dr ?_ | refine hw_block ?_ | refine hx_block ?_ | refine hw_tt ?_ | refine hw_ff ?_ | refine hw_iT ?_ | refine hw_iF ?_ | refine hw_skip ?_ | refine hw_ret ?_ | refine hw_exit ?_ | refine hx_then_ret ?_ | refine hx_block_ret ?_ | refine hx_then_exit ?_ | refine hx_block_here ?_ | refine hx_far ?_ | refine hx_any ?_ | (apply ha_end; decide +kernel))
        refine hx_ret1 rfl rfl (fun w hm => ⟨?_, hm.none⟩)
        rfl
      · first | refine hl_q (by decide) (q_b2s [dig (n % 10)] rfl (ld_byte 0 (n % 10) (by omega) rfl)) ?_ | refine hq_q (by decide) (q_b2s [dig (n % 10)] rfl (ld_byte 0 (n % 10) (by omega) rfl)) ?_ | refine hl_g _ _ rfl rfl (by decide) (q_b2s [dig (n % 10)] rfl (ld_byte 0 (n % 10) (by omega) rfl)) ?_ | refine hq_g _ _ rfl rfl (by decide) (q_b2s [dig (n % 10)] rfl (ld_byte 0 (n % 10) (by omega) rfl)) ?_
        refine hl_nil ?_
        refine hx_hg (by first | exact fun w hm => hm.none | exact fun w hm => Mem.keep _ hm) ?_
        refine hg_1 2 (by decide +kernel) rfl ?_
        first | refine hl_q (by decide) (q_call (fun w hm => ih _ h1 (by omega) w) rfl) ?_ | refine hq_q (by decide) (q_call (fun w hm => ih _ h1 (by omega) w) rfl) ?_ | refine hl_g _ _ rfl rfl (by decide) (q_call (fun w hm => ih _ h1 (by omega) w) rfl) ?_ | refine hq_g _ _ rfl rfl (by decide) (q_call (fun w hm => ih _ h1 (by omega) w) rfl) ?_
        refine hl_nil ?_
        refine hx_hg (by first | exact fun w hm => hm.none | exact fun w hm => Mem.keep _ hm) ?_
        refine hg_1 9 (by decide +kernel) rfl ?_
        first | refine hl_q (by decide) (q_catS rfl rfl hl2) ?_ | refine hq_q (by decide) (q_catS rfl rfl hl2) ?_ | refine hl_g _ _ rfl rfl (by decide) (q_catS rfl rfl hl2) ?_ | refine hq_g _ _ rfl rfl (by decide) (q_catS rfl rfl hl2) ?_
        refine hl_nil ?_
        refine hx_hg (by first | exact fun w hm => hm.none | exact fun w hm => Mem.keep _ hm) ?_
        refine hg_1 10 (by decide +kernel) rfl ?_
        refine hl_a ?_
        refine hl_nil ?_
        refine hx_hg (by first | exact fun w hm => hm.none | exact fun w hm => Mem.keep _ hm) ?_
        refine hg_end (by decide +kernel) ?_
        repeat' (first | refine hl_a ?_ | refine hq_a ?_ | refine hl_nil ?_ | refine hq_nil ?_ | refine hq_ga ?_ | refine hq_sk ?_ | refine hq_su ?_ | refine hq_gT ?_ | refine hq_gF ?_ | refine hq_gd (fun h => ?_) (fun h => ?_) | refine hl_ga ?_ | refine hl_sk ?_ | refine hl_su ?_ | refine hl_gT ?_ | refine hl_gF ?_ | refine hl_gd (fun h => ?_) (fun h => ?_) | refine hx_next ?_ | refine hw_seq ?_ | refine hw_region ?_ | refine hw_dr ?_ | refine hw_block ?_ | refine hx_block ?_ | refine hw_tt ?_ | refine hw_ff ?_ | refine hw_iT ?_ | refine hw_iF ?_ | refine hw_skip ?_ | refine hw_ret ?_ | refine hw_exit ?_ | refine hx_then_ret ?_ | refine hx_block_ret ?_ | refine hx_then_exit ?_ | refine hx_block_here ?_ | refine hx_far ?_ | refine hx_any ?_ | (apply ha_end; decide +kernel))
        refine hx_ret1 rfl rfl (fun w hm => ⟨?_, hm.none⟩)
        rfl
  · have hlt : n < 10 := by omega
    rw [dec_lt hlt]
    repeat' (first | refine hl_a ?_ | refine hq_a ?_ | refine hl_nil ?_ | refine hq_nil ?_ | refine hq_ga ?_ | refine hq_sk ?_ | refine hq_su ?_ | refine hq_gT ?_ | refine hq_gF ?_ | refine hq_gd (fun h => ?_) (fun h => ?_) | refine hl_ga ?_ | refine hl_sk ?_ | refine hl_su ?_ | refine hl_gT ?_ | refine hl_gF ?_ | refine hl_gd (fun h => ?_) (fun h => ?_) | refine hx_next ?_ | refine hw_seq ?_ | refine hw_region ?_ | refine hw_dr ?_ | refine hw_block ?_ | refine hx_block ?_ | refine hw_tt ?_ | refine hw_ff ?_ | refine hw_iT ?_ | refine hw_iF ?_ | refine hw_skip ?_ | refine hw_ret ?_ | refine hw_exit ?_ | refine hx_then_ret ?_ | refine hx_block_ret ?_ | refine hx_then_exit ?_ | refine hx_block_here ?_ | refine hx_far ?_ | refine hx_any ?_ | (apply ha_end; decide +kernel) | (apply hl_q; decide; exact q_conv rfl (wrap_u8 (by omega) (by omega))) | (apply hq_q; decide; exact q_conv rfl (wrap_u8 (by omega) (by omega))) | (apply hq_g; rfl; rfl; decide; exact q_conv rfl (wrap_u8 (by omega) (by omega))) | (apply hl_g; rfl; rfl; decide; exact q_conv rfl (wrap_u8 (by omega) (by omega))))
    refine hl_lit [.int .u8 (48 + (n : Int))] (by decide) rfl rfl (by simp [Value.oneCell']) rfl (by decide) (by decide) (fun b => ?_)
    first | refine hl_q (by decide) (q_b2s [dig n] rfl (ld_byte 0 n hlt rfl)) ?_ | refine hq_q (by decide) (q_b2s [dig n] rfl (ld_byte 0 n hlt rfl)) ?_ | refine hl_g _ _ rfl rfl (by decide) (q_b2s [dig n] rfl (ld_byte 0 n hlt rfl)) ?_ | refine hq_g _ _ rfl rfl (by decide) (q_b2s [dig n] rfl (ld_byte 0 n hlt rfl)) ?_
    repeat' (first | refine hl_a ?_ | refine hq_a ?_ | refine hl_nil ?_ | refine hq_nil ?_ | refine hq_ga ?_ | refine hq_sk ?_ | refine hq_su ?_ | refine hq_gT ?_ | refine hq_gF ?_ | refine hq_gd (fun h => ?_) (fun h => ?_) | refine hl_ga ?_ | refine hl_sk ?_ | refine hl_su ?_ | refine hl_gT ?_ | refine hl_gF ?_ | refine hl_gd (fun h => ?_) (fun h => ?_) | refine hx_next ?_ | refine hw_seq ?_ | refine hw_region ?_ | refine hw_dr ?_ | refine hw_block ?_ | refine hx_block ?_ | refine hw_tt ?_ | refine hw_ff ?_ | refine hw_iT ?_ | refine hw_iF ?_ | refine hw_skip ?_ | refine hw_ret ?_ | refine hw_exit ?_ | refine hx_then_ret ?_ | refine hx_block_ret ?_ | refine hx_then_exit ?_ | refine hx_block_here ?_ | refine hx_far ?_ | refine hx_any ?_ | (apply ha_end; decide +kernel))
    refine hx_ret1 rfl rfl (fun w hm => ⟨?_, hm.none⟩)
    rfl
end Go.Proofs.Ytgeidbjcphjbiaa
