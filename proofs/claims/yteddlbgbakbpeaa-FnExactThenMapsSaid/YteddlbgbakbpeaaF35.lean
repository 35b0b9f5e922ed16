/- Contracts: ThenMaps. -/
import Derived.Test.YteddlbgbakbpeaaF34
namespace Go.Proofs.Yteddlbgbakbpeaa
open Go.Eng Go.RowKit
set_option linter.unusedVariables false

theorem tab_add {α : Type} (m n : Nat) (f : Nat → α) : tab (m + n) f = tab m f ++ tab n (fun i => f (m + i)) := by
  induction n with
  | zero => simp [tab]
  | succ n ih => rw [← Nat.add_assoc, tab_succ, ih, tab_succ, List.append_assoc]
theorem dv {q k : Nat} (i : Nat) (h : k < q) : (i * q + k) / q = i ∧ (i * q + k) % q = k := by
  constructor
  · rw [Nat.mul_comm, Nat.mul_add_div (by omega), Nat.div_eq_of_lt h, Nat.add_zero]
  · rw [Nat.mul_comm, Nat.mul_add_mod, Nat.mod_eq_of_lt h]
theorem prod_sum (a b : Nat → Int) (q : Nat) : ∀ p, (tab (p * q) fun j => a (j / q) * b (j % q)).sum = (tab p a).sum * (tab q b).sum
  | 0 => by simp [tab]
  | p + 1 => by
    rw [Nat.succ_mul, tab_add, List.sum_append, prod_sum a b q p, tab_succ, List.sum_append, Int.add_mul]
    congr 1
    rw [tab_congr q _ (fun i => a p * b i) (fun i hi => by rw [(dv p hi).1, (dv p hi).2]), tsum_mul']
    simp
def thK (ks ls : List Int) (q J : Nat) : List Int := tab J fun j => ks.getD (j / q) 0 * ls.getD (j % q) 0
def thR (n : Nat) (xss yss : List (List Int)) (i k : Nat) : List Int := tab n fun s => mAt yss k (mAt xss i s).toNat
def thX (n : Nat) (xss yss : List (List Int)) (q J : Nat) : List (List Int) := tab J fun j => thR n xss yss (j / q) (j % q)
theorem thK_succ (ks ls : List Int) {q k : Nat} (i : Nat) (h : k < q) : thK ks ls q (i * q + (k + 1)) = thK ks ls q (i * q + k) ++ [ks.getD i 0 * ls.getD k 0] := by
  unfold thK
  rw [← Nat.add_assoc, tab_succ, (dv i h).1, (dv i h).2]
theorem thX_succ (n : Nat) (xss yss : List (List Int)) {q k : Nat} (i : Nat) (h : k < q) : thX n xss yss q (i * q + (k + 1)) = thX n xss yss q (i * q + k) ++ [thR n xss yss i k] := by
  unfold thX
  rw [← Nat.add_assoc, tab_succ, (dv i h).1, (dv i h).2]
theorem thK_length (ks ls : List Int) (q J : Nat) : (thK ks ls q J).length = J := tab_length _ _
theorem thX_length (n : Nat) (xss yss : List (List Int)) (q J : Nat) : (thX n xss yss q J).length = J := tab_length _ _
theorem thX_getD (n : Nat) (xss yss : List (List Int)) (q J j : Nat) (h : j < J) : (thX n xss yss q J).getD j [] = thR n xss yss (j / q) (j % q) := tab_getD _ _ _ _ h

section
variable {n : Nat} {tot tot' : Int} {ks ls : List Int} {xss yss : List (List Int)}
theorem then_validM (hv : ValidM n tot ks xss) (hv' : ValidM n tot' ls yss) (hk : ks.length = xss.length) (hk' : ls.length = yss.length) :
    ValidM n (tot * tot') (thK ks ls yss.length (xss.length * yss.length)) (thX n xss yss yss.length (xss.length * yss.length)) ↔ tot * tot' ≤ 60 ∧ xss.length * yss.length ≤ 60 := by
  have h1 := hv.len
  have h2 := hv'.len
  have t1 := hv.t1
  have t2 := hv'.t1
  have hq : 0 < yss.length := by omega
  have m1 := mul_bd (A := 60) (B := 60) (a := tot) (b := tot') (by omega) (by omega)
  have m0 : 1 ≤ tot * tot' := Int.mul_pos (by omega) (by omega)
  have l0 : 1 ≤ xss.length * yss.length := Nat.mul_pos (by omega) (by omega)
  have dm : ∀ j, j < xss.length * yss.length → j / yss.length < xss.length ∧ j % yss.length < yss.length := fun j hj => ⟨(Nat.div_lt_iff_lt_mul hq).2 hj, Nat.mod_lt _ hq⟩
  constructor
  · intro h
    have a := h.t1
    have b := h.len
    rw [thX_length] at b
    exact ⟨a.2, by omega⟩
  · rintro ⟨a, b⟩
    refine ⟨hv.s1, ⟨m0, a⟩, by rw [thX_length]; omega, fun r hr => ?_, fun r hr => ?_, ?_⟩
    · rw [thX_length] at hr
      obtain ⟨d1, d2⟩ := dm r hr
      rw [thK, tab_getD _ _ _ _ hr]
      have k1 := hv.key _ d1
      have k2 := hv'.key _ d2
      have p1 := Int.mul_pos (show 0 < ks.getD (r / yss.length) 0 by omega) (show 0 < ls.getD (r % yss.length) 0 by omega)
      have p2 := Int.mul_le_mul k1.2 k2.2 (by omega) (by omega)
      omega
    · rw [thX_length] at hr
      obtain ⟨d1, d2⟩ := dm r hr
      rw [thX_getD _ _ _ _ _ _ hr]
      refine ⟨by rw [thR, tab_length], fun t ht => ?_⟩
      rw [thR, tab_length] at ht
      rw [thR, tab_getD _ _ _ _ ht]
      have a1 := hv.at (r / yss.length) t d1 (by omega)
      exact hv'.at _ _ d2 (by omega)
    · rw [thK, prod_sum (fun i => ks.getD i 0) (fun i => ls.getD i 0) yss.length xss.length]
      have e1 : (tab xss.length fun t => ks.getD t 0) = ks := by rw [← hk]; exact row_tab ks
      have e2 : (tab yss.length fun t => ls.getD t 0) = ls := by rw [← hk']; exact row_tab ls
      rw [e1, e2, hv.sum, hv'.sum]
end
noncomputable def thM (st tot : Int) (ks : List Int) (xss : List (List Int)) (st' tot' : Int) (ls : List Int) (yss : List (List Int)) : MpM :=
  if ValidM st tot ks xss ∧ ValidM st' tot' ls yss then
    if st = st' then
      if tot * tot' ≤ 60 ∧ xss.length * yss.length ≤ 60 then ⟨st, tot * tot', thK ks ls yss.length (xss.length * yss.length), thX st.toNat xss yss yss.length (xss.length * yss.length), 0⟩ else pErr 3
    else pErr 2
  else pErr 1
theorem thM_small (st tot : Int) (ks : List Int) (xss : List (List Int)) (st' tot' : Int) (ls : List Int) (yss : List (List Int)) : Small (thM st tot ks xss st' tot' ls yss).xss := by
  unfold thM
  split
  · rename_i h
    have h1 := h.1.s1
    split
    · split
      · rename_i h2
        refine ⟨by simp only [thX_length]; omega, fun i hi => ?_⟩
        simp only [thX_length] at hi
        simp only [thX_getD _ _ _ _ _ _ hi, thR, tab_length]; omega
      · exact pErr_small 3
    · exact pErr_small 2
  · exact pErr_small 1
theorem thM_len (st tot : Int) (ks : List Int) (xss : List (List Int)) (st' tot' : Int) (ls : List Int) (yss : List (List Int)) : (thM st tot ks xss st' tot' ls yss).ks.length = (thM st tot ks xss st' tot' ls yss).xss.length := by
  unfold thM
  split
  · split
    · split
      · simp only [thX_length, thK_length]
      · rfl
    · rfl
  · rfl
set_option maxHeartbeats 4000000 in
theorem implThenMaps_c (st tot : Int) (v : Value) (ks : List Int) (xss : List (List Int)) (row : Nat → Value) (st' tot' : Int) (v' : Value) (ls : List Int) (yss : List (List Int)) (row' : Nat → Value) (w : World) (hr : RdM w v ks xss row) (hr' : RdM w v' ls yss row') :
    Gives Try.prog 26 [chV st tot v, chV st' tot' v'] w (MpOut 92 2 (thM st tot ks xss st' tot' ls yss)) := by
  refine calls_hw Try.func26 Try.ntmps26 rfl rfl ?_
  have hsl := hr.sl
  have hsl' := hr'.sl
  have hkl := hr.len
  have hkl' := hr'.len
  repeat' (first | refine hl_a ?_ | refine hq_a ?_ | refine hl_nil ?_ | refine hq_nil ?_ | refine hq_ga ?_ | refine hq_sk ?_ | refine hq_su ?_ | refine hq_gT ?_ | refine hq_gF ?_ | refine hq_gd (fun h => ?_) (fun h => ?_) | refine hl_ga ?_ | refine hl_sk ?_ | refine hl_su ?_ | refine hl_gT ?_ | refine hl_gF ?_ | refine hl_gd (fun h => ?_) (fun h => ?_) | refine hx_next ?_ | refine hw_seq ?_ | refine hw_region ?_ | refine hw_dr ?_ | refine hw_block ?_ | refine hx_block ?_ | refine hw_tt ?_ | refine hw_ff ?_ | refine hw_iT ?_ | refine hw_iF ?_ | refine hw_skip ?_ | refine hw_ret ?_ | refine hw_exit ?_ | refine hx_then_ret ?_ | refine hx_block_ret ?_ | refine hx_then_exit ?_ | refine hx_block_here ?_ | refine hx_far ?_ | refine hx_any ?_ | (apply ha_end; decide +kernel))
  refine hl_box (by decide) rfl (fun b => ?_)
  refine hl_box (by decide) rfl (fun b' => ?_)
  refine hl_alloc (by decide) (fun b0 => ?_)
  repeat' (first | refine hl_a ?_ | refine hq_a ?_ | refine hl_nil ?_ | refine hq_nil ?_ | refine hq_ga ?_ | refine hq_sk ?_ | refine hq_su ?_ | refine hq_gT ?_ | refine hq_gF ?_ | refine hq_gd (fun h => ?_) (fun h => ?_) | refine hl_ga ?_ | refine hl_sk ?_ | refine hl_su ?_ | refine hl_gT ?_ | refine hl_gF ?_ | refine hl_gd (fun h => ?_) (fun h => ?_) | refine hx_next ?_ | refine hw_seq ?_ | refine hw_region ?_ | refine hw_dr ?_ | refine hw_block ?_ | refine hx_block ?_ | refine hw_tt ?_ | refine hw_ff ?_ | refine hw_iT ?_ | refine hw_iF ?_ | refine hw_skip ?_ | refine hw_ret ?_ | refine hw_exit ?_ | refine hx_then_ret ?_ | refine hx_block_ret ?_ | refine hx_then_exit ?_ | refine hx_block_here ?_ | refine hx_far ?_ | refine hx_any ?_ | (apply ha_end; decide +kernel))
  first | refine hl_q (by decide) (q_call (fun w hm => implValidMaps_c st tot v ks xss row w (hr.up hm.below)) rfl) ?_ | refine hq_q (by decide) (q_call (fun w hm => implValidMaps_c st tot v ks xss row w (hr.up hm.below)) rfl) ?_ | refine hl_g _ _ rfl rfl (by decide) (q_call (fun w hm => implValidMaps_c st tot v ks xss row w (hr.up hm.below)) rfl) ?_ | refine hq_g _ _ rfl rfl (by decide) (q_call (fun w hm => implValidMaps_c st tot v ks xss row w (hr.up hm.below)) rfl) ?_
  rcases (Classical.em (ValidM st tot ks xss)).symm with hv | hv
  · repeat' (first | refine hl_a ?_ | refine hq_a ?_ | refine hl_nil ?_ | refine hq_nil ?_ | refine hq_ga ?_ | refine hq_sk ?_ | refine hq_su ?_ | refine hq_gT ?_ | refine hq_gF ?_ | refine hq_gd (fun h => ?_) (fun h => ?_) | refine hl_ga ?_ | refine hl_sk ?_ | refine hl_su ?_ | refine hl_gT ?_ | refine hl_gF ?_ | refine hl_gd (fun h => ?_) (fun h => ?_) | refine hx_next ?_ | refine hw_seq ?_ | refine hw_region ?_ | refine hw_dr ?_ | refine hw_block ?_ | refine hx_block ?_ | refine hw_tt ?_ | refine hw_ff ?_ | refine hw_iT ?_ | refine hw_iF ?_ | refine hw_skip ?_ | refine hw_ret ?_ | refine hw_exit ?_ | refine hx_then_ret ?_ | refine hx_block_ret ?_ | refine hx_then_exit ?_ | refine hx_block_here ?_ | refine hx_far ?_ | refine hx_any ?_ | (apply ha_end; decide +kernel) | (apply hl_q; decide; (first | exact q_bld [] #[.int .i64 0, .int .i64 0, .slice none 0 0] rfl (by kernel_rfl))) | (apply hq_q; decide; (first | exact q_bld [] #[.int .i64 0, .int .i64 0, .slice none 0 0] rfl (by kernel_rfl))) | (apply hq_g; rfl; rfl; decide; (first | exact q_bld [] #[.int .i64 0, .int .i64 0, .slice none 0 0] rfl (by kernel_rfl))) | (apply hl_g; rfl; rfl; decide; (first | exact q_bld [] #[.int .i64 0, .int .i64 0, .slice none 0 0] rfl (by kernel_rfl))))
    refine hl_storeA 2 rfl rfl rfl rfl rfl (chV_one nil_ok) ?_
    repeat' (first | refine hl_a ?_ | refine hq_a ?_ | refine hl_nil ?_ | refine hq_nil ?_ | refine hq_ga ?_ | refine hq_sk ?_ | refine hq_su ?_ | refine hq_gT ?_ | refine hq_gF ?_ | refine hq_gd (fun h => ?_) (fun h => ?_) | refine hl_ga ?_ | refine hl_sk ?_ | refine hl_su ?_ | refine hl_gT ?_ | refine hl_gF ?_ | refine hl_gd (fun h => ?_) (fun h => ?_) | refine hx_next ?_ | refine hw_seq ?_ | refine hw_region ?_ | refine hw_dr ?_ | refine hw_block ?_ | refine hx_block ?_ | refine hw_tt ?_ | refine hw_ff ?_ | refine hw_iT ?_ | refine hw_iF ?_ | refine hw_skip ?_ | refine hw_ret ?_ | refine hw_exit ?_ | refine hx_then_ret ?_ | refine hx_block_ret ?_ | refine hx_then_exit ?_ | refine hx_block_here ?_ | refine hx_far ?_ | refine hx_any ?_ | (apply ha_end; decide +kernel))
    exact hx_retBt 2 rfl rfl rfl rfl rfl (fun w hm => ⟨_, _, rfl, maps_nil 92 2 hm.none, by rw [thM, if_neg (fun e => hv e.1)]; exact mpErr _ _ _ rfl⟩)
  have hv2 : ¬ ¬ ValidM st tot ks xss := fun e => e hv
  repeat' (first | refine hl_a ?_ | refine hq_a ?_ | refine hl_nil ?_ | refine hq_nil ?_ | refine hq_ga ?_ | refine hq_sk ?_ | refine hq_su ?_ | refine hq_gT ?_ | refine hq_gF ?_ | refine hq_gd (fun h => ?_) (fun h => ?_) | refine hl_ga ?_ | refine hl_sk ?_ | refine hl_su ?_ | refine hl_gT ?_ | refine hl_gF ?_ | refine hl_gd (fun h => ?_) (fun h => ?_) | refine hx_next ?_ | refine hw_seq ?_ | refine hw_region ?_ | refine hw_dr ?_ | refine hw_block ?_ | refine hx_block ?_ | refine hw_tt ?_ | refine hw_ff ?_ | refine hw_iT ?_ | refine hw_iF ?_ | refine hw_skip ?_ | refine hw_ret ?_ | refine hw_exit ?_ | refine hx_then_ret ?_ | refine hx_block_ret ?_ | refine hx_then_exit ?_ | refine hx_block_here ?_ | refine hx_far ?_ | refine hx_any ?_ | (apply ha_end; decide +kernel))
  first | refine hl_q (by decide) (q_call (fun w hm => implValidMaps_c st' tot' v' ls yss row' w (hr'.up hm.below)) rfl) ?_ | refine hq_q (by decide) (q_call (fun w hm => implValidMaps_c st' tot' v' ls yss row' w (hr'.up hm.below)) rfl) ?_ | refine hl_g _ _ rfl rfl (by decide) (q_call (fun w hm => implValidMaps_c st' tot' v' ls yss row' w (hr'.up hm.below)) rfl) ?_ | refine hq_g _ _ rfl rfl (by decide) (q_call (fun w hm => implValidMaps_c st' tot' v' ls yss row' w (hr'.up hm.below)) rfl) ?_
  repeat' (first | refine hl_a ?_ | refine hq_a ?_ | refine hl_nil ?_ | refine hq_nil ?_ | refine hq_ga ?_ | refine hq_sk ?_ | refine hq_su ?_ | refine hq_gT ?_ | refine hq_gF ?_ | refine hq_gd (fun h => ?_) (fun h => ?_) | refine hl_ga ?_ | refine hl_sk ?_ | refine hl_su ?_ | refine hl_gT ?_ | refine hl_gF ?_ | refine hl_gd (fun h => ?_) (fun h => ?_) | refine hx_next ?_ | refine hw_seq ?_ | refine hw_region ?_ | refine hw_dr ?_ | refine hw_block ?_ | refine hx_block ?_ | refine hw_tt ?_ | refine hw_ff ?_ | refine hw_iT ?_ | refine hw_iF ?_ | refine hw_skip ?_ | refine hw_ret ?_ | refine hw_exit ?_ | refine hx_then_ret ?_ | refine hx_block_ret ?_ | refine hx_then_exit ?_ | refine hx_block_here ?_ | refine hx_far ?_ | refine hx_any ?_ | (apply ha_end; decide +kernel))
  refine hw_if rfl (fun h => ?_) (fun h => ?_)
  · repeat' (first | refine hl_a ?_ | refine hq_a ?_ | refine hl_nil ?_ | refine hq_nil ?_ | refine hq_ga ?_ | refine hq_sk ?_ | refine hq_su ?_ | refine hq_gT ?_ | refine hq_gF ?_ | refine hq_gd (fun h => ?_) (fun h => ?_) | refine hl_ga ?_ | refine hl_sk ?_ | refine hl_su ?_ | refine hl_gT ?_ | refine hl_gF ?_ | refine hl_gd (fun h => ?_) (fun h => ?_) | refine hx_next ?_ | refine hw_seq ?_ | refine hw_region ?_ | refine hw_dr ?_ | refine hw_block ?_ | refine hx_block ?_ | refine hw_tt ?_ | refine hw_ff ?_ | refine hw_iT ?_ | refine hw_iF ?_ | refine hw_skip ?_ | refine hw_ret ?_ | refine hw_exit ?_ | refine hx_then_ret ?_ | refine hx_block_ret ?_ | refine hx_then_exit ?_ | refine hx_block_here ?_ | refine hx_far ?_ | refine hx_any ?_ | (apply ha_end; decide +kernel) | (apply hl_q; decide; (first | exact q_bld [] #[.int .i64 0, .int .i64 0, .slice none 0 0] rfl (by kernel_rfl))) | (apply hq_q; decide; (first | exact q_bld [] #[.int .i64 0, .int .i64 0, .slice none 0 0] rfl (by kernel_rfl))) | (apply hq_g; rfl; rfl; decide; (first | exact q_bld [] #[.int .i64 0, .int .i64 0, .slice none 0 0] rfl (by kernel_rfl))) | (apply hl_g; rfl; rfl; decide; (first | exact q_bld [] #[.int .i64 0, .int .i64 0, .slice none 0 0] rfl (by kernel_rfl))))
    refine hl_storeA 2 rfl rfl rfl rfl rfl (chV_one nil_ok) ?_
    repeat' (first | refine hl_a ?_ | refine hq_a ?_ | refine hl_nil ?_ | refine hq_nil ?_ | refine hq_ga ?_ | refine hq_sk ?_ | refine hq_su ?_ | refine hq_gT ?_ | refine hq_gF ?_ | refine hq_gd (fun h => ?_) (fun h => ?_) | refine hl_ga ?_ | refine hl_sk ?_ | refine hl_su ?_ | refine hl_gT ?_ | refine hl_gF ?_ | refine hl_gd (fun h => ?_) (fun h => ?_) | refine hx_next ?_ | refine hw_seq ?_ | refine hw_region ?_ | refine hw_dr ?_ | refine hw_block ?_ | refine hx_block ?_ | refine hw_tt ?_ | refine hw_ff ?_ | refine hw_iT ?_ | refine hw_iF ?_ | refine hw_skip ?_ | refine hw_ret ?_ | refine hw_exit ?_ | refine hx_then_ret ?_ | refine hx_block_ret ?_ | refine hx_then_exit ?_ | refine hx_block_here ?_ | refine hx_far ?_ | refine hx_any ?_ | (apply ha_end; decide +kernel))
    exact hx_retBt 2 rfl rfl rfl rfl rfl (fun w hm => ⟨_, _, rfl, maps_nil 92 2 hm.none, by rw [thM, if_neg (fun e => h e.2)]; exact mpErr _ _ _ rfl⟩)
  have hv' := Classical.not_not.1 h
  repeat' (first | refine hl_a ?_ | refine hq_a ?_ | refine hl_nil ?_ | refine hq_nil ?_ | refine hq_ga ?_ | refine hq_sk ?_ | refine hq_su ?_ | refine hq_gT ?_ | refine hq_gF ?_ | refine hq_gd (fun h => ?_) (fun h => ?_) | refine hl_ga ?_ | refine hl_sk ?_ | refine hl_su ?_ | refine hl_gT ?_ | refine hl_gF ?_ | refine hl_gd (fun h => ?_) (fun h => ?_) | refine hx_next ?_ | refine hw_seq ?_ | refine hw_region ?_ | refine hw_dr ?_ | refine hw_block ?_ | refine hx_block ?_ | refine hw_tt ?_ | refine hw_ff ?_ | refine hw_iT ?_ | refine hw_iF ?_ | refine hw_skip ?_ | refine hw_ret ?_ | refine hw_exit ?_ | refine hx_then_ret ?_ | refine hx_block_ret ?_ | refine hx_then_exit ?_ | refine hx_block_here ?_ | refine hx_far ?_ | refine hx_any ?_ | (apply ha_end; decide +kernel))
  refine hw_if rfl (fun h2 => ?_) (fun h2 => ?_)
  · repeat' (first | refine hl_a ?_ | refine hq_a ?_ | refine hl_nil ?_ | refine hq_nil ?_ | refine hq_ga ?_ | refine hq_sk ?_ | refine hq_su ?_ | refine hq_gT ?_ | refine hq_gF ?_ | refine hq_gd (fun h => ?_) (fun h => ?_) | refine hl_ga ?_ | refine hl_sk ?_ | refine hl_su ?_ | refine hl_gT ?_ | refine hl_gF ?_ | refine hl_gd (fun h => ?_) (fun h => ?_) | refine hx_next ?_ | refine hw_seq ?_ | refine hw_region ?_ | refine hw_dr ?_ | refine hw_block ?_ | refine hx_block ?_ | refine hw_tt ?_ | refine hw_ff ?_ | refine hw_iT ?_ | refine hw_iF ?_ | refine hw_skip ?_ | refine hw_ret ?_ | refine hw_exit ?_ | refine hx_then_ret ?_ | refine hx_block_ret ?_ | refine hx_then_exit ?_ | refine hx_block_here ?_ | refine hx_far ?_ | refine hx_any ?_ | (apply ha_end; decide +kernel) | (apply hl_q; decide; (first | exact q_bld [] #[.int .i64 0, .int .i64 0, .slice none 0 0] rfl (by kernel_rfl))) | (apply hq_q; decide; (first | exact q_bld [] #[.int .i64 0, .int .i64 0, .slice none 0 0] rfl (by kernel_rfl))) | (apply hq_g; rfl; rfl; decide; (first | exact q_bld [] #[.int .i64 0, .int .i64 0, .slice none 0 0] rfl (by kernel_rfl))) | (apply hl_g; rfl; rfl; decide; (first | exact q_bld [] #[.int .i64 0, .int .i64 0, .slice none 0 0] rfl (by kernel_rfl))))
    refine hl_storeA 2 rfl rfl rfl rfl rfl (chV_one nil_ok) ?_
    repeat' (first | refine hl_a ?_ | refine hq_a ?_ | refine hl_nil ?_ | refine hq_nil ?_ | refine hq_ga ?_ | refine hq_sk ?_ | refine hq_su ?_ | refine hq_gT ?_ | refine hq_gF ?_ | refine hq_gd (fun h => ?_) (fun h => ?_) | refine hl_ga ?_ | refine hl_sk ?_ | refine hl_su ?_ | refine hl_gT ?_ | refine hl_gF ?_ | refine hl_gd (fun h => ?_) (fun h => ?_) | refine hx_next ?_ | refine hw_seq ?_ | refine hw_region ?_ | refine hw_dr ?_ | refine hw_block ?_ | refine hx_block ?_ | refine hw_tt ?_ | refine hw_ff ?_ | refine hw_iT ?_ | refine hw_iF ?_ | refine hw_skip ?_ | refine hw_ret ?_ | refine hw_exit ?_ | refine hx_then_ret ?_ | refine hx_block_ret ?_ | refine hx_then_exit ?_ | refine hx_block_here ?_ | refine hx_far ?_ | refine hx_any ?_ | (apply ha_end; decide +kernel))
    exact hx_retBt 2 rfl rfl rfl rfl rfl (fun w hm => ⟨_, _, rfl, maps_nil 92 2 hm.none, by rw [thM, if_pos ⟨hv, hv'⟩, if_neg h2]; exact mpErr _ _ _ rfl⟩)
  obtain rfl := Classical.not_not.1 h2
  obtain ⟨n, rfl, hn1, hn6⟩ := hv.nat
  have t1 := hv.t1
  have t2 := hv'.t1
  have l1 := hv.len
  have l2 := hv'.len
  have m1 := mul_bd (A := 60) (B := 60) (a := tot) (b := tot') (by omega) (by omega)
  have m2 := mul_bd (A := 60) (B := 60) (a := (xss.length : Int)) (b := (yss.length : Int)) (by omega) (by omega)
  have hle3 : ¬ (tot * tot' ≤ 60 ∧ xss.length * yss.length ≤ 60) → thM (n : Int) tot ks xss n tot' ls yss = pErr 3 := fun e => by rw [thM, if_pos ⟨hv, hv'⟩, if_pos rfl, if_neg e]
  rcases Classical.em (60 < tot * tot') with h3 | h3
  · repeat' (first | refine hl_a ?_ | refine hq_a ?_ | refine hl_nil ?_ | refine hq_nil ?_ | refine hq_ga ?_ | refine hq_sk ?_ | refine hq_su ?_ | refine hq_gT ?_ | refine hq_gF ?_ | refine hq_gd (fun h => ?_) (fun h => ?_) | refine hl_ga ?_ | refine hl_sk ?_ | refine hl_su ?_ | refine hl_gT ?_ | refine hl_gF ?_ | refine hl_gd (fun h => ?_) (fun h => ?_) | refine hx_next ?_ | refine hw_seq ?_ | refine hw_region ?_ | refine hw_dr ?_ | refine hw_block ?_ | refine hx_block ?_ | refine hw_tt ?_ | refine hw_ff ?_ | refine hw_iT ?_ | refine hw_iF ?_ | refine hw_skip ?_ | refine hw_ret ?_ | refine hw_exit ?_ | refine hx_then_ret ?_ | refine hx_block_ret ?_ | refine hx_then_exit ?_ | refine hx_block_here ?_ | refine hx_far ?_ | refine hx_any ?_ | (apply ha_end; decide +kernel) | (apply hl_q; decide; (exact q_mul rfl rfl (by omega))) | (apply hq_q; decide; (exact q_mul rfl rfl (by omega))) | (apply hq_g; rfl; rfl; decide; (exact q_mul rfl rfl (by omega))) | (apply hl_g; rfl; rfl; decide; (exact q_mul rfl rfl (by omega))))
    repeat' (first | refine hl_a ?_ | refine hq_a ?_ | refine hl_nil ?_ | refine hq_nil ?_ | refine hq_ga ?_ | refine hq_sk ?_ | refine hq_su ?_ | refine hq_gT ?_ | refine hq_gF ?_ | refine hq_gd (fun h => ?_) (fun h => ?_) | refine hl_ga ?_ | refine hl_sk ?_ | refine hl_su ?_ | refine hl_gT ?_ | refine hl_gF ?_ | refine hl_gd (fun h => ?_) (fun h => ?_) | refine hx_next ?_ | refine hw_seq ?_ | refine hw_region ?_ | refine hw_dr ?_ | refine hw_block ?_ | refine hx_block ?_ | refine hw_tt ?_ | refine hw_ff ?_ | refine hw_iT ?_ | refine hw_iF ?_ | refine hw_skip ?_ | refine hw_ret ?_ | refine hw_exit ?_ | refine hx_then_ret ?_ | refine hx_block_ret ?_ | refine hx_then_exit ?_ | refine hx_block_here ?_ | refine hx_far ?_ | refine hx_any ?_ | (apply ha_end; decide +kernel) | (apply hl_q; decide; (first | exact q_bld [] #[.int .i64 0, .int .i64 0, .slice none 0 0] rfl (by kernel_rfl))) | (apply hq_q; decide; (first | exact q_bld [] #[.int .i64 0, .int .i64 0, .slice none 0 0] rfl (by kernel_rfl))) | (apply hq_g; rfl; rfl; decide; (first | exact q_bld [] #[.int .i64 0, .int .i64 0, .slice none 0 0] rfl (by kernel_rfl))) | (apply hl_g; rfl; rfl; decide; (first | exact q_bld [] #[.int .i64 0, .int .i64 0, .slice none 0 0] rfl (by kernel_rfl))))
    refine hl_storeA 2 rfl rfl rfl rfl rfl (chV_one nil_ok) ?_
    repeat' (first | refine hl_a ?_ | refine hq_a ?_ | refine hl_nil ?_ | refine hq_nil ?_ | refine hq_ga ?_ | refine hq_sk ?_ | refine hq_su ?_ | refine hq_gT ?_ | refine hq_gF ?_ | refine hq_gd (fun h => ?_) (fun h => ?_) | refine hl_ga ?_ | refine hl_sk ?_ | refine hl_su ?_ | refine hl_gT ?_ | refine hl_gF ?_ | refine hl_gd (fun h => ?_) (fun h => ?_) | refine hx_next ?_ | refine hw_seq ?_ | refine hw_region ?_ | refine hw_dr ?_ | refine hw_block ?_ | refine hx_block ?_ | refine hw_tt ?_ | refine hw_ff ?_ | refine hw_iT ?_ | refine hw_iF ?_ | refine hw_skip ?_ | refine hw_ret ?_ | refine hw_exit ?_ | refine hx_then_ret ?_ | refine hx_block_ret ?_ | refine hx_then_exit ?_ | refine hx_block_here ?_ | refine hx_far ?_ | refine hx_any ?_ | (apply ha_end; decide +kernel))
    exact hx_retBt 2 rfl rfl rfl rfl rfl (fun w hm => ⟨_, _, rfl, maps_nil 92 2 hm.none, by rw [hle3 (by omega)]; exact mpErr _ _ _ rfl⟩)
  repeat' (first | refine hl_a ?_ | refine hq_a ?_ | refine hl_nil ?_ | refine hq_nil ?_ | refine hq_ga ?_ | refine hq_sk ?_ | refine hq_su ?_ | refine hq_gT ?_ | refine hq_gF ?_ | refine hq_gd (fun h => ?_) (fun h => ?_) | refine hl_ga ?_ | refine hl_sk ?_ | refine hl_su ?_ | refine hl_gT ?_ | refine hl_gF ?_ | refine hl_gd (fun h => ?_) (fun h => ?_) | refine hx_next ?_ | refine hw_seq ?_ | refine hw_region ?_ | refine hw_dr ?_ | refine hw_block ?_ | refine hx_block ?_ | refine hw_tt ?_ | refine hw_ff ?_ | refine hw_iT ?_ | refine hw_iF ?_ | refine hw_skip ?_ | refine hw_ret ?_ | refine hw_exit ?_ | refine hx_then_ret ?_ | refine hx_block_ret ?_ | refine hx_then_exit ?_ | refine hx_block_here ?_ | refine hx_far ?_ | refine hx_any ?_ | (apply ha_end; decide +kernel) | (apply hl_q; decide; (exact q_mul rfl rfl (by omega))) | (apply hq_q; decide; (exact q_mul rfl rfl (by omega))) | (apply hq_g; rfl; rfl; decide; (exact q_mul rfl rfl (by omega))) | (apply hl_g; rfl; rfl; decide; (exact q_mul rfl rfl (by omega))))
  refine hw_if rfl (fun h4 => ?_) (fun h4 => ?_)
  · repeat' (first | refine hl_a ?_ | refine hq_a ?_ | refine hl_nil ?_ | refine hq_nil ?_ | refine hq_ga ?_ | refine hq_sk ?_ | refine hq_su ?_ | refine hq_gT ?_ | refine hq_gF ?_ | refine hq_gd (fun h => ?_) (fun h => ?_) | refine hl_ga ?_ | refine hl_sk ?_ | refine hl_su ?_ | refine hl_gT ?_ | refine hl_gF ?_ | refine hl_gd (fun h => ?_) (fun h => ?_) | refine hx_next ?_ | refine hw_seq ?_ | refine hw_region ?_ | refine hw_dr ?_ | refine hw_block ?_ | refine hx_block ?_ | refine hw_tt ?_ | refine hw_ff ?_ | refine hw_iT ?_ | refine hw_iF ?_ | refine hw_skip ?_ | refine hw_ret ?_ | refine hw_exit ?_ | refine hx_then_ret ?_ | refine hx_block_ret ?_ | refine hx_then_exit ?_ | refine hx_block_here ?_ | refine hx_far ?_ | refine hx_any ?_ | (apply ha_end; decide +kernel) | (apply hl_q; decide; (first | exact q_bld [] #[.int .i64 0, .int .i64 0, .slice none 0 0] rfl (by kernel_rfl))) | (apply hq_q; decide; (first | exact q_bld [] #[.int .i64 0, .int .i64 0, .slice none 0 0] rfl (by kernel_rfl))) | (apply hq_g; rfl; rfl; decide; (first | exact q_bld [] #[.int .i64 0, .int .i64 0, .slice none 0 0] rfl (by kernel_rfl))) | (apply hl_g; rfl; rfl; decide; (first | exact q_bld [] #[.int .i64 0, .int .i64 0, .slice none 0 0] rfl (by kernel_rfl))))
    refine hl_storeA 2 rfl rfl rfl rfl rfl (chV_one nil_ok) ?_
    repeat' (first | refine hl_a ?_ | refine hq_a ?_ | refine hl_nil ?_ | refine hq_nil ?_ | refine hq_ga ?_ | refine hq_sk ?_ | refine hq_su ?_ | refine hq_gT ?_ | refine hq_gF ?_ | refine hq_gd (fun h => ?_) (fun h => ?_) | refine hl_ga ?_ | refine hl_sk ?_ | refine hl_su ?_ | refine hl_gT ?_ | refine hl_gF ?_ | refine hl_gd (fun h => ?_) (fun h => ?_) | refine hx_next ?_ | refine hw_seq ?_ | refine hw_region ?_ | refine hw_dr ?_ | refine hw_block ?_ | refine hx_block ?_ | refine hw_tt ?_ | refine hw_ff ?_ | refine hw_iT ?_ | refine hw_iF ?_ | refine hw_skip ?_ | refine hw_ret ?_ | refine hw_exit ?_ | refine hx_then_ret ?_ | refine hx_block_ret ?_ | refine hx_then_exit ?_ | refine hx_block_here ?_ | refine hx_far ?_ | refine hx_any ?_ | (apply ha_end; decide +kernel))
    refine hx_retBt 2 rfl rfl rfl rfl rfl (fun w hm => ⟨_, _, rfl, maps_nil 92 2 hm.none, ?_⟩)
    rw [hle3 (fun e => by have h9 : ((xss.length * yss.length : Nat) : Int) ≤ 60 := by omega
                          rw [Int.natCast_mul] at h9; omega)]
    exact mpErr _ _ _ rfl
  have hlim : tot * tot' ≤ 60 ∧ xss.length * yss.length ≤ 60 := by
    rw [← Int.natCast_mul] at h4
    omega
  have hM : thM (n : Int) tot ks xss n tot' ls yss = ⟨n, tot * tot', thK ks ls yss.length (xss.length * yss.length), thX n xss yss yss.length (xss.length * yss.length), 0⟩ := by
    rw [thM, if_pos ⟨hv, hv'⟩, if_pos rfl, if_pos hlim, Int.toNat_natCast]
  repeat' (first | refine hl_a ?_ | refine hq_a ?_ | refine hl_nil ?_ | refine hq_nil ?_ | refine hq_ga ?_ | refine hq_sk ?_ | refine hq_su ?_ | refine hq_gT ?_ | refine hq_gF ?_ | refine hq_gd (fun h => ?_) (fun h => ?_) | refine hl_ga ?_ | refine hl_sk ?_ | refine hl_su ?_ | refine hl_gT ?_ | refine hl_gF ?_ | refine hl_gd (fun h => ?_) (fun h => ?_) | refine hx_next ?_ | refine hw_seq ?_ | refine hw_region ?_ | refine hw_dr ?_ | refine hw_block ?_ | refine hx_block ?_ | refine hw_tt ?_ | refine hw_ff ?_ | refine hw_iT ?_ | refine hw_iF ?_ | refine hw_skip ?_ | refine hw_ret ?_ | refine hw_exit ?_ | refine hx_then_ret ?_ | refine hx_block_ret ?_ | refine hx_then_exit ?_ | refine hx_block_here ?_ | refine hx_far ?_ | refine hx_any ?_ | (apply ha_end; decide +kernel) | (apply hl_q; decide; (first | exact q_mul rfl rfl (by omega) | exact q_bld [(0, .int .i64 (n : Int)), (1, .int .i64 (tot * tot'))] #[.int .i64 (n : Int), .int .i64 (tot * tot'), .slice none 0 0] rfl (by kernel_rfl))) | (apply hq_q; decide; (first | exact q_mul rfl rfl (by omega) | exact q_bld [(0, .int .i64 (n : Int)), (1, .int .i64 (tot * tot'))] #[.int .i64 (n : Int), .int .i64 (tot * tot'), .slice none 0 0] rfl (by kernel_rfl))) | (apply hq_g; rfl; rfl; decide; (first | exact q_mul rfl rfl (by omega) | exact q_bld [(0, .int .i64 (n : Int)), (1, .int .i64 (tot * tot'))] #[.int .i64 (n : Int), .int .i64 (tot * tot'), .slice none 0 0] rfl (by kernel_rfl))) | (apply hl_g; rfl; rfl; decide; (first | exact q_mul rfl rfl (by omega) | exact q_bld [(0, .int .i64 (n : Int)), (1, .int .i64 (tot * tot'))] #[.int .i64 (n : Int), .int .i64 (tot * tot'), .slice none 0 0] rfl (by kernel_rfl))))
  refine hl_alloc (by decide) (fun b1 => ?_)
  refine hl_storeA 3 rfl rfl rfl rfl rfl (chV_one nil_ok) ?_
  repeat' (first | refine hl_a ?_ | refine hq_a ?_ | refine hl_nil ?_ | refine hq_nil ?_ | refine hq_ga ?_ | refine hq_sk ?_ | refine hq_su ?_ | refine hq_gT ?_ | refine hq_gF ?_ | refine hq_gd (fun h => ?_) (fun h => ?_) | refine hl_ga ?_ | refine hl_sk ?_ | refine hl_su ?_ | refine hl_gT ?_ | refine hl_gF ?_ | refine hl_gd (fun h => ?_) (fun h => ?_) | refine hx_next ?_ | refine hw_seq ?_ | refine hw_region ?_ | refine hw_dr ?_ | refine hw_block ?_ | refine hx_block ?_ | refine hw_tt ?_ | refine hw_ff ?_ | refine hw_iT ?_ | refine hw_iF ?_ | refine hw_skip ?_ | refine hw_ret ?_ | refine hw_exit ?_ | refine hx_then_ret ?_ | refine hx_block_ret ?_ | refine hx_then_exit ?_ | refine hx_block_here ?_ | refine hx_far ?_ | refine hx_any ?_ | (apply ha_end; decide +kernel))
  refine hw_mem (fun w hm => ((hm.nilOwn 92 2).empty).pick (rs' := [_, _, _, _, _]) [3, 1, 2, 4, 5] (by simp) rfl) ?_
  refine hw_loop (fun e r m => ∃ (i : Nat) (u : Value) (us : List Value), r = [rBlk b1 #[.int .i64 (n : Int), .int .i64 (tot * tot'), u] 33, rBlk b' #[.int .i64 (n : Int), .int .i64 tot', v'] 33, rBlk b0 #[.int .i64 0, .int .i64 0, .slice none 0 0] 33, rOwn 92 2 u (i * yss.length + 0) (cells2 (thK ks ls yss.length (i * yss.length + 0)) us), rStar (rRow 2 (Value.int .i64) us (thX n xss yss yss.length (i * yss.length + 0)))] ∧ us.length = i * yss.length + 0 ∧ i ≤ xss.length ∧ m = xss.length - i ∧ e = [(3, .pointer (some ⟨b', 0, none⟩)), (4, .pointer (some ⟨b0, 0, none⟩)), (6, .pointer (some ⟨b1, 0, none⟩)), (55, v), (56, .int .i64 (xss.length : Int)), (57, .int .i64 (i : Int))])
    ⟨0, .slice none 0 0, [], by rw [show 0 * yss.length + 0 = 0 by simp]; rfl, by simp, Nat.zero_le _, rfl, rfl⟩ ⟨rfl, rfl, rfl, rfl, rfl, rfl, trivial⟩ ?_
  rintro _ _ _ ⟨i, u, us, rfl, hus, hi, rfl, rfl⟩
  repeat' (first | refine hl_a ?_ | refine hq_a ?_ | refine hl_nil ?_ | refine hq_nil ?_ | refine hq_ga ?_ | refine hq_sk ?_ | refine hq_su ?_ | refine hq_gT ?_ | refine hq_gF ?_ | refine hq_gd (fun h => ?_) (fun h => ?_) | refine hl_ga ?_ | refine hl_sk ?_ | refine hl_su ?_ | refine hl_gT ?_ | refine hl_gF ?_ | refine hl_gd (fun h => ?_) (fun h => ?_) | refine hx_next ?_ | refine hw_seq ?_ | refine hw_region ?_ | refine hw_dr ?_ | refine hw_block ?_ | refine hx_block ?_ | refine hw_tt ?_ | refine hw_ff ?_ | refine hw_iT ?_ | refine hw_iF ?_ | refine hw_skip ?_ | refine hw_ret ?_ | refine hw_exit ?_ | refine hx_then_ret ?_ | refine hx_block_ret ?_ | refine hx_then_exit ?_ | refine hx_block_here ?_ | refine hx_far ?_ | refine hx_any ?_ | (apply ha_end; decide +kernel))
  refine hw_if rfl (fun hlt => ?_) (fun hge => ?_)
  · have hi2 : i < xss.length := by omega
    have ci := hr.get i hi2
    have ci0 := hr.key i hi2
    have hri := hr.row i hi2
    have si := hri.sl
    have hrl := hv.rlen i hi2
    have hki := hv.key i hi2
    repeat' (first | refine hl_a ?_ | refine hq_a ?_ | refine hl_nil ?_ | refine hq_nil ?_ | refine hq_ga ?_ | refine hq_sk ?_ | refine hq_su ?_ | refine hq_gT ?_ | refine hq_gF ?_ | refine hq_gd (fun h => ?_) (fun h => ?_) | refine hl_ga ?_ | refine hl_sk ?_ | refine hl_su ?_ | refine hl_gT ?_ | refine hl_gF ?_ | refine hl_gd (fun h => ?_) (fun h => ?_) | refine hx_next ?_ | refine hw_seq ?_ | refine hw_region ?_ | refine hw_dr ?_ | refine hw_block ?_ | refine hx_block ?_ | refine hw_tt ?_ | refine hw_ff ?_ | refine hw_iT ?_ | refine hw_iF ?_ | refine hw_skip ?_ | refine hw_ret ?_ | refine hw_exit ?_ | refine hx_then_ret ?_ | refine hx_block_ret ?_ | refine hx_then_exit ?_ | refine hx_block_here ?_ | refine hx_far ?_ | refine hx_any ?_ | (apply ha_end; decide +kernel))
    refine hl_alloc (by decide) (fun bx => ?_)
    refine hl_mem (fun w hm => hm.pick (rs' := [_, _, _, _, _, _]) [0, 5, 2, 1, 3, 4] (by simp) rfl) ?_
    refine hl_storeA 1 rfl rfl rfl rfl rfl (mp_one si) ?_
    repeat' (first | refine hl_a ?_ | refine hq_a ?_ | refine hl_nil ?_ | refine hq_nil ?_ | refine hq_ga ?_ | refine hq_sk ?_ | refine hq_su ?_ | refine hq_gT ?_ | refine hq_gF ?_ | refine hq_gd (fun h => ?_) (fun h => ?_) | refine hl_ga ?_ | refine hl_sk ?_ | refine hl_su ?_ | refine hl_gT ?_ | refine hl_gF ?_ | refine hl_gd (fun h => ?_) (fun h => ?_) | refine hx_next ?_ | refine hw_seq ?_ | refine hw_region ?_ | refine hw_dr ?_ | refine hw_block ?_ | refine hx_block ?_ | refine hw_tt ?_ | refine hw_ff ?_ | refine hw_iT ?_ | refine hw_iF ?_ | refine hw_skip ?_ | refine hw_ret ?_ | refine hw_exit ?_ | refine hx_then_ret ?_ | refine hx_block_ret ?_ | refine hx_then_exit ?_ | refine hx_block_here ?_ | refine hx_far ?_ | refine hx_any ?_ | (apply ha_end; decide +kernel))
    refine hw_loop (fun e r m => ∃ (k : Nat) (u : Value) (us : List Value), r = [rBlk b1 #[.int .i64 (n : Int), .int .i64 (tot * tot'), u] 33, rBlk bx #[.int .i64 (ks.getD i 0), row i] 92, rBlk b0 #[.int .i64 0, .int .i64 0, .slice none 0 0] 33, rBlk b' #[.int .i64 (n : Int), .int .i64 tot', v'] 33, rOwn 92 2 u (i * yss.length + k) (cells2 (thK ks ls yss.length (i * yss.length + k)) us), rStar (rRow 2 (Value.int .i64) us (thX n xss yss yss.length (i * yss.length + k)))] ∧ us.length = i * yss.length + k ∧ k ≤ yss.length ∧ m = yss.length - k ∧ e = [(3, .pointer (some ⟨b', 0, none⟩)), (4, .pointer (some ⟨b0, 0, none⟩)), (6, .pointer (some ⟨b1, 0, none⟩)), (8, .pointer (some ⟨bx, 0, none⟩)), (55, v), (56, .int .i64 (xss.length : Int)), (57, .int .i64 (i : Int)), (62, v'), (63, .int .i64 (yss.length : Int)), (64, .int .i64 (k : Int))])
      ⟨0, _, us, rfl, hus, Nat.zero_le _, rfl, rfl⟩ ⟨rfl, rfl, rfl, rfl, rfl, rfl, rfl, rfl, rfl, rfl, trivial⟩ ?_
    rintro _ _ _ ⟨k, u, us, rfl, hus, hk, rfl, rfl⟩
    repeat' (first | refine hl_a ?_ | refine hq_a ?_ | refine hl_nil ?_ | refine hq_nil ?_ | refine hq_ga ?_ | refine hq_sk ?_ | refine hq_su ?_ | refine hq_gT ?_ | refine hq_gF ?_ | refine hq_gd (fun h => ?_) (fun h => ?_) | refine hl_ga ?_ | refine hl_sk ?_ | refine hl_su ?_ | refine hl_gT ?_ | refine hl_gF ?_ | refine hl_gd (fun h => ?_) (fun h => ?_) | refine hx_next ?_ | refine hw_seq ?_ | refine hw_region ?_ | refine hw_dr ?_ | refine hw_block ?_ | refine hx_block ?_ | refine hw_tt ?_ | refine hw_ff ?_ | refine hw_iT ?_ | refine hw_iF ?_ | refine hw_skip ?_ | refine hw_ret ?_ | refine hw_exit ?_ | refine hx_then_ret ?_ | refine hx_block_ret ?_ | refine hx_then_exit ?_ | refine hx_block_here ?_ | refine hx_far ?_ | refine hx_any ?_ | (apply ha_end; decide +kernel))
    refine hw_if rfl (fun hlt2 => ?_) (fun hge2 => ?_)
    · have hk2 : k < yss.length := by omega
      have ck := hr'.get k hk2
      have ck0 := hr'.key k hk2
      have hrk := hr'.row k hk2
      have sk := hrk.sl
      have hrl' := hv'.rlen k hk2
      have hkk := hv'.key k hk2
      have hprod : i * yss.length ≤ xss.length * yss.length := Nat.mul_le_mul_right _ hi
      have mm := mul_bd (A := 60) (B := 60) (a := ks.getD i 0) (b := ls.getD k 0) (by omega) (by omega)
      repeat' (first | refine hl_a ?_ | refine hq_a ?_ | refine hl_nil ?_ | refine hq_nil ?_ | refine hq_ga ?_ | refine hq_sk ?_ | refine hq_su ?_ | refine hq_gT ?_ | refine hq_gF ?_ | refine hq_gd (fun h => ?_) (fun h => ?_) | refine hl_ga ?_ | refine hl_sk ?_ | refine hl_su ?_ | refine hl_gT ?_ | refine hl_gF ?_ | refine hl_gd (fun h => ?_) (fun h => ?_) | refine hx_next ?_ | refine hw_seq ?_ | refine hw_region ?_ | refine hw_dr ?_ | refine hw_block ?_ | refine hx_block ?_ | refine hw_tt ?_ | refine hw_ff ?_ | refine hw_iT ?_ | refine hw_iF ?_ | refine hw_skip ?_ | refine hw_ret ?_ | refine hw_exit ?_ | refine hx_then_ret ?_ | refine hx_block_ret ?_ | refine hx_then_exit ?_ | refine hx_block_here ?_ | refine hx_far ?_ | refine hx_any ?_ | (apply ha_end; decide +kernel))
      refine hl_alloc (by decide) (fun by' => ?_)
      repeat' (first | refine hl_a ?_ | refine hq_a ?_ | refine hl_nil ?_ | refine hq_nil ?_ | refine hq_ga ?_ | refine hq_sk ?_ | refine hq_su ?_ | refine hq_gT ?_ | refine hq_gF ?_ | refine hq_gd (fun h => ?_) (fun h => ?_) | refine hl_ga ?_ | refine hl_sk ?_ | refine hl_su ?_ | refine hl_gT ?_ | refine hl_gF ?_ | refine hl_gd (fun h => ?_) (fun h => ?_) | refine hx_next ?_ | refine hw_seq ?_ | refine hw_region ?_ | refine hw_dr ?_ | refine hw_block ?_ | refine hx_block ?_ | refine hw_tt ?_ | refine hw_ff ?_ | refine hw_iT ?_ | refine hw_iF ?_ | refine hw_skip ?_ | refine hw_ret ?_ | refine hw_exit ?_ | refine hx_then_ret ?_ | refine hx_block_ret ?_ | refine hx_then_exit ?_ | refine hx_block_here ?_ | refine hx_far ?_ | refine hx_any ?_ | (apply ha_end; decide +kernel))
      refine hl_storeA 6 rfl rfl rfl rfl rfl (mp_one sk) ?_
      refine hl_mem (fun w hm => hm.pick (rs' := [_, _, _, _, _, _, _]) [0, 1, 6, 2, 3, 4, 5] (by simp) rfl) ?_
      repeat' (first | refine hl_a ?_ | refine hq_a ?_ | refine hl_nil ?_ | refine hq_nil ?_ | refine hq_ga ?_ | refine hq_sk ?_ | refine hq_su ?_ | refine hq_gT ?_ | refine hq_gF ?_ | refine hq_gd (fun h => ?_) (fun h => ?_) | refine hl_ga ?_ | refine hl_sk ?_ | refine hl_su ?_ | refine hl_gT ?_ | refine hl_gF ?_ | refine hl_gd (fun h => ?_) (fun h => ?_) | refine hx_next ?_ | refine hw_seq ?_ | refine hw_region ?_ | refine hw_dr ?_ | refine hw_block ?_ | refine hx_block ?_ | refine hw_tt ?_ | refine hw_ff ?_ | refine hw_iT ?_ | refine hw_iF ?_ | refine hw_skip ?_ | refine hw_ret ?_ | refine hw_exit ?_ | refine hx_then_ret ?_ | refine hx_block_ret ?_ | refine hx_then_exit ?_ | refine hx_block_here ?_ | refine hx_far ?_ | refine hx_any ?_ | (apply ha_end; decide +kernel) | (apply hl_q; decide; (first | exact q_mul rfl rfl (by omega) | exact q_bld [(0, .int .i64 (ks.getD i 0 * ls.getD k 0))] #[.int .i64 (ks.getD i 0 * ls.getD k 0), .slice none 0 0] rfl (by kernel_rfl))) | (apply hq_q; decide; (first | exact q_mul rfl rfl (by omega) | exact q_bld [(0, .int .i64 (ks.getD i 0 * ls.getD k 0))] #[.int .i64 (ks.getD i 0 * ls.getD k 0), .slice none 0 0] rfl (by kernel_rfl))) | (apply hq_g; rfl; rfl; decide; (first | exact q_mul rfl rfl (by omega) | exact q_bld [(0, .int .i64 (ks.getD i 0 * ls.getD k 0))] #[.int .i64 (ks.getD i 0 * ls.getD k 0), .slice none 0 0] rfl (by kernel_rfl))) | (apply hl_g; rfl; rfl; decide; (first | exact q_mul rfl rfl (by omega) | exact q_bld [(0, .int .i64 (ks.getD i 0 * ls.getD k 0))] #[.int .i64 (ks.getD i 0 * ls.getD k 0), .slice none 0 0] rfl (by kernel_rfl))))
      refine hl_alloc (by decide) (fun bz => ?_)
      refine hl_storeA 7 rfl rfl rfl rfl rfl (mp_one nil_ok) ?_
      refine hl_mem (fun w hm => (hm.pick (rs' := [_, _, _, _, _, _, _, _]) [0, 1, 2, 7, 3, 4, 5, 6] (by simp) rfl).nilE 2 (Value.int .i64)) ?_
      repeat' (first | refine hl_a ?_ | refine hq_a ?_ | refine hl_nil ?_ | refine hq_nil ?_ | refine hq_ga ?_ | refine hq_sk ?_ | refine hq_su ?_ | refine hq_gT ?_ | refine hq_gF ?_ | refine hq_gd (fun h => ?_) (fun h => ?_) | refine hl_ga ?_ | refine hl_sk ?_ | refine hl_su ?_ | refine hl_gT ?_ | refine hl_gF ?_ | refine hl_gd (fun h => ?_) (fun h => ?_) | refine hx_next ?_ | refine hw_seq ?_ | refine hw_region ?_ | refine hw_dr ?_ | refine hw_block ?_ | refine hx_block ?_ | refine hw_tt ?_ | refine hw_ff ?_ | refine hw_iT ?_ | refine hw_iF ?_ | refine hw_skip ?_ | refine hw_ret ?_ | refine hw_exit ?_ | refine hx_then_ret ?_ | refine hx_block_ret ?_ | refine hx_then_exit ?_ | refine hx_block_here ?_ | refine hx_far ?_ | refine hx_any ?_ | (apply ha_end; decide +kernel))
      refine hw_loop (fun e r m => ∃ (s : Nat) (x : Value), r = [rBlk b1 #[.int .i64 (n : Int), .int .i64 (tot * tot'), u] 33, rBlk bx #[.int .i64 (ks.getD i 0), row i] 92, rBlk by' #[.int .i64 (ls.getD k 0), row' k] 92, rBlk bz #[.int .i64 (ks.getD i 0 * ls.getD k 0), x] 92, rBlk b0 #[.int .i64 0, .int .i64 0, .slice none 0 0] 33, rBlk b' #[.int .i64 (n : Int), .int .i64 tot', v'] 33, rOwn 92 2 u (i * yss.length + k) (cells2 (thK ks ls yss.length (i * yss.length + k)) us), rStar (rRow 2 (Value.int .i64) us (thX n xss yss yss.length (i * yss.length + k))), rE 2 (Value.int .i64) x (thR s xss yss i k)] ∧ SlOk x s ∧ s ≤ n ∧ m = n - s ∧ e = [(3, .pointer (some ⟨b', 0, none⟩)), (4, .pointer (some ⟨b0, 0, none⟩)), (6, .pointer (some ⟨b1, 0, none⟩)), (8, .pointer (some ⟨bx, 0, none⟩)), (10, .pointer (some ⟨by', 0, none⟩)), (11, .pointer (some ⟨bz, 0, none⟩)), (55, v), (56, .int .i64 (xss.length : Int)), (57, .int .i64 (i : Int)), (62, v'), (63, .int .i64 (yss.length : Int)), (64, .int .i64 (k : Int)), (75, row i), (76, .int .i64 ((xss.getD i []).length : Int)), (77, .int .i64 (s : Int))])
        ⟨0, _, rfl, nil_ok, Nat.zero_le _, rfl, rfl⟩ ⟨rfl, rfl, rfl, rfl, rfl, rfl, rfl, rfl, rfl, rfl, rfl, rfl, rfl, rfl, rfl, trivial⟩ ?_
      rintro _ _ _ ⟨s, x, rfl, hx, hs, rfl, rfl⟩
      repeat' (first | refine hl_a ?_ | refine hq_a ?_ | refine hl_nil ?_ | refine hq_nil ?_ | refine hq_ga ?_ | refine hq_sk ?_ | refine hq_su ?_ | refine hq_gT ?_ | refine hq_gF ?_ | refine hq_gd (fun h => ?_) (fun h => ?_) | refine hl_ga ?_ | refine hl_sk ?_ | refine hl_su ?_ | refine hl_gT ?_ | refine hl_gF ?_ | refine hl_gd (fun h => ?_) (fun h => ?_) | refine hx_next ?_ | refine hw_seq ?_ | refine hw_region ?_ | refine hw_dr ?_ | refine hw_block ?_ | refine hx_block ?_ | refine hw_tt ?_ | refine hw_ff ?_ | refine hw_iT ?_ | refine hw_iF ?_ | refine hw_skip ?_ | refine hw_ret ?_ | refine hw_exit ?_ | refine hx_then_ret ?_ | refine hx_block_ret ?_ | refine hx_then_exit ?_ | refine hx_block_here ?_ | refine hx_far ?_ | refine hx_any ?_ | (apply ha_end; decide +kernel))
      refine hw_if rfl (fun hlt3 => ?_) (fun hge3 => ?_)
      · have hs2 : s < n := by omega
        have hs3 : s < (xss.getD i []).length := by omega
        have ca : w.cell? (vAt (row i) s) = some (.int .i64 (mAt xss i s)) := hri.get s hs3
        have hma := hv.at i s hi2 (by omega)
        obtain ⟨a, ha⟩ := nat_of hma.1
        rw [ha] at ca hma
        have ha2 : a < (yss.getD k []).length := by omega
        have cb : w.cell? (vAt (row' k) a) = some (.int .i64 (mAt yss k a)) := hrk.get a ha2
        have hzl : (thR s xss yss i k).length = s := tab_length _ _
        repeat' (first | refine hl_a ?_ | refine hq_a ?_ | refine hl_nil ?_ | refine hq_nil ?_ | refine hq_ga ?_ | refine hq_sk ?_ | refine hq_su ?_ | refine hq_gT ?_ | refine hq_gF ?_ | refine hq_gd (fun h => ?_) (fun h => ?_) | refine hl_ga ?_ | refine hl_sk ?_ | refine hl_su ?_ | refine hl_gT ?_ | refine hl_gF ?_ | refine hl_gd (fun h => ?_) (fun h => ?_) | refine hx_next ?_ | refine hw_seq ?_ | refine hw_region ?_ | refine hw_block ?_ | refine hx_block ?_ | refine hw_tt ?_ | refine hw_ff ?_ | refine hw_iT ?_ | refine hw_iF ?_ | refine hw_skip ?_ | refine hw_ret ?_ | refine hw_exit ?_ | refine hx_then_ret ?_ | refine hx_block_ret ?_ | refine hx_then_exit ?_ | refine hx_block_here ?_ | refine hx_far ?_ | refine hx_any ?_ | (apply ha_end; decide +kernel))
        refine hw_g [rBlk b1 #[.int .i64 (n : Int), .int .i64 (tot * tot'), u] 33, rBlk bx #[.int .i64 (ks.getD i 0), row i] 92, rBlk by' #[.int .i64 (ls.getD k 0), row' k] 92, rBlk bz #[.int .i64 (ks.getD i 0 * ls.getD k 0), x] 92] 8 (by kernel_rfl) ?_
        first | refine hg_t 0 ?_ | refine hg_tn 0 ?_
        first | refine hg_t 1 ?_ | refine hg_tn 1 ?_
        first | refine hg_t 2 ?_ | refine hg_tn 2 ?_
        first | refine hg_t 3 ?_ | refine hg_tn 3 ?_
        first | refine hg_t 4 ?_ | refine hg_tn 4 ?_
        first | refine hg_t 5 ?_ | refine hg_tn 5 ?_
        first | refine hg_t 6 ?_ | refine hg_tn 6 ?_
        refine hg_1 7 (by decide +kernel) rfl ?_
        refine hl_build1 (by decide) rfl rfl rfl (fun b3 => ?_)
        refine hl_nil ?_
        refine hx_hg (by first | exact fun w hm => hm.none | exact fun w hm => Mem.keep _ hm) ?_
        refine hg_1 8 (by decide +kernel) rfl ?_
        refine hl_appE 8 9 (mAt yss k a) rfl rfl (by decide) rfl rfl rfl (by rw [hzl]; omega) (by decide) (fun x2 hx2 => ?_)
        refine hl_nil ?_
        refine hx_hgT rfl ?_
        refine hg_1 9 (by decide +kernel) rfl ?_
        refine hl_a ?_
        refine hl_nil ?_
        refine hx_hgT rfl ?_
        refine hg_1 10 (by decide +kernel) rfl ?_
        refine hl_storeB 3 rfl rfl rfl rfl rfl hx2.one ?_
        refine hl_nil ?_
        refine hx_hgT rfl ?_
        refine hg_end (by decide +kernel) ?_
        repeat' (first | refine hl_a ?_ | refine hq_a ?_ | refine hl_nil ?_ | refine hq_nil ?_ | refine hq_ga ?_ | refine hq_sk ?_ | refine hq_su ?_ | refine hq_gT ?_ | refine hq_gF ?_ | refine hq_gd (fun h => ?_) (fun h => ?_) | refine hl_ga ?_ | refine hl_sk ?_ | refine hl_su ?_ | refine hl_gT ?_ | refine hl_gF ?_ | refine hl_gd (fun h => ?_) (fun h => ?_) | refine hx_next ?_ | refine hw_seq ?_ | refine hw_region ?_ | refine hw_block ?_ | refine hx_block ?_ | refine hw_tt ?_ | refine hw_ff ?_ | refine hw_iT ?_ | refine hw_iF ?_ | refine hw_skip ?_ | refine hw_ret ?_ | refine hw_exit ?_ | refine hx_then_ret ?_ | refine hx_block_ret ?_ | refine hx_then_exit ?_ | refine hx_block_here ?_ | refine hx_far ?_ | refine hx_any ?_ | (apply ha_end; decide +kernel))
        refine hx_mem (fun w hm => Mem.keep [_, _, _, _, _, _, _, _, _] hm) ?_
        refine hx_round ⟨s + 1, x2, ?_, ?_, hs2, rfl, rfl⟩ (by omega) ⟨rfl, rfl, rfl, rfl, rfl, rfl, rfl, rfl, rfl, rfl, rfl, rfl, rfl, rfl, rfl, trivial⟩
        · rw [show thR (s + 1) xss yss i k = thR s xss yss i k ++ [mAt yss k a] from by rw [thR, tab_succ, ha, Int.toNat_natCast]; rfl]; rfl
        · rw [hzl] at hx2; exact hx2
      · have e : s = n := by omega
        subst e
        repeat' (first | refine hl_a ?_ | refine hq_a ?_ | refine hl_nil ?_ | refine hq_nil ?_ | refine hq_ga ?_ | refine hq_sk ?_ | refine hq_su ?_ | refine hq_gT ?_ | refine hq_gF ?_ | refine hq_gd (fun h => ?_) (fun h => ?_) | refine hl_ga ?_ | refine hl_sk ?_ | refine hl_su ?_ | refine hl_gT ?_ | refine hl_gF ?_ | refine hl_gd (fun h => ?_) (fun h => ?_) | refine hx_next ?_ | refine hw_seq ?_ | refine hw_region ?_ | refine hw_dr ?_ | refine hw_block ?_ | refine hx_block ?_ | refine hw_tt ?_ | refine hw_ff ?_ | refine hw_iT ?_ | refine hw_iF ?_ | refine hw_skip ?_ | refine hw_ret ?_ | refine hw_exit ?_ | refine hx_then_ret ?_ | refine hx_block_ret ?_ | refine hx_then_exit ?_ | refine hx_block_here ?_ | refine hx_far ?_ | refine hx_any ?_ | (apply ha_end; decide +kernel))
        refine hl_pushS 6 rfl (by decide) (by decide) rfl rfl hx.one rfl (fun b => rfl) (by omega) (by decide) (fun u' b2 hu' => ?_)
        repeat' (first | refine hl_a ?_ | refine hq_a ?_ | refine hl_nil ?_ | refine hq_nil ?_ | refine hq_ga ?_ | refine hq_sk ?_ | refine hq_su ?_ | refine hq_gT ?_ | refine hq_gF ?_ | refine hq_gd (fun h => ?_) (fun h => ?_) | refine hl_ga ?_ | refine hl_sk ?_ | refine hl_su ?_ | refine hl_gT ?_ | refine hl_gF ?_ | refine hl_gd (fun h => ?_) (fun h => ?_) | refine hx_next ?_ | refine hw_seq ?_ | refine hw_region ?_ | refine hw_dr ?_ | refine hw_block ?_ | refine hx_block ?_ | refine hw_tt ?_ | refine hw_ff ?_ | refine hw_iT ?_ | refine hw_iF ?_ | refine hw_skip ?_ | refine hw_ret ?_ | refine hw_exit ?_ | refine hx_then_ret ?_ | refine hx_block_ret ?_ | refine hx_then_exit ?_ | refine hx_block_here ?_ | refine hx_far ?_ | refine hx_any ?_ | (apply ha_end; decide +kernel))
        refine hl_storeB 0 rfl rfl rfl rfl rfl hu'.one ?_
        repeat' (first | refine hl_a ?_ | refine hq_a ?_ | refine hl_nil ?_ | refine hq_nil ?_ | refine hq_ga ?_ | refine hq_sk ?_ | refine hq_su ?_ | refine hq_gT ?_ | refine hq_gF ?_ | refine hq_gd (fun h => ?_) (fun h => ?_) | refine hl_ga ?_ | refine hl_sk ?_ | refine hl_su ?_ | refine hl_gT ?_ | refine hl_gF ?_ | refine hl_gd (fun h => ?_) (fun h => ?_) | refine hx_next ?_ | refine hw_seq ?_ | refine hw_region ?_ | refine hw_dr ?_ | refine hw_block ?_ | refine hx_block ?_ | refine hw_tt ?_ | refine hw_ff ?_ | refine hw_iT ?_ | refine hw_iF ?_ | refine hw_skip ?_ | refine hw_ret ?_ | refine hw_exit ?_ | refine hx_then_ret ?_ | refine hx_block_ret ?_ | refine hx_then_exit ?_ | refine hx_block_here ?_ | refine hx_far ?_ | refine hx_any ?_ | (apply ha_end; decide +kernel))
        refine hx_mem (rs' := [rBlk b1 #[.int .i64 (s : Int), .int .i64 (tot * tot'), u'] 33, rBlk bx #[.int .i64 (ks.getD i 0), row i] 92, rBlk b0 #[.int .i64 0, .int .i64 0, .slice none 0 0] 33, rBlk b' #[.int .i64 (s : Int), .int .i64 tot', v'] 33, rOwn 92 2 u' (i * yss.length + (k + 1)) (cells2 (thK ks ls yss.length (i * yss.length + (k + 1))) (us ++ [x])), rStar (rRow 2 (Value.int .i64) (us ++ [x]) (thX s xss yss yss.length (i * yss.length + (k + 1))))]) (fun w hm => ?_) ?_
        · rw [thK_succ _ _ i hk2, thX_succ _ _ _ i hk2, cells2_snoc _ _ _ _ (by rw [thK_length]; exact hus.symm), rRow_snoc _ _ _ _ (by rw [thX_length]; exact hus)]
          exact Mem.pack [_, _, _, _, _] (hm.pick (rs' := [_, _, _, _, _, _, _]) [0, 1, 4, 5, 6, 7, 8] (by simp) rfl)
        · exact hx_round ⟨k + 1, u', us ++ [x], rfl, by simp [hus]; omega, hk2, rfl, rfl⟩ (by omega) ⟨rfl, rfl, rfl, rfl, rfl, rfl, rfl, rfl, rfl, rfl, trivial⟩
    · have e : k = yss.length := by omega
      subst e
      repeat' (first | refine hl_a ?_ | refine hq_a ?_ | refine hl_nil ?_ | refine hq_nil ?_ | refine hq_ga ?_ | refine hq_sk ?_ | refine hq_su ?_ | refine hq_gT ?_ | refine hq_gF ?_ | refine hq_gd (fun h => ?_) (fun h => ?_) | refine hl_ga ?_ | refine hl_sk ?_ | refine hl_su ?_ | refine hl_gT ?_ | refine hl_gF ?_ | refine hl_gd (fun h => ?_) (fun h => ?_) | refine hx_next ?_ | refine hw_seq ?_ | refine hw_region ?_ | refine hw_dr ?_ | refine hw_block ?_ | refine hx_block ?_ | refine hw_tt ?_ | refine hw_ff ?_ | refine hw_iT ?_ | refine hw_iF ?_ | refine hw_skip ?_ | refine hw_ret ?_ | refine hw_exit ?_ | refine hx_then_ret ?_ | refine hx_block_ret ?_ | refine hx_then_exit ?_ | refine hx_block_here ?_ | refine hx_far ?_ | refine hx_any ?_ | (apply ha_end; decide +kernel))
      refine hx_mem (fun w hm => hm.pick (rs' := [_, _, _, _, _]) [0, 3, 2, 4, 5] (by simp) rfl) ?_
      have e2 : i * yss.length + yss.length = (i + 1) * yss.length + 0 := by rw [Nat.succ_mul]; rfl
      rw [e2]
      rw [e2] at hus
      exact hx_round ⟨i + 1, u, us, rfl, hus, hi2, rfl, rfl⟩ (by omega) ⟨rfl, rfl, rfl, rfl, rfl, rfl, trivial⟩
  · have e : i = xss.length := by omega
    subst e
    refine hw_own 3 rfl (fun hu => ?_)
    rw [Nat.add_zero] at hu hus ⊢
    repeat' (first | refine hl_a ?_ | refine hq_a ?_ | refine hl_nil ?_ | refine hq_nil ?_ | refine hq_ga ?_ | refine hq_sk ?_ | refine hq_su ?_ | refine hq_gT ?_ | refine hq_gF ?_ | refine hq_gd (fun h => ?_) (fun h => ?_) | refine hl_ga ?_ | refine hl_sk ?_ | refine hl_su ?_ | refine hl_gT ?_ | refine hl_gF ?_ | refine hl_gd (fun h => ?_) (fun h => ?_) | refine hx_next ?_ | refine hw_seq ?_ | refine hw_region ?_ | refine hw_dr ?_ | refine hw_block ?_ | refine hx_block ?_ | refine hw_tt ?_ | refine hw_ff ?_ | refine hw_iT ?_ | refine hw_iF ?_ | refine hw_skip ?_ | refine hw_ret ?_ | refine hw_exit ?_ | refine hx_then_ret ?_ | refine hx_block_ret ?_ | refine hx_then_exit ?_ | refine hx_block_here ?_ | refine hx_far ?_ | refine hx_any ?_ | (apply ha_end; decide +kernel))
    refine hl_storeA 2 rfl rfl rfl rfl rfl (chV_one hu) ?_
    repeat' (first | refine hl_a ?_ | refine hq_a ?_ | refine hl_nil ?_ | refine hq_nil ?_ | refine hq_ga ?_ | refine hq_sk ?_ | refine hq_su ?_ | refine hq_gT ?_ | refine hq_gF ?_ | refine hq_gd (fun h => ?_) (fun h => ?_) | refine hl_ga ?_ | refine hl_sk ?_ | refine hl_su ?_ | refine hl_gT ?_ | refine hl_gF ?_ | refine hl_gd (fun h => ?_) (fun h => ?_) | refine hx_next ?_ | refine hw_seq ?_ | refine hw_region ?_ | refine hw_dr ?_ | refine hw_block ?_ | refine hx_block ?_ | refine hw_tt ?_ | refine hw_ff ?_ | refine hw_iT ?_ | refine hw_iF ?_ | refine hw_skip ?_ | refine hw_ret ?_ | refine hw_exit ?_ | refine hx_then_ret ?_ | refine hx_block_ret ?_ | refine hx_then_exit ?_ | refine hx_block_here ?_ | refine hx_far ?_ | refine hx_any ?_ | (apply ha_end; decide +kernel))
    exact hx_retBt 2 rfl rfl rfl rfl rfl (fun w hm => ⟨_, _, rfl, Mem.tail1 (hm.maps [] [] 3 4 hus.symm (by decide) rfl rfl rfl), by rw [hM]; exact ⟨u, us, rfl, rfl, by simp only [thX_length]; exact hus, by simp only [thX_length]; exact hu⟩⟩)
set_option maxHeartbeats 4000000 in
theorem specThenMaps_c (st tot : Int) (v : Value) (ks : List Int) (xss : List (List Int)) (row : Nat → Value) (st' tot' : Int) (v' : Value) (ls : List Int) (yss : List (List Int)) (row' : Nat → Value) (w : World) (hr : RdM w v ks xss row) (hr' : RdM w v' ls yss row') :
    Gives Try.prog 25 [chV st tot v, chV st' tot' v'] w (MpOut 92 2 (thM st tot ks xss st' tot' ls yss)) := by
  refine calls_hw Try.func25 Try.ntmps25 rfl rfl ?_
  have hsl := hr.sl
  have hsl' := hr'.sl
  have hkl := hr.len
  have hkl' := hr'.len
  repeat' (first | refine hl_a ?_ | refine hq_a ?_ | refine hl_nil ?_ | refine hq_nil ?_ | refine hq_ga ?_ | refine hq_sk ?_ | refine hq_su ?_ | refine hq_gT ?_ | refine hq_gF ?_ | refine hq_gd (fun h => ?_) (fun h => ?_) | refine hl_ga ?_ | refine hl_sk ?_ | refine hl_su ?_ | refine hl_gT ?_ | refine hl_gF ?_ | refine hl_gd (fun h => ?_) (fun h => ?_) | refine hx_next ?_ | refine hw_seq ?_ | refine hw_region ?_ | refine hw_dr ?_ | refine hw_block ?_ | refine hx_block ?_ | refine hw_tt ?_ | refine hw_ff ?_ | refine hw_iT ?_ | refine hw_iF ?_ | refine hw_skip ?_ | refine hw_ret ?_ | refine hw_exit ?_ | refine hx_then_ret ?_ | refine hx_block_ret ?_ | refine hx_then_exit ?_ | refine hx_block_here ?_ | refine hx_far ?_ | refine hx_any ?_ | (apply ha_end; decide +kernel))
  refine hl_box (by decide) rfl (fun b => ?_)
  refine hl_box (by decide) rfl (fun b' => ?_)
  refine hl_alloc (by decide) (fun b0 => ?_)
  repeat' (first | refine hl_a ?_ | refine hq_a ?_ | refine hl_nil ?_ | refine hq_nil ?_ | refine hq_ga ?_ | refine hq_sk ?_ | refine hq_su ?_ | refine hq_gT ?_ | refine hq_gF ?_ | refine hq_gd (fun h => ?_) (fun h => ?_) | refine hl_ga ?_ | refine hl_sk ?_ | refine hl_su ?_ | refine hl_gT ?_ | refine hl_gF ?_ | refine hl_gd (fun h => ?_) (fun h => ?_) | refine hx_next ?_ | refine hw_seq ?_ | refine hw_region ?_ | refine hw_dr ?_ | refine hw_block ?_ | refine hx_block ?_ | refine hw_tt ?_ | refine hw_ff ?_ | refine hw_iT ?_ | refine hw_iF ?_ | refine hw_skip ?_ | refine hw_ret ?_ | refine hw_exit ?_ | refine hx_then_ret ?_ | refine hx_block_ret ?_ | refine hx_then_exit ?_ | refine hx_block_here ?_ | refine hx_far ?_ | refine hx_any ?_ | (apply ha_end; decide +kernel))
  first | refine hl_q (by decide) (q_call (fun w hm => (ptM_blk 0 rfl hm (hr.up hm.below)).ok) rfl) ?_ | refine hq_q (by decide) (q_call (fun w hm => (ptM_blk 0 rfl hm (hr.up hm.below)).ok) rfl) ?_ | refine hl_g _ _ rfl rfl (by decide) (q_call (fun w hm => (ptM_blk 0 rfl hm (hr.up hm.below)).ok) rfl) ?_ | refine hq_g _ _ rfl rfl (by decide) (q_call (fun w hm => (ptM_blk 0 rfl hm (hr.up hm.below)).ok) rfl) ?_
  rcases (Classical.em (ValidM st tot ks xss)).symm with hv | hv
  · repeat' (first | refine hl_a ?_ | refine hq_a ?_ | refine hl_nil ?_ | refine hq_nil ?_ | refine hq_ga ?_ | refine hq_sk ?_ | refine hq_su ?_ | refine hq_gT ?_ | refine hq_gF ?_ | refine hq_gd (fun h => ?_) (fun h => ?_) | refine hl_ga ?_ | refine hl_sk ?_ | refine hl_su ?_ | refine hl_gT ?_ | refine hl_gF ?_ | refine hl_gd (fun h => ?_) (fun h => ?_) | refine hx_next ?_ | refine hw_seq ?_ | refine hw_region ?_ | refine hw_dr ?_ | refine hw_block ?_ | refine hx_block ?_ | refine hw_tt ?_ | refine hw_ff ?_ | refine hw_iT ?_ | refine hw_iF ?_ | refine hw_skip ?_ | refine hw_ret ?_ | refine hw_exit ?_ | refine hx_then_ret ?_ | refine hx_block_ret ?_ | refine hx_then_exit ?_ | refine hx_block_here ?_ | refine hx_far ?_ | refine hx_any ?_ | (apply ha_end; decide +kernel) | (apply hl_q; decide; (first | exact q_bld [] #[.int .i64 0, .int .i64 0, .slice none 0 0] rfl (by kernel_rfl))) | (apply hq_q; decide; (first | exact q_bld [] #[.int .i64 0, .int .i64 0, .slice none 0 0] rfl (by kernel_rfl))) | (apply hq_g; rfl; rfl; decide; (first | exact q_bld [] #[.int .i64 0, .int .i64 0, .slice none 0 0] rfl (by kernel_rfl))) | (apply hl_g; rfl; rfl; decide; (first | exact q_bld [] #[.int .i64 0, .int .i64 0, .slice none 0 0] rfl (by kernel_rfl))))
    refine hl_storeA 2 rfl rfl rfl rfl rfl (chV_one nil_ok) ?_
    repeat' (first | refine hl_a ?_ | refine hq_a ?_ | refine hl_nil ?_ | refine hq_nil ?_ | refine hq_ga ?_ | refine hq_sk ?_ | refine hq_su ?_ | refine hq_gT ?_ | refine hq_gF ?_ | refine hq_gd (fun h => ?_) (fun h => ?_) | refine hl_ga ?_ | refine hl_sk ?_ | refine hl_su ?_ | refine hl_gT ?_ | refine hl_gF ?_ | refine hl_gd (fun h => ?_) (fun h => ?_) | refine hx_next ?_ | refine hw_seq ?_ | refine hw_region ?_ | refine hw_dr ?_ | refine hw_block ?_ | refine hx_block ?_ | refine hw_tt ?_ | refine hw_ff ?_ | refine hw_iT ?_ | refine hw_iF ?_ | refine hw_skip ?_ | refine hw_ret ?_ | refine hw_exit ?_ | refine hx_then_ret ?_ | refine hx_block_ret ?_ | refine hx_then_exit ?_ | refine hx_block_here ?_ | refine hx_far ?_ | refine hx_any ?_ | (apply ha_end; decide +kernel))
    exact hx_retBt 2 rfl rfl rfl rfl rfl (fun w hm => ⟨_, _, rfl, maps_nil 92 2 hm.none, by rw [thM, if_neg (fun e => hv e.1)]; exact mpErr _ _ _ rfl⟩)
  have hv2 : ¬ ¬ ValidM st tot ks xss := fun e => e hv
  repeat' (first | refine hl_a ?_ | refine hq_a ?_ | refine hl_nil ?_ | refine hq_nil ?_ | refine hq_ga ?_ | refine hq_sk ?_ | refine hq_su ?_ | refine hq_gT ?_ | refine hq_gF ?_ | refine hq_gd (fun h => ?_) (fun h => ?_) | refine hl_ga ?_ | refine hl_sk ?_ | refine hl_su ?_ | refine hl_gT ?_ | refine hl_gF ?_ | refine hl_gd (fun h => ?_) (fun h => ?_) | refine hx_next ?_ | refine hw_seq ?_ | refine hw_region ?_ | refine hw_dr ?_ | refine hw_block ?_ | refine hx_block ?_ | refine hw_tt ?_ | refine hw_ff ?_ | refine hw_iT ?_ | refine hw_iF ?_ | refine hw_skip ?_ | refine hw_ret ?_ | refine hw_exit ?_ | refine hx_then_ret ?_ | refine hx_block_ret ?_ | refine hx_then_exit ?_ | refine hx_block_here ?_ | refine hx_far ?_ | refine hx_any ?_ | (apply ha_end; decide +kernel))
  first | refine hl_q (by decide) (q_call (fun w hm => (ptM_blk 1 rfl hm (hr'.up hm.below)).ok) rfl) ?_ | refine hq_q (by decide) (q_call (fun w hm => (ptM_blk 1 rfl hm (hr'.up hm.below)).ok) rfl) ?_ | refine hl_g _ _ rfl rfl (by decide) (q_call (fun w hm => (ptM_blk 1 rfl hm (hr'.up hm.below)).ok) rfl) ?_ | refine hq_g _ _ rfl rfl (by decide) (q_call (fun w hm => (ptM_blk 1 rfl hm (hr'.up hm.below)).ok) rfl) ?_
  repeat' (first | refine hl_a ?_ | refine hq_a ?_ | refine hl_nil ?_ | refine hq_nil ?_ | refine hq_ga ?_ | refine hq_sk ?_ | refine hq_su ?_ | refine hq_gT ?_ | refine hq_gF ?_ | refine hq_gd (fun h => ?_) (fun h => ?_) | refine hl_ga ?_ | refine hl_sk ?_ | refine hl_su ?_ | refine hl_gT ?_ | refine hl_gF ?_ | refine hl_gd (fun h => ?_) (fun h => ?_) | refine hx_next ?_ | refine hw_seq ?_ | refine hw_region ?_ | refine hw_dr ?_ | refine hw_block ?_ | refine hx_block ?_ | refine hw_tt ?_ | refine hw_ff ?_ | refine hw_iT ?_ | refine hw_iF ?_ | refine hw_skip ?_ | refine hw_ret ?_ | refine hw_exit ?_ | refine hx_then_ret ?_ | refine hx_block_ret ?_ | refine hx_then_exit ?_ | refine hx_block_here ?_ | refine hx_far ?_ | refine hx_any ?_ | (apply ha_end; decide +kernel))
  refine hw_if rfl (fun h => ?_) (fun h => ?_)
  · repeat' (first | refine hl_a ?_ | refine hq_a ?_ | refine hl_nil ?_ | refine hq_nil ?_ | refine hq_ga ?_ | refine hq_sk ?_ | refine hq_su ?_ | refine hq_gT ?_ | refine hq_gF ?_ | refine hq_gd (fun h => ?_) (fun h => ?_) | refine hl_ga ?_ | refine hl_sk ?_ | refine hl_su ?_ | refine hl_gT ?_ | refine hl_gF ?_ | refine hl_gd (fun h => ?_) (fun h => ?_) | refine hx_next ?_ | refine hw_seq ?_ | refine hw_region ?_ | refine hw_dr ?_ | refine hw_block ?_ | refine hx_block ?_ | refine hw_tt ?_ | refine hw_ff ?_ | refine hw_iT ?_ | refine hw_iF ?_ | refine hw_skip ?_ | refine hw_ret ?_ | refine hw_exit ?_ | refine hx_then_ret ?_ | refine hx_block_ret ?_ | refine hx_then_exit ?_ | refine hx_block_here ?_ | refine hx_far ?_ | refine hx_any ?_ | (apply ha_end; decide +kernel) | (apply hl_q; decide; (first | exact q_bld [] #[.int .i64 0, .int .i64 0, .slice none 0 0] rfl (by kernel_rfl))) | (apply hq_q; decide; (first | exact q_bld [] #[.int .i64 0, .int .i64 0, .slice none 0 0] rfl (by kernel_rfl))) | (apply hq_g; rfl; rfl; decide; (first | exact q_bld [] #[.int .i64 0, .int .i64 0, .slice none 0 0] rfl (by kernel_rfl))) | (apply hl_g; rfl; rfl; decide; (first | exact q_bld [] #[.int .i64 0, .int .i64 0, .slice none 0 0] rfl (by kernel_rfl))))
    refine hl_storeA 2 rfl rfl rfl rfl rfl (chV_one nil_ok) ?_
    repeat' (first | refine hl_a ?_ | refine hq_a ?_ | refine hl_nil ?_ | refine hq_nil ?_ | refine hq_ga ?_ | refine hq_sk ?_ | refine hq_su ?_ | refine hq_gT ?_ | refine hq_gF ?_ | refine hq_gd (fun h => ?_) (fun h => ?_) | refine hl_ga ?_ | refine hl_sk ?_ | refine hl_su ?_ | refine hl_gT ?_ | refine hl_gF ?_ | refine hl_gd (fun h => ?_) (fun h => ?_) | refine hx_next ?_ | refine hw_seq ?_ | refine hw_region ?_ | refine hw_dr ?_ | refine hw_block ?_ | refine hx_block ?_ | refine hw_tt ?_ | refine hw_ff ?_ | refine hw_iT ?_ | refine hw_iF ?_ | refine hw_skip ?_ | refine hw_ret ?_ | refine hw_exit ?_ | refine hx_then_ret ?_ | refine hx_block_ret ?_ | refine hx_then_exit ?_ | refine hx_block_here ?_ | refine hx_far ?_ | refine hx_any ?_ | (apply ha_end; decide +kernel))
    exact hx_retBt 2 rfl rfl rfl rfl rfl (fun w hm => ⟨_, _, rfl, maps_nil 92 2 hm.none, by rw [thM, if_neg (fun e => h e.2)]; exact mpErr _ _ _ rfl⟩)
  have hv' := Classical.not_not.1 h
  repeat' (first | refine hl_a ?_ | refine hq_a ?_ | refine hl_nil ?_ | refine hq_nil ?_ | refine hq_ga ?_ | refine hq_sk ?_ | refine hq_su ?_ | refine hq_gT ?_ | refine hq_gF ?_ | refine hq_gd (fun h => ?_) (fun h => ?_) | refine hl_ga ?_ | refine hl_sk ?_ | refine hl_su ?_ | refine hl_gT ?_ | refine hl_gF ?_ | refine hl_gd (fun h => ?_) (fun h => ?_) | refine hx_next ?_ | refine hw_seq ?_ | refine hw_region ?_ | refine hw_dr ?_ | refine hw_block ?_ | refine hx_block ?_ | refine hw_tt ?_ | refine hw_ff ?_ | refine hw_iT ?_ | refine hw_iF ?_ | refine hw_skip ?_ | refine hw_ret ?_ | refine hw_exit ?_ | refine hx_then_ret ?_ | refine hx_block_ret ?_ | refine hx_then_exit ?_ | refine hx_block_here ?_ | refine hx_far ?_ | refine hx_any ?_ | (apply ha_end; decide +kernel))
  refine hw_if rfl (fun h2 => ?_) (fun h2 => ?_)
  · repeat' (first | refine hl_a ?_ | refine hq_a ?_ | refine hl_nil ?_ | refine hq_nil ?_ | refine hq_ga ?_ | refine hq_sk ?_ | refine hq_su ?_ | refine hq_gT ?_ | refine hq_gF ?_ | refine hq_gd (fun h => ?_) (fun h => ?_) | refine hl_ga ?_ | refine hl_sk ?_ | refine hl_su ?_ | refine hl_gT ?_ | refine hl_gF ?_ | refine hl_gd (fun h => ?_) (fun h => ?_) | refine hx_next ?_ | refine hw_seq ?_ | refine hw_region ?_ | refine hw_dr ?_ | refine hw_block ?_ | refine hx_block ?_ | refine hw_tt ?_ | refine hw_ff ?_ | refine hw_iT ?_ | refine hw_iF ?_ | refine hw_skip ?_ | refine hw_ret ?_ | refine hw_exit ?_ | refine hx_then_ret ?_ | refine hx_block_ret ?_ | refine hx_then_exit ?_ | refine hx_block_here ?_ | refine hx_far ?_ | refine hx_any ?_ | (apply ha_end; decide +kernel) | (apply hl_q; decide; (first | exact q_bld [] #[.int .i64 0, .int .i64 0, .slice none 0 0] rfl (by kernel_rfl))) | (apply hq_q; decide; (first | exact q_bld [] #[.int .i64 0, .int .i64 0, .slice none 0 0] rfl (by kernel_rfl))) | (apply hq_g; rfl; rfl; decide; (first | exact q_bld [] #[.int .i64 0, .int .i64 0, .slice none 0 0] rfl (by kernel_rfl))) | (apply hl_g; rfl; rfl; decide; (first | exact q_bld [] #[.int .i64 0, .int .i64 0, .slice none 0 0] rfl (by kernel_rfl))))
    refine hl_storeA 2 rfl rfl rfl rfl rfl (chV_one nil_ok) ?_
    repeat' (first | refine hl_a ?_ | refine hq_a ?_ | refine hl_nil ?_ | refine hq_nil ?_ | refine hq_ga ?_ | refine hq_sk ?_ | refine hq_su ?_ | refine hq_gT ?_ | refine hq_gF ?_ | refine hq_gd (fun h => ?_) (fun h => ?_) | refine hl_ga ?_ | refine hl_sk ?_ | refine hl_su ?_ | refine hl_gT ?_ | refine hl_gF ?_ | refine hl_gd (fun h => ?_) (fun h => ?_) | refine hx_next ?_ | refine hw_seq ?_ | refine hw_region ?_ | refine hw_dr ?_ | refine hw_block ?_ | refine hx_block ?_ | refine hw_tt ?_ | refine hw_ff ?_ | refine hw_iT ?_ | refine hw_iF ?_ | refine hw_skip ?_ | refine hw_ret ?_ | refine hw_exit ?_ | refine hx_then_ret ?_ | refine hx_block_ret ?_ | refine hx_then_exit ?_ | refine hx_block_here ?_ | refine hx_far ?_ | refine hx_any ?_ | (apply ha_end; decide +kernel))
    exact hx_retBt 2 rfl rfl rfl rfl rfl (fun w hm => ⟨_, _, rfl, maps_nil 92 2 hm.none, by rw [thM, if_pos ⟨hv, hv'⟩, if_neg h2]; exact mpErr _ _ _ rfl⟩)
  obtain rfl := Classical.not_not.1 h2
  obtain ⟨n, rfl, hn1, hn6⟩ := hv.nat
  have t1 := hv.t1
  have t2 := hv'.t1
  have l1 := hv.len
  have l2 := hv'.len
  have m1 := mul_bd (A := 60) (B := 60) (a := tot) (b := tot') (by omega) (by omega)
  have hval := then_validM hv hv' hkl hkl'
  repeat' (first | refine hl_a ?_ | refine hq_a ?_ | refine hl_nil ?_ | refine hq_nil ?_ | refine hq_ga ?_ | refine hq_sk ?_ | refine hq_su ?_ | refine hq_gT ?_ | refine hq_gF ?_ | refine hq_gd (fun h => ?_) (fun h => ?_) | refine hl_ga ?_ | refine hl_sk ?_ | refine hl_su ?_ | refine hl_gT ?_ | refine hl_gF ?_ | refine hl_gd (fun h => ?_) (fun h => ?_) | refine hx_next ?_ | refine hw_seq ?_ | refine hw_region ?_ | refine hw_dr ?_ | refine hw_block ?_ | refine hx_block ?_ | refine hw_tt ?_ | refine hw_ff ?_ | refine hw_iT ?_ | refine hw_iF ?_ | refine hw_skip ?_ | refine hw_ret ?_ | refine hw_exit ?_ | refine hx_then_ret ?_ | refine hx_block_ret ?_ | refine hx_then_exit ?_ | refine hx_block_here ?_ | refine hx_far ?_ | refine hx_any ?_ | (apply ha_end; decide +kernel) | (apply hl_q; decide; (first | exact q_mul rfl rfl (by omega) | exact q_bld [(0, .int .i64 (n : Int)), (1, .int .i64 (tot * tot'))] #[.int .i64 (n : Int), .int .i64 (tot * tot'), .slice none 0 0] rfl (by kernel_rfl))) | (apply hq_q; decide; (first | exact q_mul rfl rfl (by omega) | exact q_bld [(0, .int .i64 (n : Int)), (1, .int .i64 (tot * tot'))] #[.int .i64 (n : Int), .int .i64 (tot * tot'), .slice none 0 0] rfl (by kernel_rfl))) | (apply hq_g; rfl; rfl; decide; (first | exact q_mul rfl rfl (by omega) | exact q_bld [(0, .int .i64 (n : Int)), (1, .int .i64 (tot * tot'))] #[.int .i64 (n : Int), .int .i64 (tot * tot'), .slice none 0 0] rfl (by kernel_rfl))) | (apply hl_g; rfl; rfl; decide; (first | exact q_mul rfl rfl (by omega) | exact q_bld [(0, .int .i64 (n : Int)), (1, .int .i64 (tot * tot'))] #[.int .i64 (n : Int), .int .i64 (tot * tot'), .slice none 0 0] rfl (by kernel_rfl))))
  refine hl_alloc (by decide) (fun b1 => ?_)
  refine hl_storeA 3 rfl rfl rfl rfl rfl (chV_one nil_ok) ?_
  repeat' (first | refine hl_a ?_ | refine hq_a ?_ | refine hl_nil ?_ | refine hq_nil ?_ | refine hq_ga ?_ | refine hq_sk ?_ | refine hq_su ?_ | refine hq_gT ?_ | refine hq_gF ?_ | refine hq_gd (fun h => ?_) (fun h => ?_) | refine hl_ga ?_ | refine hl_sk ?_ | refine hl_su ?_ | refine hl_gT ?_ | refine hl_gF ?_ | refine hl_gd (fun h => ?_) (fun h => ?_) | refine hx_next ?_ | refine hw_seq ?_ | refine hw_region ?_ | refine hw_dr ?_ | refine hw_block ?_ | refine hx_block ?_ | refine hw_tt ?_ | refine hw_ff ?_ | refine hw_iT ?_ | refine hw_iF ?_ | refine hw_skip ?_ | refine hw_ret ?_ | refine hw_exit ?_ | refine hx_then_ret ?_ | refine hx_block_ret ?_ | refine hx_then_exit ?_ | refine hx_block_here ?_ | refine hx_far ?_ | refine hx_any ?_ | (apply ha_end; decide +kernel))
  refine hw_mem (fun w hm => ((hm.nilOwn 92 2).empty).pick (rs' := [_, _, _, _, _, _]) [0, 1, 3, 2, 4, 5] (by simp) rfl) ?_
  refine hw_loop (fun e r m => ∃ (i : Nat) (u : Value) (us : List Value), r = [rBlk b #[.int .i64 (n : Int), .int .i64 tot, v] 33, rBlk b' #[.int .i64 (n : Int), .int .i64 tot', v'] 33, rBlk b1 #[.int .i64 (n : Int), .int .i64 (tot * tot'), u] 33, rBlk b0 #[.int .i64 0, .int .i64 0, .slice none 0 0] 33, rOwn 92 2 u (i * yss.length + 0) (cells2 (thK ks ls yss.length (i * yss.length + 0)) us), rStar (rRow 2 (Value.int .i64) us (thX n xss yss yss.length (i * yss.length + 0)))] ∧ us.length = i * yss.length + 0 ∧ i ≤ xss.length ∧ m = xss.length - i ∧ e = [(2, .pointer (some ⟨b, 0, none⟩)), (3, .pointer (some ⟨b', 0, none⟩)), (4, .pointer (some ⟨b0, 0, none⟩)), (6, .pointer (some ⟨b1, 0, none⟩)), (7, .int .i64 (i : Int))])
    ⟨0, .slice none 0 0, [], by rw [show 0 * yss.length + 0 = 0 by simp]; rfl, by simp, Nat.zero_le _, rfl, rfl⟩ ⟨rfl, rfl, rfl, rfl, rfl, trivial⟩ ?_
  rintro _ _ _ ⟨i, u, us, rfl, hus, hi, rfl, rfl⟩
  repeat' (first | refine hl_a ?_ | refine hq_a ?_ | refine hl_nil ?_ | refine hq_nil ?_ | refine hq_ga ?_ | refine hq_sk ?_ | refine hq_su ?_ | refine hq_gT ?_ | refine hq_gF ?_ | refine hq_gd (fun h => ?_) (fun h => ?_) | refine hl_ga ?_ | refine hl_sk ?_ | refine hl_su ?_ | refine hl_gT ?_ | refine hl_gF ?_ | refine hl_gd (fun h => ?_) (fun h => ?_) | refine hx_next ?_ | refine hw_seq ?_ | refine hw_region ?_ | refine hw_dr ?_ | refine hw_block ?_ | refine hx_block ?_ | refine hw_tt ?_ | refine hw_ff ?_ | refine hw_iT ?_ | refine hw_iF ?_ | refine hw_skip ?_ | refine hw_ret ?_ | refine hw_exit ?_ | refine hx_then_ret ?_ | refine hx_block_ret ?_ | refine hx_then_exit ?_ | refine hx_block_here ?_ | refine hx_far ?_ | refine hx_any ?_ | (apply ha_end; decide +kernel))
  refine hw_if rfl (fun hlt => ?_) (fun hge => ?_)
  · have hi2 : i < xss.length := by omega
    have ci := hr.get i hi2
    have ci0 := hr.key i hi2
    have hri := hr.row i hi2
    have si := hri.sl
    have hrl := hv.rlen i hi2
    have hki := hv.key i hi2
    repeat' (first | refine hl_a ?_ | refine hq_a ?_ | refine hl_nil ?_ | refine hq_nil ?_ | refine hq_ga ?_ | refine hq_sk ?_ | refine hq_su ?_ | refine hq_gT ?_ | refine hq_gF ?_ | refine hq_gd (fun h => ?_) (fun h => ?_) | refine hl_ga ?_ | refine hl_sk ?_ | refine hl_su ?_ | refine hl_gT ?_ | refine hl_gF ?_ | refine hl_gd (fun h => ?_) (fun h => ?_) | refine hx_next ?_ | refine hw_seq ?_ | refine hw_region ?_ | refine hw_dr ?_ | refine hw_block ?_ | refine hx_block ?_ | refine hw_tt ?_ | refine hw_ff ?_ | refine hw_iT ?_ | refine hw_iF ?_ | refine hw_skip ?_ | refine hw_ret ?_ | refine hw_exit ?_ | refine hx_then_ret ?_ | refine hx_block_ret ?_ | refine hx_then_exit ?_ | refine hx_block_here ?_ | refine hx_far ?_ | refine hx_any ?_ | (apply ha_end; decide +kernel))
    refine hw_loop (fun e r m => ∃ (k : Nat) (u : Value) (us : List Value), r = [rBlk b #[.int .i64 (n : Int), .int .i64 tot, v] 33, rBlk b' #[.int .i64 (n : Int), .int .i64 tot', v'] 33, rBlk b1 #[.int .i64 (n : Int), .int .i64 (tot * tot'), u] 33, rBlk b0 #[.int .i64 0, .int .i64 0, .slice none 0 0] 33, rOwn 92 2 u (i * yss.length + k) (cells2 (thK ks ls yss.length (i * yss.length + k)) us), rStar (rRow 2 (Value.int .i64) us (thX n xss yss yss.length (i * yss.length + k)))] ∧ us.length = i * yss.length + k ∧ k ≤ yss.length ∧ m = yss.length - k ∧ e = [(2, .pointer (some ⟨b, 0, none⟩)), (3, .pointer (some ⟨b', 0, none⟩)), (4, .pointer (some ⟨b0, 0, none⟩)), (6, .pointer (some ⟨b1, 0, none⟩)), (7, .int .i64 (i : Int)), (8, .int .i64 (k : Int))])
      ⟨0, _, us, rfl, hus, Nat.zero_le _, rfl, rfl⟩ ⟨rfl, rfl, rfl, rfl, rfl, rfl, trivial⟩ ?_
    rintro _ _ _ ⟨k, u, us, rfl, hus, hk, rfl, rfl⟩
    repeat' (first | refine hl_a ?_ | refine hq_a ?_ | refine hl_nil ?_ | refine hq_nil ?_ | refine hq_ga ?_ | refine hq_sk ?_ | refine hq_su ?_ | refine hq_gT ?_ | refine hq_gF ?_ | refine hq_gd (fun h => ?_) (fun h => ?_) | refine hl_ga ?_ | refine hl_sk ?_ | refine hl_su ?_ | refine hl_gT ?_ | refine hl_gF ?_ | refine hl_gd (fun h => ?_) (fun h => ?_) | refine hx_next ?_ | refine hw_seq ?_ | refine hw_region ?_ | refine hw_dr ?_ | refine hw_block ?_ | refine hx_block ?_ | refine hw_tt ?_ | refine hw_ff ?_ | refine hw_iT ?_ | refine hw_iF ?_ | refine hw_skip ?_ | refine hw_ret ?_ | refine hw_exit ?_ | refine hx_then_ret ?_ | refine hx_block_ret ?_ | refine hx_then_exit ?_ | refine hx_block_here ?_ | refine hx_far ?_ | refine hx_any ?_ | (apply ha_end; decide +kernel))
    refine hw_if rfl (fun hlt2 => ?_) (fun hge2 => ?_)
    · have hk2 : k < yss.length := by omega
      have ck := hr'.get k hk2
      have ck0 := hr'.key k hk2
      have hrk := hr'.row k hk2
      have sk := hrk.sl
      have hrl' := hv'.rlen k hk2
      have hkk := hv'.key k hk2
      have hprod : i * yss.length ≤ xss.length * yss.length := Nat.mul_le_mul_right _ hi
      have hpr2 : xss.length * yss.length ≤ 60 * 60 := Nat.mul_le_mul (by omega) (by omega)
      have mm := mul_bd (A := 60) (B := 60) (a := ks.getD i 0) (b := ls.getD k 0) (by omega) (by omega)
      repeat' (first | refine hl_a ?_ | refine hq_a ?_ | refine hl_nil ?_ | refine hq_nil ?_ | refine hq_ga ?_ | refine hq_sk ?_ | refine hq_su ?_ | refine hq_gT ?_ | refine hq_gF ?_ | refine hq_gd (fun h => ?_) (fun h => ?_) | refine hl_ga ?_ | refine hl_sk ?_ | refine hl_su ?_ | refine hl_gT ?_ | refine hl_gF ?_ | refine hl_gd (fun h => ?_) (fun h => ?_) | refine hx_next ?_ | refine hw_seq ?_ | refine hw_region ?_ | refine hw_block ?_ | refine hx_block ?_ | refine hw_tt ?_ | refine hw_ff ?_ | refine hw_iT ?_ | refine hw_iF ?_ | refine hw_skip ?_ | refine hw_ret ?_ | refine hw_exit ?_ | refine hx_then_ret ?_ | refine hx_block_ret ?_ | refine hx_then_exit ?_ | refine hx_block_here ?_ | refine hx_far ?_ | refine hx_any ?_ | (apply ha_end; decide +kernel))
      refine hw_g [rBlk b #[.int .i64 (n : Int), .int .i64 tot, v] 33, rBlk b' #[.int .i64 (n : Int), .int .i64 tot', v'] 33] 16 (by kernel_rfl) ?_
      first | refine hg_t 0 ?_ | refine hg_tn 0 ?_
      first | refine hg_t 1 ?_ | refine hg_tn 1 ?_
      first | refine hg_t 2 ?_ | refine hg_tn 2 ?_
      first | refine hg_t 3 ?_ | refine hg_tn 3 ?_
      first | refine hg_t 4 ?_ | refine hg_tn 4 ?_
      first | refine hg_t 5 ?_ | refine hg_tn 5 ?_
      first | refine hg_t 6 ?_ | refine hg_tn 6 ?_
      first | refine hg_t 7 ?_ | refine hg_tn 7 ?_
      first | refine hg_t 8 ?_ | refine hg_tn 8 ?_
      first | refine hg_t 9 ?_ | refine hg_tn 9 ?_
      first | refine hg_t 10 ?_ | refine hg_tn 10 ?_
      first | refine hg_t 11 ?_ | refine hg_tn 11 ?_
      first | refine hg_t 12 ?_ | refine hg_tn 12 ?_
      refine hg_t 13 ?_ (hq := by exact q_bld [(0, .int .i64 (ks.getD i 0 * ls.getD k 0))] #[.int .i64 (ks.getD i 0 * ls.getD k 0), .slice none 0 0] rfl (by kernel_rfl))
      refine hg_1 14 (by decide +kernel) rfl ?_
      refine hl_alloc (by decide) (fun bz => ?_)
      refine hl_nil ?_
      refine hx_hg (by first | exact fun w hm => hm.none | exact fun w hm => Mem.keep _ hm) ?_
      refine hg_1 15 (by decide +kernel) rfl ?_
      refine hl_storeA 6 rfl rfl rfl rfl rfl (mp_one nil_ok) ?_
      refine hl_nil ?_
      refine hx_hg (by first | exact fun w hm => hm.none | exact fun w hm => Mem.keep _ hm) ?_
      refine hg_end (by decide +kernel) ?_
      refine hx_mem (fun w hm => (hm.pick (rs' := [_, _, _, _, _, _, _]) [0, 1, 2, 6, 3, 4, 5] (by simp) rfl).nilE 2 (Value.int .i64)) ?_
      repeat' (first | refine hl_a ?_ | refine hq_a ?_ | refine hl_nil ?_ | refine hq_nil ?_ | refine hq_ga ?_ | refine hq_sk ?_ | refine hq_su ?_ | refine hq_gT ?_ | refine hq_gF ?_ | refine hq_gd (fun h => ?_) (fun h => ?_) | refine hl_ga ?_ | refine hl_sk ?_ | refine hl_su ?_ | refine hl_gT ?_ | refine hl_gF ?_ | refine hl_gd (fun h => ?_) (fun h => ?_) | refine hx_next ?_ | refine hw_seq ?_ | refine hw_region ?_ | refine hw_block ?_ | refine hx_block ?_ | refine hw_tt ?_ | refine hw_ff ?_ | refine hw_iT ?_ | refine hw_iF ?_ | refine hw_skip ?_ | refine hw_ret ?_ | refine hw_exit ?_ | refine hx_then_ret ?_ | refine hx_block_ret ?_ | refine hx_then_exit ?_ | refine hx_block_here ?_ | refine hx_far ?_ | refine hx_any ?_ | (apply ha_end; decide +kernel))
      refine hw_loop (fun e r m => ∃ (s : Nat) (x : Value), r = [rBlk b #[.int .i64 (n : Int), .int .i64 tot, v] 33, rBlk b' #[.int .i64 (n : Int), .int .i64 tot', v'] 33, rBlk b1 #[.int .i64 (n : Int), .int .i64 (tot * tot'), u] 33, rBlk bz #[.int .i64 (ks.getD i 0 * ls.getD k 0), x] 92, rBlk b0 #[.int .i64 0, .int .i64 0, .slice none 0 0] 33, rOwn 92 2 u (i * yss.length + k) (cells2 (thK ks ls yss.length (i * yss.length + k)) us), rStar (rRow 2 (Value.int .i64) us (thX n xss yss yss.length (i * yss.length + k))), rE 2 (Value.int .i64) x (thR s xss yss i k)] ∧ SlOk x s ∧ s ≤ n ∧ m = n - s ∧ e = [(2, .pointer (some ⟨b, 0, none⟩)), (3, .pointer (some ⟨b', 0, none⟩)), (4, .pointer (some ⟨b0, 0, none⟩)), (6, .pointer (some ⟨b1, 0, none⟩)), (7, .int .i64 (i : Int)), (8, .int .i64 (k : Int)), (9, .pointer (some ⟨bz, 0, none⟩)), (10, .int .i64 (s : Int))])
        ⟨0, _, rfl, nil_ok, Nat.zero_le _, rfl, rfl⟩ ⟨rfl, rfl, rfl, rfl, rfl, rfl, rfl, rfl, trivial⟩ ?_
      rintro _ _ _ ⟨s, x, rfl, hx, hs, rfl, rfl⟩
      repeat' (first | refine hl_a ?_ | refine hq_a ?_ | refine hl_nil ?_ | refine hq_nil ?_ | refine hq_ga ?_ | refine hq_sk ?_ | refine hq_su ?_ | refine hq_gT ?_ | refine hq_gF ?_ | refine hq_gd (fun h => ?_) (fun h => ?_) | refine hl_ga ?_ | refine hl_sk ?_ | refine hl_su ?_ | refine hl_gT ?_ | refine hl_gF ?_ | refine hl_gd (fun h => ?_) (fun h => ?_) | refine hx_next ?_ | refine hw_seq ?_ | refine hw_region ?_ | refine hw_dr ?_ | refine hw_block ?_ | refine hx_block ?_ | refine hw_tt ?_ | refine hw_ff ?_ | refine hw_iT ?_ | refine hw_iF ?_ | refine hw_skip ?_ | refine hw_ret ?_ | refine hw_exit ?_ | refine hx_then_ret ?_ | refine hx_block_ret ?_ | refine hx_then_exit ?_ | refine hx_block_here ?_ | refine hx_far ?_ | refine hx_any ?_ | (apply ha_end; decide +kernel))
      refine hw_if rfl (fun hlt3 => ?_) (fun hge3 => ?_)
      · have hs2 : s < n := by omega
        have hs3 : s < (xss.getD i []).length := by omega
        have ca : w.cell? (vAt (row i) s) = some (.int .i64 (mAt xss i s)) := hri.get s hs3
        have hma := hv.at i s hi2 (by omega)
        obtain ⟨a, ha⟩ := nat_of hma.1
        rw [ha] at ca hma
        have ha2 : a < (yss.getD k []).length := by omega
        have cb : w.cell? (vAt (row' k) a) = some (.int .i64 (mAt yss k a)) := hrk.get a ha2
        have hzl : (thR s xss yss i k).length = s := tab_length _ _
        repeat' (first | refine hl_a ?_ | refine hq_a ?_ | refine hl_nil ?_ | refine hq_nil ?_ | refine hq_ga ?_ | refine hq_sk ?_ | refine hq_su ?_ | refine hq_gT ?_ | refine hq_gF ?_ | refine hq_gd (fun h => ?_) (fun h => ?_) | refine hl_ga ?_ | refine hl_sk ?_ | refine hl_su ?_ | refine hl_gT ?_ | refine hl_gF ?_ | refine hl_gd (fun h => ?_) (fun h => ?_) | refine hx_next ?_ | refine hw_seq ?_ | refine hw_region ?_ | refine hw_block ?_ | refine hx_block ?_ | refine hw_tt ?_ | refine hw_ff ?_ | refine hw_iT ?_ | refine hw_iF ?_ | refine hw_skip ?_ | refine hw_ret ?_ | refine hw_exit ?_ | refine hx_then_ret ?_ | refine hx_block_ret ?_ | refine hx_then_exit ?_ | refine hx_block_here ?_ | refine hx_far ?_ | refine hx_any ?_ | (apply ha_end; decide +kernel))
        refine hw_g [rBlk b #[.int .i64 (n : Int), .int .i64 tot, v] 33, rBlk b' #[.int .i64 (n : Int), .int .i64 tot', v'] 33, rBlk b1 #[.int .i64 (n : Int), .int .i64 (tot * tot'), u] 33, rBlk bz #[.int .i64 (ks.getD i 0 * ls.getD k 0), x] 92] 20 (by kernel_rfl) ?_
        first | refine hg_t 0 ?_ | refine hg_tn 0 ?_
        first | refine hg_t 1 ?_ | refine hg_tn 1 ?_
        first | refine hg_t 2 ?_ | refine hg_tn 2 ?_
        first | refine hg_t 3 ?_ | refine hg_tn 3 ?_
        first | refine hg_t 4 ?_ | refine hg_tn 4 ?_
        first | refine hg_t 5 ?_ | refine hg_tn 5 ?_
        first | refine hg_t 6 ?_ | refine hg_tn 6 ?_
        first | refine hg_t 7 ?_ | refine hg_tn 7 ?_
        first | refine hg_t 8 ?_ | refine hg_tn 8 ?_
        first | refine hg_t 9 ?_ | refine hg_tn 9 ?_
        first | refine hg_t 10 ?_ | refine hg_tn 10 ?_
        first | refine hg_t 11 ?_ | refine hg_tn 11 ?_
        first | refine hg_t 12 ?_ | refine hg_tn 12 ?_
        first | refine hg_t 13 ?_ | refine hg_tn 13 ?_
        first | refine hg_t 14 ?_ | refine hg_tn 14 ?_
        first | refine hg_t 15 ?_ | refine hg_tn 15 ?_
        first | refine hg_t 16 ?_ | refine hg_tn 16 ?_
        first | refine hg_t 17 ?_ | refine hg_tn 17 ?_
        first | refine hg_t 18 ?_ | refine hg_tn 18 ?_
        refine hg_1 19 (by decide +kernel) rfl ?_
        refine hl_build1 (by decide) rfl rfl rfl (fun b3 => ?_)
        refine hl_nil ?_
        refine hx_hg (by first | exact fun w hm => hm.none | exact fun w hm => Mem.keep _ hm) ?_
        refine hg_1 20 (by decide +kernel) rfl ?_
        refine hl_appE 7 8 (mAt yss k a) rfl rfl (by decide) rfl rfl rfl (by rw [hzl]; omega) (by decide) (fun x2 hx2 => ?_)
        refine hl_nil ?_
        refine hx_hgT rfl ?_
        refine hg_1 21 (by decide +kernel) rfl ?_
        refine hl_a ?_
        refine hl_nil ?_
        refine hx_hgT rfl ?_
        refine hg_1 22 (by decide +kernel) rfl ?_
        refine hl_storeB 3 rfl rfl rfl rfl rfl hx2.one ?_
        refine hl_nil ?_
        refine hx_hgT rfl ?_
        refine hg_end (by decide +kernel) ?_
        repeat' (first | refine hl_a ?_ | refine hq_a ?_ | refine hl_nil ?_ | refine hq_nil ?_ | refine hq_ga ?_ | refine hq_sk ?_ | refine hq_su ?_ | refine hq_gT ?_ | refine hq_gF ?_ | refine hq_gd (fun h => ?_) (fun h => ?_) | refine hl_ga ?_ | refine hl_sk ?_ | refine hl_su ?_ | refine hl_gT ?_ | refine hl_gF ?_ | refine hl_gd (fun h => ?_) (fun h => ?_) | refine hx_next ?_ | refine hw_seq ?_ | refine hw_region ?_ | refine hw_block ?_ | refine hx_block ?_ | refine hw_tt ?_ | refine hw_ff ?_ | refine hw_iT ?_ | refine hw_iF ?_ | refine hw_skip ?_ | refine hw_ret ?_ | refine hw_exit ?_ | refine hx_then_ret ?_ | refine hx_block_ret ?_ | refine hx_then_exit ?_ | refine hx_block_here ?_ | refine hx_far ?_ | refine hx_any ?_ | (apply ha_end; decide +kernel))
        refine hx_mem (fun w hm => Mem.keep [_, _, _, _, _, _, _, _] hm) ?_
        refine hx_round ⟨s + 1, x2, ?_, ?_, hs2, rfl, rfl⟩ (by omega) ⟨rfl, rfl, rfl, rfl, rfl, rfl, rfl, rfl, trivial⟩
        · rw [show thR (s + 1) xss yss i k = thR s xss yss i k ++ [mAt yss k a] from by rw [thR, tab_succ, ha, Int.toNat_natCast]; rfl]; rfl
        · rw [hzl] at hx2; exact hx2
      · have e : s = n := by omega
        subst e
        repeat' (first | refine hl_a ?_ | refine hq_a ?_ | refine hl_nil ?_ | refine hq_nil ?_ | refine hq_ga ?_ | refine hq_sk ?_ | refine hq_su ?_ | refine hq_gT ?_ | refine hq_gF ?_ | refine hq_gd (fun h => ?_) (fun h => ?_) | refine hl_ga ?_ | refine hl_sk ?_ | refine hl_su ?_ | refine hl_gT ?_ | refine hl_gF ?_ | refine hl_gd (fun h => ?_) (fun h => ?_) | refine hx_next ?_ | refine hw_seq ?_ | refine hw_region ?_ | refine hw_dr ?_ | refine hw_block ?_ | refine hx_block ?_ | refine hw_tt ?_ | refine hw_ff ?_ | refine hw_iT ?_ | refine hw_iF ?_ | refine hw_skip ?_ | refine hw_ret ?_ | refine hw_exit ?_ | refine hx_then_ret ?_ | refine hx_block_ret ?_ | refine hx_then_exit ?_ | refine hx_block_here ?_ | refine hx_far ?_ | refine hx_any ?_ | (apply ha_end; decide +kernel))
        refine hl_pushS 5 rfl (by decide) (by decide) rfl rfl hx.one rfl (fun b => rfl) (by omega) (by decide) (fun u' b2 hu' => ?_)
        repeat' (first | refine hl_a ?_ | refine hq_a ?_ | refine hl_nil ?_ | refine hq_nil ?_ | refine hq_ga ?_ | refine hq_sk ?_ | refine hq_su ?_ | refine hq_gT ?_ | refine hq_gF ?_ | refine hq_gd (fun h => ?_) (fun h => ?_) | refine hl_ga ?_ | refine hl_sk ?_ | refine hl_su ?_ | refine hl_gT ?_ | refine hl_gF ?_ | refine hl_gd (fun h => ?_) (fun h => ?_) | refine hx_next ?_ | refine hw_seq ?_ | refine hw_region ?_ | refine hw_dr ?_ | refine hw_block ?_ | refine hx_block ?_ | refine hw_tt ?_ | refine hw_ff ?_ | refine hw_iT ?_ | refine hw_iF ?_ | refine hw_skip ?_ | refine hw_ret ?_ | refine hw_exit ?_ | refine hx_then_ret ?_ | refine hx_block_ret ?_ | refine hx_then_exit ?_ | refine hx_block_here ?_ | refine hx_far ?_ | refine hx_any ?_ | (apply ha_end; decide +kernel))
        refine hl_storeB 2 rfl rfl rfl rfl rfl hu'.one ?_
        repeat' (first | refine hl_a ?_ | refine hq_a ?_ | refine hl_nil ?_ | refine hq_nil ?_ | refine hq_ga ?_ | refine hq_sk ?_ | refine hq_su ?_ | refine hq_gT ?_ | refine hq_gF ?_ | refine hq_gd (fun h => ?_) (fun h => ?_) | refine hl_ga ?_ | refine hl_sk ?_ | refine hl_su ?_ | refine hl_gT ?_ | refine hl_gF ?_ | refine hl_gd (fun h => ?_) (fun h => ?_) | refine hx_next ?_ | refine hw_seq ?_ | refine hw_region ?_ | refine hw_dr ?_ | refine hw_block ?_ | refine hx_block ?_ | refine hw_tt ?_ | refine hw_ff ?_ | refine hw_iT ?_ | refine hw_iF ?_ | refine hw_skip ?_ | refine hw_ret ?_ | refine hw_exit ?_ | refine hx_then_ret ?_ | refine hx_block_ret ?_ | refine hx_then_exit ?_ | refine hx_block_here ?_ | refine hx_far ?_ | refine hx_any ?_ | (apply ha_end; decide +kernel))
        refine hx_mem (rs' := [rBlk b #[.int .i64 (s : Int), .int .i64 tot, v] 33, rBlk b' #[.int .i64 (s : Int), .int .i64 tot', v'] 33, rBlk b1 #[.int .i64 (s : Int), .int .i64 (tot * tot'), u'] 33, rBlk b0 #[.int .i64 0, .int .i64 0, .slice none 0 0] 33, rOwn 92 2 u' (i * yss.length + (k + 1)) (cells2 (thK ks ls yss.length (i * yss.length + (k + 1))) (us ++ [x])), rStar (rRow 2 (Value.int .i64) (us ++ [x]) (thX s xss yss yss.length (i * yss.length + (k + 1))))]) (fun w hm => ?_) ?_
        · rw [thK_succ _ _ i hk2, thX_succ _ _ _ i hk2, cells2_snoc _ _ _ _ (by rw [thK_length]; exact hus.symm), rRow_snoc _ _ _ _ (by rw [thX_length]; exact hus)]
          exact Mem.pack [_, _, _, _, _] (hm.pick (rs' := [_, _, _, _, _, _, _]) [0, 1, 2, 4, 5, 6, 7] (by simp) rfl)
        · exact hx_round ⟨k + 1, u', us ++ [x], rfl, by simp [hus]; omega, hk2, rfl, rfl⟩ (by omega) ⟨rfl, rfl, rfl, rfl, rfl, rfl, trivial⟩
    · have e : k = yss.length := by omega
      subst e
      repeat' (first | refine hl_a ?_ | refine hq_a ?_ | refine hl_nil ?_ | refine hq_nil ?_ | refine hq_ga ?_ | refine hq_sk ?_ | refine hq_su ?_ | refine hq_gT ?_ | refine hq_gF ?_ | refine hq_gd (fun h => ?_) (fun h => ?_) | refine hl_ga ?_ | refine hl_sk ?_ | refine hl_su ?_ | refine hl_gT ?_ | refine hl_gF ?_ | refine hl_gd (fun h => ?_) (fun h => ?_) | refine hx_next ?_ | refine hw_seq ?_ | refine hw_region ?_ | refine hw_dr ?_ | refine hw_block ?_ | refine hx_block ?_ | refine hw_tt ?_ | refine hw_ff ?_ | refine hw_iT ?_ | refine hw_iF ?_ | refine hw_skip ?_ | refine hw_ret ?_ | refine hw_exit ?_ | refine hx_then_ret ?_ | refine hx_block_ret ?_ | refine hx_then_exit ?_ | refine hx_block_here ?_ | refine hx_far ?_ | refine hx_any ?_ | (apply ha_end; decide +kernel))
      have e2 : i * yss.length + yss.length = (i + 1) * yss.length + 0 := by rw [Nat.succ_mul]; rfl
      rw [e2]
      rw [e2] at hus
      exact hx_round ⟨i + 1, u, us, rfl, hus, hi2, rfl, rfl⟩ (by omega) ⟨rfl, rfl, rfl, rfl, rfl, trivial⟩
  · have e : i = xss.length := by omega
    subst e
    refine hw_own 4 rfl (fun hu => ?_)
    rw [Nat.add_zero] at hu hus
    refine hw_mem (rs' := [_, _, _, _, rMaps 92 2 u us (thK ks ls yss.length (xss.length * yss.length)) (thX n xss yss yss.length (xss.length * yss.length))]) (fun w hm => hm.maps [_, _, _, _] [0, 1, 2, 3] 4 5 hus.symm (by decide) rfl rfl rfl) ?_
    repeat' (first | refine hl_a ?_ | refine hq_a ?_ | refine hl_nil ?_ | refine hq_nil ?_ | refine hq_ga ?_ | refine hq_sk ?_ | refine hq_su ?_ | refine hq_gT ?_ | refine hq_gF ?_ | refine hq_gd (fun h => ?_) (fun h => ?_) | refine hl_ga ?_ | refine hl_sk ?_ | refine hl_su ?_ | refine hl_gT ?_ | refine hl_gF ?_ | refine hl_gd (fun h => ?_) (fun h => ?_) | refine hx_next ?_ | refine hw_seq ?_ | refine hw_region ?_ | refine hw_dr ?_ | refine hw_block ?_ | refine hx_block ?_ | refine hw_tt ?_ | refine hw_ff ?_ | refine hw_iT ?_ | refine hw_iF ?_ | refine hw_skip ?_ | refine hw_ret ?_ | refine hw_exit ?_ | refine hx_then_ret ?_ | refine hx_block_ret ?_ | refine hx_then_exit ?_ | refine hx_block_here ?_ | refine hx_far ?_ | refine hx_any ?_ | (apply ha_end; decide +kernel))
    first | refine hl_q (by decide) (q_call (fun w hm => l05Ok_b 2 rfl hm _ _ _ (hm.rdM 4 rfl (by rw [thX_length]; exact hus) (by rw [thK_length, thX_length]))) rfl) ?_ | refine hq_q (by decide) (q_call (fun w hm => l05Ok_b 2 rfl hm _ _ _ (hm.rdM 4 rfl (by rw [thX_length]; exact hus) (by rw [thK_length, thX_length]))) rfl) ?_ | refine hl_g _ _ rfl rfl (by decide) (q_call (fun w hm => l05Ok_b 2 rfl hm _ _ _ (hm.rdM 4 rfl (by rw [thX_length]; exact hus) (by rw [thK_length, thX_length]))) rfl) ?_ | refine hq_g _ _ rfl rfl (by decide) (q_call (fun w hm => l05Ok_b 2 rfl hm _ _ _ (hm.rdM 4 rfl (by rw [thX_length]; exact hus) (by rw [thK_length, thX_length]))) rfl) ?_
    repeat' (first | refine hl_a ?_ | refine hq_a ?_ | refine hl_nil ?_ | refine hq_nil ?_ | refine hq_ga ?_ | refine hq_sk ?_ | refine hq_su ?_ | refine hq_gT ?_ | refine hq_gF ?_ | refine hq_gd (fun h => ?_) (fun h => ?_) | refine hl_ga ?_ | refine hl_sk ?_ | refine hl_su ?_ | refine hl_gT ?_ | refine hl_gF ?_ | refine hl_gd (fun h => ?_) (fun h => ?_) | refine hx_next ?_ | refine hw_seq ?_ | refine hw_region ?_ | refine hw_dr ?_ | refine hw_block ?_ | refine hx_block ?_ | refine hw_tt ?_ | refine hw_ff ?_ | refine hw_iT ?_ | refine hw_iF ?_ | refine hw_skip ?_ | refine hw_ret ?_ | refine hw_exit ?_ | refine hx_then_ret ?_ | refine hx_block_ret ?_ | refine hx_then_exit ?_ | refine hx_block_here ?_ | refine hx_far ?_ | refine hx_any ?_ | (apply ha_end; decide +kernel))
    refine hw_if rfl (fun h5 => ?_) (fun h5 => ?_)
    · have hle3 : thM (n : Int) tot ks xss n tot' ls yss = pErr 3 := by rw [thM, if_pos ⟨hv, hv'⟩, if_pos rfl, if_neg (fun e => h5 (hval.2 e))]
      repeat' (first | refine hl_a ?_ | refine hq_a ?_ | refine hl_nil ?_ | refine hq_nil ?_ | refine hq_ga ?_ | refine hq_sk ?_ | refine hq_su ?_ | refine hq_gT ?_ | refine hq_gF ?_ | refine hq_gd (fun h => ?_) (fun h => ?_) | refine hl_ga ?_ | refine hl_sk ?_ | refine hl_su ?_ | refine hl_gT ?_ | refine hl_gF ?_ | refine hl_gd (fun h => ?_) (fun h => ?_) | refine hx_next ?_ | refine hw_seq ?_ | refine hw_region ?_ | refine hw_dr ?_ | refine hw_block ?_ | refine hx_block ?_ | refine hw_tt ?_ | refine hw_ff ?_ | refine hw_iT ?_ | refine hw_iF ?_ | refine hw_skip ?_ | refine hw_ret ?_ | refine hw_exit ?_ | refine hx_then_ret ?_ | refine hx_block_ret ?_ | refine hx_then_exit ?_ | refine hx_block_here ?_ | refine hx_far ?_ | refine hx_any ?_ | (apply ha_end; decide +kernel) | (apply hl_q; decide; (first | exact q_bld [] #[.int .i64 0, .int .i64 0, .slice none 0 0] rfl (by kernel_rfl))) | (apply hq_q; decide; (first | exact q_bld [] #[.int .i64 0, .int .i64 0, .slice none 0 0] rfl (by kernel_rfl))) | (apply hq_g; rfl; rfl; decide; (first | exact q_bld [] #[.int .i64 0, .int .i64 0, .slice none 0 0] rfl (by kernel_rfl))) | (apply hl_g; rfl; rfl; decide; (first | exact q_bld [] #[.int .i64 0, .int .i64 0, .slice none 0 0] rfl (by kernel_rfl))))
      refine hl_storeA 3 rfl rfl rfl rfl rfl (chV_one nil_ok) ?_
      repeat' (first | refine hl_a ?_ | refine hq_a ?_ | refine hl_nil ?_ | refine hq_nil ?_ | refine hq_ga ?_ | refine hq_sk ?_ | refine hq_su ?_ | refine hq_gT ?_ | refine hq_gF ?_ | refine hq_gd (fun h => ?_) (fun h => ?_) | refine hl_ga ?_ | refine hl_sk ?_ | refine hl_su ?_ | refine hl_gT ?_ | refine hl_gF ?_ | refine hl_gd (fun h => ?_) (fun h => ?_) | refine hx_next ?_ | refine hw_seq ?_ | refine hw_region ?_ | refine hw_dr ?_ | refine hw_block ?_ | refine hx_block ?_ | refine hw_tt ?_ | refine hw_ff ?_ | refine hw_iT ?_ | refine hw_iF ?_ | refine hw_skip ?_ | refine hw_ret ?_ | refine hw_exit ?_ | refine hx_then_ret ?_ | refine hx_block_ret ?_ | refine hx_then_exit ?_ | refine hx_block_here ?_ | refine hx_far ?_ | refine hx_any ?_ | (apply ha_end; decide +kernel))
      exact hx_retBt 3 rfl rfl rfl rfl rfl (fun w hm => ⟨_, _, rfl, maps_nil 92 2 hm.none, by rw [hle3]; exact mpErr _ _ _ rfl⟩)
    · have hM : thM (n : Int) tot ks xss n tot' ls yss = ⟨n, tot * tot', thK ks ls yss.length (xss.length * yss.length), thX n xss yss yss.length (xss.length * yss.length), 0⟩ := by
        rw [thM, if_pos ⟨hv, hv'⟩, if_pos rfl, if_pos (hval.1 (Classical.not_not.1 h5)), Int.toNat_natCast]
      repeat' (first | refine hl_a ?_ | refine hq_a ?_ | refine hl_nil ?_ | refine hq_nil ?_ | refine hq_ga ?_ | refine hq_sk ?_ | refine hq_su ?_ | refine hq_gT ?_ | refine hq_gF ?_ | refine hq_gd (fun h => ?_) (fun h => ?_) | refine hl_ga ?_ | refine hl_sk ?_ | refine hl_su ?_ | refine hl_gT ?_ | refine hl_gF ?_ | refine hl_gd (fun h => ?_) (fun h => ?_) | refine hx_next ?_ | refine hw_seq ?_ | refine hw_region ?_ | refine hw_dr ?_ | refine hw_block ?_ | refine hx_block ?_ | refine hw_tt ?_ | refine hw_ff ?_ | refine hw_iT ?_ | refine hw_iF ?_ | refine hw_skip ?_ | refine hw_ret ?_ | refine hw_exit ?_ | refine hx_then_ret ?_ | refine hx_block_ret ?_ | refine hx_then_exit ?_ | refine hx_block_here ?_ | refine hx_far ?_ | refine hx_any ?_ | (apply ha_end; decide +kernel))
      refine hl_storeA 3 rfl rfl rfl rfl rfl (chV_one hu) ?_
      repeat' (first | refine hl_a ?_ | refine hq_a ?_ | refine hl_nil ?_ | refine hq_nil ?_ | refine hq_ga ?_ | refine hq_sk ?_ | refine hq_su ?_ | refine hq_gT ?_ | refine hq_gF ?_ | refine hq_gd (fun h => ?_) (fun h => ?_) | refine hl_ga ?_ | refine hl_sk ?_ | refine hl_su ?_ | refine hl_gT ?_ | refine hl_gF ?_ | refine hl_gd (fun h => ?_) (fun h => ?_) | refine hx_next ?_ | refine hw_seq ?_ | refine hw_region ?_ | refine hw_dr ?_ | refine hw_block ?_ | refine hx_block ?_ | refine hw_tt ?_ | refine hw_ff ?_ | refine hw_iT ?_ | refine hw_iF ?_ | refine hw_skip ?_ | refine hw_ret ?_ | refine hw_exit ?_ | refine hx_then_ret ?_ | refine hx_block_ret ?_ | refine hx_then_exit ?_ | refine hx_block_here ?_ | refine hx_far ?_ | refine hx_any ?_ | (apply ha_end; decide +kernel))
      exact hx_retBt 3 rfl rfl rfl rfl rfl (fun w hm => ⟨_, _, rfl, hm.lone 4 rfl, by rw [hM]; exact ⟨u, us, rfl, rfl, by simp only [thX_length]; exact hus, by simp only [thX_length]; exact hu⟩⟩)
end Go.Proofs.Yteddlbgbakbpeaa
