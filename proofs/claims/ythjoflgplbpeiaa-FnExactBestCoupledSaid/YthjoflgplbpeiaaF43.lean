/- Contracts: ApartCoupled, StairCoupled, BestCoupled. -/
import Derived.Test.YthjoflgplbpeiaaF42
namespace Go.Proofs.Ythjoflgplbpeiaa
open Go.Eng Go.RowKit
set_option linter.unusedVariables false

/-! the three ways -/
def rowS (xss : List (List Int)) (s t : Nat) : List Int := stG xss.length (2 * xss.length) 0 0 (xss.getD s []) (xss.getD t []) (zer (xss.length * xss.length))
def apL (n : Nat) (a b : List Int) (J : Nat) : List Int := tab (n * n) fun k => if k < J then a.getD (k / n) 0 * b.getD (k % n) 0 else 0
def rowA (xss : List (List Int)) (s t : Nat) : List Int := apL xss.length (xss.getD s []) (xss.getD t []) (xss.length * xss.length)
theorem apL_length (n : Nat) (a b : List Int) (J : Nat) : (apL n a b J).length = n * n := tab_length _ _
theorem apL_0 (n : Nat) (a b : List Int) : apL n a b 0 = zer (n * n) := tab_congr _ _ _ fun k _ => by rw [if_neg (by omega)]
theorem apL_getD (n : Nat) (a b : List Int) (J : Nat) (h : J < n * n) : (apL n a b J).getD J 0 = 0 := by rw [apL, tab_getD _ _ _ _ h, if_neg (by omega)]
theorem apL_set (n : Nat) (a b : List Int) (u v : Nat) (hv : v < n) (h : u * n + v < n * n) : (apL n a b (u * n + v)).set (u * n + v) (a.getD u 0 * b.getD v 0) = apL n a b (u * n + (v + 1)) := by
  unfold apL
  rw [tab_set]
  refine tab_congr _ _ _ fun k hk => ?_
  by_cases e : k = u * n + v
  · subst e; rw [if_pos rfl, if_pos (by omega), (dvC u hv).1, (dvC u hv).2]
  · rw [if_neg e]
    by_cases h1 : k < u * n + v
    · rw [if_pos h1, if_pos (by omega)]
    · rw [if_neg h1, if_neg (by omega)]
theorem apL_add (n : Nat) (a b : List Int) (u v : Nat) (hv : v < n) (h : u * n + v < n * n) : addAt n (apL n a b (u * n + v)) u v (a.getD u 0 * b.getD v 0) = apL n a b (u * n + (v + 1)) := by
  unfold addAt
  rw [apL_getD _ _ _ _ h, Int.zero_add, apL_set n a b u v hv h]
/-- What is the same in both rows, taken out first. -/
def bsA (n : Nat) (a b : List Int) : Nat → List Int × List Int × List Int
  | 0 => (a, b, zer (n * n))
  | k + 1 =>
    ((bsA n a b k).1.set k ((bsA n a b k).1.getD k 0 - mnI ((bsA n a b k).1.getD k 0) ((bsA n a b k).2.1.getD k 0)),
     (bsA n a b k).2.1.set k ((bsA n a b k).2.1.getD k 0 - mnI ((bsA n a b k).1.getD k 0) ((bsA n a b k).2.1.getD k 0)),
     addAt n (bsA n a b k).2.2 k k (mnI ((bsA n a b k).1.getD k 0) ((bsA n a b k).2.1.getD k 0)))
def rowB (xss : List (List Int)) (s t : Nat) : List Int :=
  stG xss.length (2 * xss.length) 0 0 (bsA xss.length (xss.getD s []) (xss.getD t []) xss.length).1 (bsA xss.length (xss.getD s []) (xss.getD t []) xss.length).2.1 (bsA xss.length (xss.getD s []) (xss.getD t []) xss.length).2.2
structure BsOk (n k : Nat) (p : List Int × List Int × List Int) : Prop where
  l1 : p.1.length = n
  l2 : p.2.1.length = n
  l3 : p.2.2.length = n * n
  b1 : Bd 60 p.1
  b2 : Bd 60 p.2.1
  b3 : Bd 60 p.2.2
  z : ∀ i, k * n ≤ i → p.2.2.getD i 0 = 0
theorem bsA_ok {n : Nat} {a b : List Int} (ha : a.length = n) (hb : b.length = n) (h1 : Bd 60 a) (h2 : Bd 60 b) : ∀ k, k ≤ n → BsOk n k (bsA n a b k)
  | 0, _ => ⟨ha, hb, zer_length _, h1, h2, bd_zer _ _ (by decide), fun i _ => zer_getD _ _⟩
  | k + 1, hk => by
    have ih := bsA_ok ha hb h1 h2 k (by omega)
    have hw := mnI_bd (ih.b1 k) (ih.b2 k)
    have c1 := ih.b1 k
    have c2 := ih.b2 k
    have hi : k * n + k < n * n := idx_lt (show k < n by omega) (show k < n by omega)
    have hz : (bsA n a b k).2.2.getD (k * n + k) 0 = 0 := ih.z _ (by omega)
    refine ⟨by simp [bsA, ih.l1], by simp [bsA, ih.l2], by simp only [bsA, addAt_length]; exact ih.l3, ih.b1.set (by omega) _, ih.b2.set (by omega) _, ?_, fun i hi2 => ?_⟩
    · exact ih.b3.set (by rw [hz]; omega) _
    · rw [Nat.succ_mul] at hi2
      show (addAt n _ k k _).getD i 0 = 0
      unfold addAt
      rw [setD _ _ _ _ (by rw [ih.l3]; exact hi), if_neg (by omega)]
      exact ih.z i (by omega)
theorem rowS_length (xss : List (List Int)) (s t : Nat) : (rowS xss s t).length = xss.length * xss.length := by rw [rowS, stG_length, zer_length]
theorem bsA_len (n : Nat) (a b : List Int) : ∀ k, (bsA n a b k).2.2.length = n * n
  | 0 => zer_length _
  | k + 1 => by show (addAt n _ k k _).length = _; rw [addAt_length]; exact bsA_len n a b k
theorem rowB_length (xss : List (List Int)) (s t : Nat) : (rowB xss s t).length = xss.length * xss.length := by rw [rowB, stG_length, bsA_len]
theorem rowA_length (xss : List (List Int)) (s t : Nat) : (rowA xss s t).length = xss.length * xss.length := apL_length _ _ _ _

section
variable {w0 : World} {pc : Addr} {st tot : Int} {v : Value} {xss : List (List Int)} {row : Nat → Value}
theorem stair1_c (hp : PtC w0 pc st tot v xss row) (hv : Valid st tot xss) (hn : xss.length ≤ 4) (F : Res) (brow bn : Nat) (x : Value) (s t : Nat) (hs : s < xss.length) (ht : t < xss.length) :
    MutF Try.prog 73 [.int .i64 (s : Int), .int .i64 (t : Int), .func (.func 97) #[] #[.pointer (some ⟨brow, 0, none⟩), .pointer (some ⟨bn, 0, none⟩)], .pointer (some pc)] w0 (rPut brow bn x xss.length (zer (xss.length * xss.length))) F (fun v' r' => v' = .tuple #[] ∧ r' = rPut brow bn x xss.length (rowS xss s t)) := by
  refine mutF_hw Try.func73 Try.ntmps73 rfl rfl ?_
  obtain ⟨h0, h1, h2, hr⟩ := hp
  have hsl := hr.sl
  have cs := hr.get s hs
  have ct := hr.get t ht
  have rs' := hr.row s hs
  have rt := hr.row t ht
  repeat' (first | refine hl_a ?_ | refine hq_a ?_ | refine hl_nil ?_ | refine hq_nil ?_ | refine hq_ga ?_ | refine hq_sk ?_ | refine hq_su ?_ | refine hq_gT ?_ | refine hq_gF ?_ | refine hq_gd (fun h => ?_) (fun h => ?_) | refine hl_ga ?_ | refine hl_sk ?_ | refine hl_su ?_ | refine hl_gT ?_ | refine hl_gF ?_ | refine hl_gd (fun h => ?_) (fun h => ?_) | refine hx_next ?_ | refine hw_seq ?_ | refine hw_region ?_ | refine hw_block ?_ | refine hx_block ?_ | refine hw_tt ?_ | refine hw_ff ?_ | refine hw_iT ?_ | refine hw_iF ?_ | refine hw_skip ?_ | refine hw_ret ?_ | refine hw_exit ?_ | refine hx_then_ret ?_ | refine hx_block_ret ?_ | refine hx_then_exit ?_ | refine hx_block_here ?_ | refine hx_far ?_ | refine hx_any ?_ | (apply ha_end; decide +kernel))
  refine hw_g [] 12 (by kernel_rfl) ?_
  first | refine hg_t 0 ?_ | refine hg_tn 0 ?_
  first | refine hg_t 1 ?_ | refine hg_tn 1 ?_
  first | refine hg_t 2 ?_ | refine hg_tn 2 ?_
  first | refine hg_t 3 ?_ | refine hg_tn 3 ?_
  first | refine hg_t 4 ?_ | refine hg_tn 4 ?_
  first | refine hg_t 5 ?_ | refine hg_tn 5 ?_
  first | refine hg_t 6 ?_ | refine hg_tn 6 ?_
  first | refine hg_t 7 ?_ | refine hg_tn 7 ?_
  first | refine hg_t 8 ?_ | refine hg_tn 8 ?_
  first | refine hg_t 9 ?_ | refine hg_tn 9 ?_
  first | refine hg_t 10 ?_ | refine hg_tn 10 ?_
  refine hg_1 11 (by decide +kernel) rfl ?_
  refine hl_mutF 0 rfl (by decide) (stairs_c brow bn x xss.length (zer (xss.length * xss.length)) w0 _ (row s) (row t) (xss.getD s []) (xss.getD t []) (fun w hm => rs'.up hm.below) (fun w hm => rt.up hm.below) (hv.rlen s hs) (hv.rlen t ht) (by omega) hn (hv.bd s hs) (hv.bd t ht) (zer_length _) (bd_zer _ _ (by decide))) rfl ?_
  rintro _ _ ⟨rfl, rfl⟩
  refine hl_nil ?_
  refine hx_hg (by first | exact fun w hm => hm.none | exact fun w hm => Mem.keep _ hm) ?_
  refine hg_end (by decide +kernel) ?_
  repeat' (first | refine hl_a ?_ | refine hq_a ?_ | refine hl_nil ?_ | refine hq_nil ?_ | refine hq_ga ?_ | refine hq_sk ?_ | refine hq_su ?_ | refine hq_gT ?_ | refine hq_gF ?_ | refine hq_gd (fun h => ?_) (fun h => ?_) | refine hl_ga ?_ | refine hl_sk ?_ | refine hl_su ?_ | refine hl_gT ?_ | refine hl_gF ?_ | refine hl_gd (fun h => ?_) (fun h => ?_) | refine hx_next ?_ | refine hw_seq ?_ | refine hw_region ?_ | refine hw_block ?_ | refine hx_block ?_ | refine hw_tt ?_ | refine hw_ff ?_ | refine hw_iT ?_ | refine hw_iF ?_ | refine hw_skip ?_ | refine hw_ret ?_ | refine hw_exit ?_ | refine hx_then_ret ?_ | refine hx_block_ret ?_ | refine hx_then_exit ?_ | refine hx_block_here ?_ | refine hx_far ?_ | refine hx_any ?_ | (apply ha_end; decide +kernel))
  exact hx_end0 rfl (fun w hm => ⟨_, _, rfl, ⟨rfl, rfl⟩, hm⟩)
set_option maxHeartbeats 1000000 in
theorem apart1_c (hp : PtC w0 pc st tot v xss row) (hv : Valid st tot xss) (hn : xss.length ≤ 4) (F : Res) (brow bn : Nat) (x : Value) (s t : Nat) (hs : s < xss.length) (ht : t < xss.length) :
    MutF Try.prog 67 [.int .i64 (s : Int), .int .i64 (t : Int), .func (.func 97) #[] #[.pointer (some ⟨brow, 0, none⟩), .pointer (some ⟨bn, 0, none⟩)], .pointer (some pc)] w0 (rPut brow bn x xss.length (zer (xss.length * xss.length))) F (fun v' r' => v' = .tuple #[] ∧ r' = rPut brow bn x xss.length (rowA xss s t)) := by
  refine mutF_hw Try.func67 Try.ntmps67 rfl rfl ?_
  obtain ⟨h0, h1, h2, hr⟩ := hp
  have hsl := hr.sl
  have cs := hr.get s hs
  have ct := hr.get t ht
  have rs' := hr.row s hs
  have rt := hr.row t ht
  have ss := rs'.sl
  have st' := rt.sl
  have l1 := hv.rlen s hs
  have l2 := hv.rlen t ht
  rw [l1] at ss
  rw [l2] at st'
  repeat' (first | refine hl_a ?_ | refine hq_a ?_ | refine hl_nil ?_ | refine hq_nil ?_ | refine hq_ga ?_ | refine hq_sk ?_ | refine hq_su ?_ | refine hq_gT ?_ | refine hq_gF ?_ | refine hq_gd (fun h => ?_) (fun h => ?_) | refine hl_ga ?_ | refine hl_sk ?_ | refine hl_su ?_ | refine hl_gT ?_ | refine hl_gF ?_ | refine hl_gd (fun h => ?_) (fun h => ?_) | refine hx_next ?_ | refine hw_seq ?_ | refine hw_region ?_ | refine hw_dr ?_ | refine hw_block ?_ | refine hx_block ?_ | refine hw_tt ?_ | refine hw_ff ?_ | refine hw_iT ?_ | refine hw_iF ?_ | refine hw_skip ?_ | refine hw_ret ?_ | refine hw_exit ?_ | refine hx_then_ret ?_ | refine hx_block_ret ?_ | refine hx_then_exit ?_ | refine hx_block_here ?_ | refine hx_far ?_ | refine hx_any ?_ | (apply ha_end; decide +kernel))
  refine hw_loop (fun e r m => ∃ u : Nat, r = [rPut brow bn x xss.length (apL xss.length (xss.getD s []) (xss.getD t []) (u * xss.length + 0)), F] ∧ u ≤ xss.length ∧ m = xss.length - u ∧ e = [(1, .int .i64 (t : Int)), (2, .func (.func 97) #[] #[.pointer (some ⟨brow, 0, none⟩), .pointer (some ⟨bn, 0, none⟩)]), (3, .pointer (some pc)), (15, row s), (16, .int .i64 (xss.length : Int)), (17, .int .i64 (u : Int))])
    ⟨0, by rw [show 0 * xss.length + 0 = 0 by simp, apL_0], Nat.zero_le _, rfl, rfl⟩ ⟨rfl, rfl, rfl, rfl, rfl, rfl, trivial⟩ ?_
  rintro _ _ _ ⟨u, rfl, hu, rfl, rfl⟩
  repeat' (first | refine hl_a ?_ | refine hq_a ?_ | refine hl_nil ?_ | refine hq_nil ?_ | refine hq_ga ?_ | refine hq_sk ?_ | refine hq_su ?_ | refine hq_gT ?_ | refine hq_gF ?_ | refine hq_gd (fun h => ?_) (fun h => ?_) | refine hl_ga ?_ | refine hl_sk ?_ | refine hl_su ?_ | refine hl_gT ?_ | refine hl_gF ?_ | refine hl_gd (fun h => ?_) (fun h => ?_) | refine hx_next ?_ | refine hw_seq ?_ | refine hw_region ?_ | refine hw_dr ?_ | refine hw_block ?_ | refine hx_block ?_ | refine hw_tt ?_ | refine hw_ff ?_ | refine hw_iT ?_ | refine hw_iF ?_ | refine hw_skip ?_ | refine hw_ret ?_ | refine hw_exit ?_ | refine hx_then_ret ?_ | refine hx_block_ret ?_ | refine hx_then_exit ?_ | refine hx_block_here ?_ | refine hx_far ?_ | refine hx_any ?_ | (apply ha_end; decide +kernel))
  refine hw_if rfl (fun hlt => ?_) (fun hge => ?_)
  · have hu2 : u < xss.length := by omega
    have cu := rs'.get u (by omega)
    have au := hv.bd s hs u
    repeat' (first | refine hl_a ?_ | refine hq_a ?_ | refine hl_nil ?_ | refine hq_nil ?_ | refine hq_ga ?_ | refine hq_sk ?_ | refine hq_su ?_ | refine hq_gT ?_ | refine hq_gF ?_ | refine hq_gd (fun h => ?_) (fun h => ?_) | refine hl_ga ?_ | refine hl_sk ?_ | refine hl_su ?_ | refine hl_gT ?_ | refine hl_gF ?_ | refine hl_gd (fun h => ?_) (fun h => ?_) | refine hx_next ?_ | refine hw_seq ?_ | refine hw_region ?_ | refine hw_dr ?_ | refine hw_block ?_ | refine hx_block ?_ | refine hw_tt ?_ | refine hw_ff ?_ | refine hw_iT ?_ | refine hw_iF ?_ | refine hw_skip ?_ | refine hw_ret ?_ | refine hw_exit ?_ | refine hx_then_ret ?_ | refine hx_block_ret ?_ | refine hx_then_exit ?_ | refine hx_block_here ?_ | refine hx_far ?_ | refine hx_any ?_ | (apply ha_end; decide +kernel))
    refine hw_loop (fun e r m => ∃ q : Nat, r = [rPut brow bn x xss.length (apL xss.length (xss.getD s []) (xss.getD t []) (u * xss.length + q)), F] ∧ q ≤ xss.length ∧ m = xss.length - q ∧ e = [(1, .int .i64 (t : Int)), (2, .func (.func 97) #[] #[.pointer (some ⟨brow, 0, none⟩), .pointer (some ⟨bn, 0, none⟩)]), (3, .pointer (some pc)), (7, .int .i64 (u : Int)), (8, .int .i64 ((xss.getD s []).getD u 0)), (15, row s), (16, .int .i64 (xss.length : Int)), (17, .int .i64 (u : Int)), (26, row t), (27, .int .i64 (xss.length : Int)), (28, .int .i64 (q : Int))])
      ⟨0, rfl, Nat.zero_le _, rfl, rfl⟩ ⟨rfl, rfl, rfl, rfl, rfl, rfl, rfl, rfl, rfl, rfl, rfl, trivial⟩ ?_
    rintro _ _ _ ⟨q, rfl, hq, rfl, rfl⟩
    repeat' (first | refine hl_a ?_ | refine hq_a ?_ | refine hl_nil ?_ | refine hq_nil ?_ | refine hq_ga ?_ | refine hq_sk ?_ | refine hq_su ?_ | refine hq_gT ?_ | refine hq_gF ?_ | refine hq_gd (fun h => ?_) (fun h => ?_) | refine hl_ga ?_ | refine hl_sk ?_ | refine hl_su ?_ | refine hl_gT ?_ | refine hl_gF ?_ | refine hl_gd (fun h => ?_) (fun h => ?_) | refine hx_next ?_ | refine hw_seq ?_ | refine hw_region ?_ | refine hw_dr ?_ | refine hw_block ?_ | refine hx_block ?_ | refine hw_tt ?_ | refine hw_ff ?_ | refine hw_iT ?_ | refine hw_iF ?_ | refine hw_skip ?_ | refine hw_ret ?_ | refine hw_exit ?_ | refine hx_then_ret ?_ | refine hx_block_ret ?_ | refine hx_then_exit ?_ | refine hx_block_here ?_ | refine hx_far ?_ | refine hx_any ?_ | (apply ha_end; decide +kernel))
    refine hw_if rfl (fun hlt2 => ?_) (fun hge2 => ?_)
    · have hq2 : q < xss.length := by omega
      have cq := rt.get q (by omega)
      have aq := hv.bd t ht q
      have hi := idx_lt hu2 hq2
      have mm := mul_bd (A := 60) (B := 60) (a := (xss.getD s []).getD u 0) (b := (xss.getD t []).getD q 0) au aq
      repeat' (first | refine hl_a ?_ | refine hq_a ?_ | refine hl_nil ?_ | refine hq_nil ?_ | refine hq_ga ?_ | refine hq_sk ?_ | refine hq_su ?_ | refine hq_gT ?_ | refine hq_gF ?_ | refine hq_gd (fun h => ?_) (fun h => ?_) | refine hl_ga ?_ | refine hl_sk ?_ | refine hl_su ?_ | refine hl_gT ?_ | refine hl_gF ?_ | refine hl_gd (fun h => ?_) (fun h => ?_) | refine hx_next ?_ | refine hw_seq ?_ | refine hw_region ?_ | refine hw_dr ?_ | refine hw_block ?_ | refine hx_block ?_ | refine hw_tt ?_ | refine hw_ff ?_ | refine hw_iT ?_ | refine hw_iF ?_ | refine hw_skip ?_ | refine hw_ret ?_ | refine hw_exit ?_ | refine hx_then_ret ?_ | refine hx_block_ret ?_ | refine hx_then_exit ?_ | refine hx_block_here ?_ | refine hx_far ?_ | refine hx_any ?_ | (apply ha_end; decide +kernel) | (apply hl_q; decide; (exact q_mul rfl rfl (by omega))) | (apply hq_q; decide; (exact q_mul rfl rfl (by omega))) | (apply hq_g; rfl; rfl; decide; (exact q_mul rfl rfl (by omega))) | (apply hl_g; rfl; rfl; decide; (exact q_mul rfl rfl (by omega))))
      refine hl_mutFv (vs := [.int .i64 (u : Int), .int .i64 (q : Int), .int .i64 ((xss.getD s []).getD u 0 * (xss.getD t []).getD q 0)]) 0 rfl rfl (by decide) rfl (put_c brow bn x xss.length _ w0 _ u q _ hn (apL_length _ _ _ _) hu2 hq2 (by rw [apL_getD _ _ _ _ hi]; decide) (by omega)) ?_
      rintro _ _ ⟨rfl, rfl⟩
      repeat' (first | refine hl_a ?_ | refine hq_a ?_ | refine hl_nil ?_ | refine hq_nil ?_ | refine hq_ga ?_ | refine hq_sk ?_ | refine hq_su ?_ | refine hq_gT ?_ | refine hq_gF ?_ | refine hq_gd (fun h => ?_) (fun h => ?_) | refine hl_ga ?_ | refine hl_sk ?_ | refine hl_su ?_ | refine hl_gT ?_ | refine hl_gF ?_ | refine hl_gd (fun h => ?_) (fun h => ?_) | refine hx_next ?_ | refine hw_seq ?_ | refine hw_region ?_ | refine hw_dr ?_ | refine hw_block ?_ | refine hx_block ?_ | refine hw_tt ?_ | refine hw_ff ?_ | refine hw_iT ?_ | refine hw_iF ?_ | refine hw_skip ?_ | refine hw_ret ?_ | refine hw_exit ?_ | refine hx_then_ret ?_ | refine hx_block_ret ?_ | refine hx_then_exit ?_ | refine hx_block_here ?_ | refine hx_far ?_ | refine hx_any ?_ | (apply ha_end; decide +kernel))
      exact hx_round ⟨q + 1, by rw [apL_add _ _ _ _ _ hq2 hi]; rfl, hq2, rfl, rfl⟩ (by omega) ⟨rfl, rfl, rfl, rfl, rfl, rfl, rfl, rfl, rfl, rfl, rfl, trivial⟩
    · have e : q = xss.length := by omega
      subst e
      repeat' (first | refine hl_a ?_ | refine hq_a ?_ | refine hl_nil ?_ | refine hq_nil ?_ | refine hq_ga ?_ | refine hq_sk ?_ | refine hq_su ?_ | refine hq_gT ?_ | refine hq_gF ?_ | refine hq_gd (fun h => ?_) (fun h => ?_) | refine hl_ga ?_ | refine hl_sk ?_ | refine hl_su ?_ | refine hl_gT ?_ | refine hl_gF ?_ | refine hl_gd (fun h => ?_) (fun h => ?_) | refine hx_next ?_ | refine hw_seq ?_ | refine hw_region ?_ | refine hw_dr ?_ | refine hw_block ?_ | refine hx_block ?_ | refine hw_tt ?_ | refine hw_ff ?_ | refine hw_iT ?_ | refine hw_iF ?_ | refine hw_skip ?_ | refine hw_ret ?_ | refine hw_exit ?_ | refine hx_then_ret ?_ | refine hx_block_ret ?_ | refine hx_then_exit ?_ | refine hx_block_here ?_ | refine hx_far ?_ | refine hx_any ?_ | (apply ha_end; decide +kernel))
      have e2 : u * xss.length + xss.length = (u + 1) * xss.length + 0 := by rw [Nat.succ_mul]; rfl
      rw [e2]
      exact hx_round ⟨u + 1, rfl, hu2, rfl, rfl⟩ (by omega) ⟨rfl, rfl, rfl, rfl, rfl, rfl, trivial⟩
  · have e : u = xss.length := by omega
    subst e
    repeat' (first | refine hl_a ?_ | refine hq_a ?_ | refine hl_nil ?_ | refine hq_nil ?_ | refine hq_ga ?_ | refine hq_sk ?_ | refine hq_su ?_ | refine hq_gT ?_ | refine hq_gF ?_ | refine hq_gd (fun h => ?_) (fun h => ?_) | refine hl_ga ?_ | refine hl_sk ?_ | refine hl_su ?_ | refine hl_gT ?_ | refine hl_gF ?_ | refine hl_gd (fun h => ?_) (fun h => ?_) | refine hx_next ?_ | refine hw_seq ?_ | refine hw_region ?_ | refine hw_dr ?_ | refine hw_block ?_ | refine hx_block ?_ | refine hw_tt ?_ | refine hw_ff ?_ | refine hw_iT ?_ | refine hw_iF ?_ | refine hw_skip ?_ | refine hw_ret ?_ | refine hw_exit ?_ | refine hx_then_ret ?_ | refine hx_block_ret ?_ | refine hx_then_exit ?_ | refine hx_block_here ?_ | refine hx_far ?_ | refine hx_any ?_ | (apply ha_end; decide +kernel))
    exact hx_end0 rfl (fun w hm => ⟨_, _, rfl, ⟨rfl, rfl⟩, hm⟩)
set_option maxHeartbeats 2000000 in
theorem best1_c (hp : PtC w0 pc st tot v xss row) (hv : Valid st tot xss) (hn : xss.length ≤ 4) (F : Res) (brow bn : Nat) (x : Value) (s t : Nat) (hs : s < xss.length) (ht : t < xss.length) :
    MutF Try.prog 75 [.int .i64 (s : Int), .int .i64 (t : Int), .func (.func 97) #[] #[.pointer (some ⟨brow, 0, none⟩), .pointer (some ⟨bn, 0, none⟩)], .pointer (some pc)] w0 (rPut brow bn x xss.length (zer (xss.length * xss.length))) F (fun v' r' => v' = .tuple #[] ∧ r' = rPut brow bn x xss.length (rowB xss s t)) := by
  refine mutF_hw Try.func75 Try.ntmps75 rfl rfl ?_
  obtain ⟨h0, h1, h2, hr⟩ := hp
  have hsl := hr.sl
  have cs := hr.get s hs
  have ct := hr.get t ht
  have rs' := hr.row s hs
  have rt := hr.row t ht
  have l1 := hv.rlen s hs
  have l2 := hv.rlen t ht
  have hok := fun k hk => bsA_ok l1 l2 (hv.bd s hs) (hv.bd t ht) k hk
  repeat' (first | refine hl_a ?_ | refine hq_a ?_ | refine hl_nil ?_ | refine hq_nil ?_ | refine hq_ga ?_ | refine hq_sk ?_ | refine hq_su ?_ | refine hq_gT ?_ | refine hq_gF ?_ | refine hq_gd (fun h => ?_) (fun h => ?_) | refine hl_ga ?_ | refine hl_sk ?_ | refine hl_su ?_ | refine hl_gT ?_ | refine hl_gF ?_ | refine hl_gd (fun h => ?_) (fun h => ?_) | refine hx_next ?_ | refine hw_seq ?_ | refine hw_region ?_ | refine hw_block ?_ | refine hx_block ?_ | refine hw_tt ?_ | refine hw_ff ?_ | refine hw_iT ?_ | refine hw_iF ?_ | refine hw_skip ?_ | refine hw_ret ?_ | refine hw_exit ?_ | refine hx_then_ret ?_ | refine hx_block_ret ?_ | refine hx_then_exit ?_ | refine hx_block_here ?_ | refine hx_far ?_ | refine hx_any ?_ | (apply ha_end; decide +kernel))
  refine hw_g [] 14 (by kernel_rfl) ?_
  first | refine hg_t 0 ?_ | refine hg_tn 0 ?_
  first | refine hg_t 1 ?_ | refine hg_tn 1 ?_
  first | refine hg_t 2 ?_ | refine hg_tn 2 ?_
  first | refine hg_t 3 ?_ | refine hg_tn 3 ?_
  first | refine hg_t 4 ?_ | refine hg_tn 4 ?_
  first | refine hg_t 6 ?_ | refine hg_tn 6 ?_
  first | refine hg_t 7 ?_ | refine hg_tn 7 ?_
  first | refine hg_t 8 ?_ | refine hg_tn 8 ?_
  first | refine hg_t 9 ?_ | refine hg_tn 9 ?_
  first | refine hg_t 10 ?_ | refine hg_tn 10 ?_
  refine hg_1 5 (by decide +kernel) rfl ?_
  refine hl_call (by decide) (fun w hm => clone_c (row s) (xss.getD s []) (by omega) (by omega) w (rs'.up hm.below)) rfl ?_
  rintro va _ ⟨rfl, hva⟩
  refine hl_nil ?_
  refine hx_hg (by first | exact fun w hm => hm.none | exact fun w hm => Mem.keep _ hm) ?_
  refine hg_1 11 (by decide +kernel) rfl ?_
  refine hl_call (by decide) (fun w hm => clone_c (row t) (xss.getD t []) (by omega) (by omega) w (rt.up hm.below)) rfl ?_
  rintro vb _ ⟨rfl, hvb⟩
  refine hl_nil ?_
  refine hx_hg (by first | exact fun w hm => hm.none | exact fun w hm => Mem.keep _ hm) ?_
  first | refine hg_t 12 ?_ | refine hg_tn 12 ?_
  first | refine hg_t 13 ?_ | refine hg_tn 13 ?_
  refine hg_end (by decide +kernel) ?_
  rw [l1] at hva
  rw [l2] at hvb
  repeat' (first | refine hl_a ?_ | refine hq_a ?_ | refine hl_nil ?_ | refine hq_nil ?_ | refine hq_ga ?_ | refine hq_sk ?_ | refine hq_su ?_ | refine hq_gT ?_ | refine hq_gF ?_ | refine hq_gd (fun h => ?_) (fun h => ?_) | refine hl_ga ?_ | refine hl_sk ?_ | refine hl_su ?_ | refine hl_gT ?_ | refine hl_gF ?_ | refine hl_gd (fun h => ?_) (fun h => ?_) | refine hx_next ?_ | refine hw_seq ?_ | refine hw_region ?_ | refine hw_block ?_ | refine hx_block ?_ | refine hw_tt ?_ | refine hw_ff ?_ | refine hw_iT ?_ | refine hw_iF ?_ | refine hw_skip ?_ | refine hw_ret ?_ | refine hw_exit ?_ | refine hx_then_ret ?_ | refine hx_block_ret ?_ | refine hx_then_exit ?_ | refine hx_block_here ?_ | refine hx_far ?_ | refine hx_any ?_ | (apply ha_end; decide +kernel))
  refine hw_loop (fun e r m => ∃ k : Nat, r = [rPut brow bn x xss.length (bsA xss.length (xss.getD s []) (xss.getD t []) k).2.2, F, rE 2 (Value.int .i64) va (bsA xss.length (xss.getD s []) (xss.getD t []) k).1, rE 2 (Value.int .i64) vb (bsA xss.length (xss.getD s []) (xss.getD t []) k).2.1] ∧ k ≤ xss.length ∧ m = xss.length - k ∧ e = [(2, .func (.func 97) #[] #[.pointer (some ⟨brow, 0, none⟩), .pointer (some ⟨bn, 0, none⟩)]), (7, va), (8, vb), (24, .int .i64 (xss.length : Int)), (25, .int .i64 (k : Int))])
    ⟨0, rfl, Nat.zero_le _, rfl, rfl⟩ ⟨rfl, rfl, rfl, rfl, rfl, trivial⟩ ?_
  rintro _ _ _ ⟨k, rfl, hk, rfl, rfl⟩
  have ok := hok k hk
  obtain ⟨A, hA⟩ : ∃ A, (bsA xss.length (xss.getD s []) (xss.getD t []) k).1 = A := ⟨_, rfl⟩
  obtain ⟨B, hB⟩ : ∃ B, (bsA xss.length (xss.getD s []) (xss.getD t []) k).2.1 = B := ⟨_, rfl⟩
  obtain ⟨L, hL⟩ : ∃ L, (bsA xss.length (xss.getD s []) (xss.getD t []) k).2.2 = L := ⟨_, rfl⟩
  have o1 := ok.l1
  have o2 := ok.l2
  have o3 := ok.l3
  have o4 := ok.b1
  have o5 := ok.b2
  have o6 := ok.b3
  rw [hA] at o1 o4
  rw [hB] at o2 o5
  rw [hL] at o3 o6
  have hS1 : (bsA xss.length (xss.getD s []) (xss.getD t []) (k + 1)).1 = A.set k (A.getD k 0 - mnI (A.getD k 0) (B.getD k 0)) := by rw [← hA, ← hB]; rfl
  have hS2 : (bsA xss.length (xss.getD s []) (xss.getD t []) (k + 1)).2.1 = B.set k (B.getD k 0 - mnI (A.getD k 0) (B.getD k 0)) := by rw [← hA, ← hB]; rfl
  have hS3 : (bsA xss.length (xss.getD s []) (xss.getD t []) (k + 1)).2.2 = addAt xss.length L k k (mnI (A.getD k 0) (B.getD k 0)) := by rw [← hA, ← hB, ← hL]; rfl
  rw [hA, hB, hL]
  repeat' (first | refine hl_a ?_ | refine hq_a ?_ | refine hl_nil ?_ | refine hq_nil ?_ | refine hq_ga ?_ | refine hq_sk ?_ | refine hq_su ?_ | refine hq_gT ?_ | refine hq_gF ?_ | refine hq_gd (fun h => ?_) (fun h => ?_) | refine hl_ga ?_ | refine hl_sk ?_ | refine hl_su ?_ | refine hl_gT ?_ | refine hl_gF ?_ | refine hl_gd (fun h => ?_) (fun h => ?_) | refine hx_next ?_ | refine hw_seq ?_ | refine hw_region ?_ | refine hw_dr ?_ | refine hw_block ?_ | refine hx_block ?_ | refine hw_tt ?_ | refine hw_ff ?_ | refine hw_iT ?_ | refine hw_iF ?_ | refine hw_skip ?_ | refine hw_ret ?_ | refine hw_exit ?_ | refine hx_then_ret ?_ | refine hx_block_ret ?_ | refine hx_then_exit ?_ | refine hx_block_here ?_ | refine hx_far ?_ | refine hx_any ?_ | (apply ha_end; decide +kernel))
  refine hw_if rfl (fun hlt => ?_) (fun hge => ?_)
  · have hk2 : k < xss.length := by omega
    have i1 : k < A.length := by omega
    have i2 : k < B.length := by omega
    have hw := mnI_bd (o4 k) (o5 k)
    have c1 := o4 k
    have c2 := o5 k
    have c3 := o6 (k * xss.length + k)
    have h1 := fun (R F : Res) (b : List Int) => ldA (w0 := w0) (R := R) (F := F) (va := va) (vb := vb) (a := A) (b := b) i1
    have h2 := fun (R F : Res) (a : List Int) => ldB (w0 := w0) (R := R) (F := F) (va := va) (vb := vb) (a := a) (b := B) i2
    have h1a := h1 (rPut brow bn x xss.length L) F B
    have h2a := h2 (rPut brow bn x xss.length L) F A
    have h1b := h1 (rPut brow bn x xss.length (addAt xss.length L k k (mnI (A.getD k 0) (B.getD k 0)))) F B
    have h2b := h2 (rPut brow bn x xss.length (addAt xss.length L k k (mnI (A.getD k 0) (B.getD k 0)))) F (A.set k (A.getD k 0 - mnI (A.getD k 0) (B.getD k 0)))
    repeat' (first | refine hl_a ?_ | refine hq_a ?_ | refine hl_nil ?_ | refine hq_nil ?_ | refine hq_ga ?_ | refine hq_sk ?_ | refine hq_su ?_ | refine hq_gT ?_ | refine hq_gF ?_ | refine hq_gd (fun h => ?_) (fun h => ?_) | refine hl_ga ?_ | refine hl_sk ?_ | refine hl_su ?_ | refine hl_gT ?_ | refine hl_gF ?_ | refine hl_gd (fun h => ?_) (fun h => ?_) | refine hx_next ?_ | refine hw_seq ?_ | refine hw_region ?_ | refine hw_dr ?_ | refine hw_block ?_ | refine hx_block ?_ | refine hw_tt ?_ | refine hw_ff ?_ | refine hw_iT ?_ | refine hw_iF ?_ | refine hw_skip ?_ | refine hw_ret ?_ | refine hw_exit ?_ | refine hx_then_ret ?_ | refine hx_block_ret ?_ | refine hx_then_exit ?_ | refine hx_block_here ?_ | refine hx_far ?_ | refine hx_any ?_ | (apply ha_end; decide +kernel) | (apply hl_q; decide; (exact q_min (mnI (A.getD k 0) (B.getD k 0)) rfl rfl rfl)) | (apply hq_q; decide; (exact q_min (mnI (A.getD k 0) (B.getD k 0)) rfl rfl rfl)) | (apply hq_g; rfl; rfl; decide; (exact q_min (mnI (A.getD k 0) (B.getD k 0)) rfl rfl rfl)) | (apply hl_g; rfl; rfl; decide; (exact q_min (mnI (A.getD k 0) (B.getD k 0)) rfl rfl rfl)))
    refine hl_mutFv (vs := [.int .i64 (k : Int), .int .i64 (k : Int), .int .i64 (mnI (A.getD k 0) (B.getD k 0))]) 0 rfl rfl (by decide) rfl (put_c brow bn x xss.length L w0 _ k k _ hn o3 hk2 hk2 (by omega) (by omega)) ?_
    rintro _ _ ⟨rfl, rfl⟩
    repeat' (first | refine hl_a ?_ | refine hq_a ?_ | refine hl_nil ?_ | refine hq_nil ?_ | refine hq_ga ?_ | refine hq_sk ?_ | refine hq_su ?_ | refine hq_gT ?_ | refine hq_gF ?_ | refine hq_gd (fun h => ?_) (fun h => ?_) | refine hl_ga ?_ | refine hl_sk ?_ | refine hl_su ?_ | refine hl_gT ?_ | refine hl_gF ?_ | refine hl_gd (fun h => ?_) (fun h => ?_) | refine hx_next ?_ | refine hw_seq ?_ | refine hw_region ?_ | refine hw_dr ?_ | refine hw_block ?_ | refine hx_block ?_ | refine hw_tt ?_ | refine hw_ff ?_ | refine hw_iT ?_ | refine hw_iF ?_ | refine hw_skip ?_ | refine hw_ret ?_ | refine hw_exit ?_ | refine hx_then_ret ?_ | refine hx_block_ret ?_ | refine hx_then_exit ?_ | refine hx_block_here ?_ | refine hx_far ?_ | refine hx_any ?_ | (apply ha_end; decide +kernel))
    refine hl_storeE 2 k (A.getD k 0 - mnI (A.getD k 0) (B.getD k 0)) rfl rfl i1 rfl rfl ?_
    repeat' (first | refine hl_a ?_ | refine hq_a ?_ | refine hl_nil ?_ | refine hq_nil ?_ | refine hq_ga ?_ | refine hq_sk ?_ | refine hq_su ?_ | refine hq_gT ?_ | refine hq_gF ?_ | refine hq_gd (fun h => ?_) (fun h => ?_) | refine hl_ga ?_ | refine hl_sk ?_ | refine hl_su ?_ | refine hl_gT ?_ | refine hl_gF ?_ | refine hl_gd (fun h => ?_) (fun h => ?_) | refine hx_next ?_ | refine hw_seq ?_ | refine hw_region ?_ | refine hw_dr ?_ | refine hw_block ?_ | refine hx_block ?_ | refine hw_tt ?_ | refine hw_ff ?_ | refine hw_iT ?_ | refine hw_iF ?_ | refine hw_skip ?_ | refine hw_ret ?_ | refine hw_exit ?_ | refine hx_then_ret ?_ | refine hx_block_ret ?_ | refine hx_then_exit ?_ | refine hx_block_here ?_ | refine hx_far ?_ | refine hx_any ?_ | (apply ha_end; decide +kernel))
    refine hl_storeE 3 k (B.getD k 0 - mnI (A.getD k 0) (B.getD k 0)) rfl rfl i2 rfl rfl ?_
    repeat' (first | refine hl_a ?_ | refine hq_a ?_ | refine hl_nil ?_ | refine hq_nil ?_ | refine hq_ga ?_ | refine hq_sk ?_ | refine hq_su ?_ | refine hq_gT ?_ | refine hq_gF ?_ | refine hq_gd (fun h => ?_) (fun h => ?_) | refine hl_ga ?_ | refine hl_sk ?_ | refine hl_su ?_ | refine hl_gT ?_ | refine hl_gF ?_ | refine hl_gd (fun h => ?_) (fun h => ?_) | refine hx_next ?_ | refine hw_seq ?_ | refine hw_region ?_ | refine hw_dr ?_ | refine hw_block ?_ | refine hx_block ?_ | refine hw_tt ?_ | refine hw_ff ?_ | refine hw_iT ?_ | refine hw_iF ?_ | refine hw_skip ?_ | refine hw_ret ?_ | refine hw_exit ?_ | refine hx_then_ret ?_ | refine hx_block_ret ?_ | refine hx_then_exit ?_ | refine hx_block_here ?_ | refine hx_far ?_ | refine hx_any ?_ | (apply ha_end; decide +kernel))
    exact hx_round ⟨k + 1, by rw [hS1, hS2, hS3]; rfl, hk2, rfl, rfl⟩ (by omega) ⟨rfl, rfl, rfl, rfl, rfl, trivial⟩
  · have e : k = xss.length := by omega
    subst e
    repeat' (first | refine hl_a ?_ | refine hq_a ?_ | refine hl_nil ?_ | refine hq_nil ?_ | refine hq_ga ?_ | refine hq_sk ?_ | refine hq_su ?_ | refine hq_gT ?_ | refine hq_gF ?_ | refine hq_gd (fun h => ?_) (fun h => ?_) | refine hl_ga ?_ | refine hl_sk ?_ | refine hl_su ?_ | refine hl_gT ?_ | refine hl_gF ?_ | refine hl_gd (fun h => ?_) (fun h => ?_) | refine hx_next ?_ | refine hw_seq ?_ | refine hw_region ?_ | refine hw_dr ?_ | refine hw_block ?_ | refine hx_block ?_ | refine hw_tt ?_ | refine hw_ff ?_ | refine hw_iT ?_ | refine hw_iF ?_ | refine hw_skip ?_ | refine hw_ret ?_ | refine hw_exit ?_ | refine hx_then_ret ?_ | refine hx_block_ret ?_ | refine hx_then_exit ?_ | refine hx_block_here ?_ | refine hx_far ?_ | refine hx_any ?_ | (apply ha_end; decide +kernel))
    refine hl_mutF 0 rfl (by decide) (stairs_c brow bn x xss.length L w0 _ va vb A B (fun w hm => hm.rdIn 1 rfl 0) (fun w hm => hm.rdIn 2 rfl 0) o1 o2 (by omega) hn o4 o5 o3 (o6.mono (by decide))) rfl ?_
    rintro _ _ ⟨rfl, rfl⟩
    repeat' (first | refine hl_a ?_ | refine hq_a ?_ | refine hl_nil ?_ | refine hq_nil ?_ | refine hq_ga ?_ | refine hq_sk ?_ | refine hq_su ?_ | refine hq_gT ?_ | refine hq_gF ?_ | refine hq_gd (fun h => ?_) (fun h => ?_) | refine hl_ga ?_ | refine hl_sk ?_ | refine hl_su ?_ | refine hl_gT ?_ | refine hl_gF ?_ | refine hl_gd (fun h => ?_) (fun h => ?_) | refine hx_next ?_ | refine hw_seq ?_ | refine hw_region ?_ | refine hw_dr ?_ | refine hw_block ?_ | refine hx_block ?_ | refine hw_tt ?_ | refine hw_ff ?_ | refine hw_iT ?_ | refine hw_iF ?_ | refine hw_skip ?_ | refine hw_ret ?_ | refine hw_exit ?_ | refine hx_then_ret ?_ | refine hx_block_ret ?_ | refine hx_then_exit ?_ | refine hx_block_here ?_ | refine hx_far ?_ | refine hx_any ?_ | (apply ha_end; decide +kernel))
    exact hx_end0 rfl (fun w hm => ⟨_, _, rfl, ⟨rfl, by rw [rowB, hA, hB, hL]⟩, Mem.keep [_, _] hm⟩)
end
theorem implStairCoupled_c (st tot : Int) (v : Value) (xss : List (List Int)) (row : Nat → Value) (w : World) (hr : RdS (Value.int .i64) 0 w v xss row) :
    Gives Try.prog 37 [chV st tot v] w (ChOut 73 2 (coupM st tot xss tot (rowS xss))) := by
  refine calls_hw Try.func37 Try.ntmps37 rfl rfl ?_
  repeat' (first | refine hl_a ?_ | refine hq_a ?_ | refine hl_nil ?_ | refine hq_nil ?_ | refine hq_ga ?_ | refine hq_sk ?_ | refine hq_su ?_ | refine hq_gT ?_ | refine hq_gF ?_ | refine hq_gd (fun h => ?_) (fun h => ?_) | refine hl_ga ?_ | refine hl_sk ?_ | refine hl_su ?_ | refine hl_gT ?_ | refine hl_gF ?_ | refine hl_gd (fun h => ?_) (fun h => ?_) | refine hx_next ?_ | refine hw_seq ?_ | refine hw_region ?_ | refine hw_dr ?_ | refine hw_block ?_ | refine hx_block ?_ | refine hw_tt ?_ | refine hw_ff ?_ | refine hw_iT ?_ | refine hw_iF ?_ | refine hw_skip ?_ | refine hw_ret ?_ | refine hw_exit ?_ | refine hx_then_ret ?_ | refine hx_block_ret ?_ | refine hx_then_exit ?_ | refine hx_block_here ?_ | refine hx_far ?_ | refine hx_any ?_ | (apply ha_end; decide +kernel))
  refine hl_box (by decide) rfl (fun b => ?_)
  refine hl_alloc (by decide) (fun b0 => ?_)
  repeat' (first | refine hl_a ?_ | refine hq_a ?_ | refine hl_nil ?_ | refine hq_nil ?_ | refine hq_ga ?_ | refine hq_sk ?_ | refine hq_su ?_ | refine hq_gT ?_ | refine hq_gF ?_ | refine hq_gd (fun h => ?_) (fun h => ?_) | refine hl_ga ?_ | refine hl_sk ?_ | refine hl_su ?_ | refine hl_gT ?_ | refine hl_gF ?_ | refine hl_gd (fun h => ?_) (fun h => ?_) | refine hx_next ?_ | refine hw_seq ?_ | refine hw_region ?_ | refine hw_dr ?_ | refine hw_block ?_ | refine hx_block ?_ | refine hw_tt ?_ | refine hw_ff ?_ | refine hw_iT ?_ | refine hw_iF ?_ | refine hw_skip ?_ | refine hw_ret ?_ | refine hw_exit ?_ | refine hx_then_ret ?_ | refine hx_block_ret ?_ | refine hx_then_exit ?_ | refine hx_block_here ?_ | refine hx_far ?_ | refine hx_any ?_ | (apply ha_end; decide +kernel))
  first | refine hl_q (by decide) (q_fn [.pointer (some ⟨b, 0, none⟩)] rfl) ?_ | refine hq_q (by decide) (q_fn [.pointer (some ⟨b, 0, none⟩)] rfl) ?_ | refine hl_g _ _ rfl rfl (by decide) (q_fn [.pointer (some ⟨b, 0, none⟩)] rfl) ?_ | refine hq_g _ _ rfl rfl (by decide) (q_fn [.pointer (some ⟨b, 0, none⟩)] rfl) ?_
  refine hl_call (by decide) (fun w hm => coupled_c st tot v xss row tot 73 [.pointer (some ⟨b, 0, none⟩)] (rowS xss) w (hr.up hm.below) (rowS_length xss) (fun hv hn F brow bn x s t hs ht => stair1_c (ptC_blk 0 rfl hm (hr.up hm.below)) hv hn F brow bn x s t hs ht)) rfl ?_
  rintro _ _ ⟨u, vs, rfl, rfl, hl, hu⟩
  repeat' (first | refine hl_a ?_ | refine hq_a ?_ | refine hl_nil ?_ | refine hq_nil ?_ | refine hq_ga ?_ | refine hq_sk ?_ | refine hq_su ?_ | refine hq_gT ?_ | refine hq_gF ?_ | refine hq_gd (fun h => ?_) (fun h => ?_) | refine hl_ga ?_ | refine hl_sk ?_ | refine hl_su ?_ | refine hl_gT ?_ | refine hl_gF ?_ | refine hl_gd (fun h => ?_) (fun h => ?_) | refine hx_next ?_ | refine hw_seq ?_ | refine hw_region ?_ | refine hw_dr ?_ | refine hw_block ?_ | refine hx_block ?_ | refine hw_tt ?_ | refine hw_ff ?_ | refine hw_iT ?_ | refine hw_iF ?_ | refine hw_skip ?_ | refine hw_ret ?_ | refine hw_exit ?_ | refine hx_then_ret ?_ | refine hx_block_ret ?_ | refine hx_then_exit ?_ | refine hx_block_here ?_ | refine hx_far ?_ | refine hx_any ?_ | (apply ha_end; decide +kernel))
  refine hl_storeA 1 rfl rfl rfl rfl rfl (chV_one hu) ?_
  repeat' (first | refine hl_a ?_ | refine hq_a ?_ | refine hl_nil ?_ | refine hq_nil ?_ | refine hq_ga ?_ | refine hq_sk ?_ | refine hq_su ?_ | refine hq_gT ?_ | refine hq_gF ?_ | refine hq_gd (fun h => ?_) (fun h => ?_) | refine hl_ga ?_ | refine hl_sk ?_ | refine hl_su ?_ | refine hl_gT ?_ | refine hl_gF ?_ | refine hl_gd (fun h => ?_) (fun h => ?_) | refine hx_next ?_ | refine hw_seq ?_ | refine hw_region ?_ | refine hw_dr ?_ | refine hw_block ?_ | refine hx_block ?_ | refine hw_tt ?_ | refine hw_ff ?_ | refine hw_iT ?_ | refine hw_iF ?_ | refine hw_skip ?_ | refine hw_ret ?_ | refine hw_exit ?_ | refine hx_then_ret ?_ | refine hx_block_ret ?_ | refine hx_then_exit ?_ | refine hx_block_here ?_ | refine hx_far ?_ | refine hx_any ?_ | (apply ha_end; decide +kernel))
  exact hx_retBt 1 rfl rfl rfl rfl rfl (fun w hm => ⟨_, _, rfl, hm.lone 2 rfl, u, vs, rfl, rfl, hl, hu⟩)
theorem implBestCoupled_c (st tot : Int) (v : Value) (xss : List (List Int)) (row : Nat → Value) (w : World) (hr : RdS (Value.int .i64) 0 w v xss row) :
    Gives Try.prog 39 [chV st tot v] w (ChOut 73 2 (coupM st tot xss tot (rowB xss))) := by
  refine calls_hw Try.func39 Try.ntmps39 rfl rfl ?_
  repeat' (first | refine hl_a ?_ | refine hq_a ?_ | refine hl_nil ?_ | refine hq_nil ?_ | refine hq_ga ?_ | refine hq_sk ?_ | refine hq_su ?_ | refine hq_gT ?_ | refine hq_gF ?_ | refine hq_gd (fun h => ?_) (fun h => ?_) | refine hl_ga ?_ | refine hl_sk ?_ | refine hl_su ?_ | refine hl_gT ?_ | refine hl_gF ?_ | refine hl_gd (fun h => ?_) (fun h => ?_) | refine hx_next ?_ | refine hw_seq ?_ | refine hw_region ?_ | refine hw_dr ?_ | refine hw_block ?_ | refine hx_block ?_ | refine hw_tt ?_ | refine hw_ff ?_ | refine hw_iT ?_ | refine hw_iF ?_ | refine hw_skip ?_ | refine hw_ret ?_ | refine hw_exit ?_ | refine hx_then_ret ?_ | refine hx_block_ret ?_ | refine hx_then_exit ?_ | refine hx_block_here ?_ | refine hx_far ?_ | refine hx_any ?_ | (apply ha_end; decide +kernel))
  refine hl_box (by decide) rfl (fun b => ?_)
  refine hl_alloc (by decide) (fun b0 => ?_)
  repeat' (first | refine hl_a ?_ | refine hq_a ?_ | refine hl_nil ?_ | refine hq_nil ?_ | refine hq_ga ?_ | refine hq_sk ?_ | refine hq_su ?_ | refine hq_gT ?_ | refine hq_gF ?_ | refine hq_gd (fun h => ?_) (fun h => ?_) | refine hl_ga ?_ | refine hl_sk ?_ | refine hl_su ?_ | refine hl_gT ?_ | refine hl_gF ?_ | refine hl_gd (fun h => ?_) (fun h => ?_) | refine hx_next ?_ | refine hw_seq ?_ | refine hw_region ?_ | refine hw_dr ?_ | refine hw_block ?_ | refine hx_block ?_ | refine hw_tt ?_ | refine hw_ff ?_ | refine hw_iT ?_ | refine hw_iF ?_ | refine hw_skip ?_ | refine hw_ret ?_ | refine hw_exit ?_ | refine hx_then_ret ?_ | refine hx_block_ret ?_ | refine hx_then_exit ?_ | refine hx_block_here ?_ | refine hx_far ?_ | refine hx_any ?_ | (apply ha_end; decide +kernel))
  first | refine hl_q (by decide) (q_fn [.pointer (some ⟨b, 0, none⟩)] rfl) ?_ | refine hq_q (by decide) (q_fn [.pointer (some ⟨b, 0, none⟩)] rfl) ?_ | refine hl_g _ _ rfl rfl (by decide) (q_fn [.pointer (some ⟨b, 0, none⟩)] rfl) ?_ | refine hq_g _ _ rfl rfl (by decide) (q_fn [.pointer (some ⟨b, 0, none⟩)] rfl) ?_
  refine hl_call (by decide) (fun w hm => coupled_c st tot v xss row tot 75 [.pointer (some ⟨b, 0, none⟩)] (rowB xss) w (hr.up hm.below) (rowB_length xss) (fun hv hn F brow bn x s t hs ht => best1_c (ptC_blk 0 rfl hm (hr.up hm.below)) hv hn F brow bn x s t hs ht)) rfl ?_
  rintro _ _ ⟨u, vs, rfl, rfl, hl, hu⟩
  repeat' (first | refine hl_a ?_ | refine hq_a ?_ | refine hl_nil ?_ | refine hq_nil ?_ | refine hq_ga ?_ | refine hq_sk ?_ | refine hq_su ?_ | refine hq_gT ?_ | refine hq_gF ?_ | refine hq_gd (fun h => ?_) (fun h => ?_) | refine hl_ga ?_ | refine hl_sk ?_ | refine hl_su ?_ | refine hl_gT ?_ | refine hl_gF ?_ | refine hl_gd (fun h => ?_) (fun h => ?_) | refine hx_next ?_ | refine hw_seq ?_ | refine hw_region ?_ | refine hw_dr ?_ | refine hw_block ?_ | refine hx_block ?_ | refine hw_tt ?_ | refine hw_ff ?_ | refine hw_iT ?_ | refine hw_iF ?_ | refine hw_skip ?_ | refine hw_ret ?_ | refine hw_exit ?_ | refine hx_then_ret ?_ | refine hx_block_ret ?_ | refine hx_then_exit ?_ | refine hx_block_here ?_ | refine hx_far ?_ | refine hx_any ?_ | (apply ha_end; decide +kernel))
  refine hl_storeA 1 rfl rfl rfl rfl rfl (chV_one hu) ?_
  repeat' (first | refine hl_a ?_ | refine hq_a ?_ | refine hl_nil ?_ | refine hq_nil ?_ | refine hq_ga ?_ | refine hq_sk ?_ | refine hq_su ?_ | refine hq_gT ?_ | refine hq_gF ?_ | refine hq_gd (fun h => ?_) (fun h => ?_) | refine hl_ga ?_ | refine hl_sk ?_ | refine hl_su ?_ | refine hl_gT ?_ | refine hl_gF ?_ | refine hl_gd (fun h => ?_) (fun h => ?_) | refine hx_next ?_ | refine hw_seq ?_ | refine hw_region ?_ | refine hw_dr ?_ | refine hw_block ?_ | refine hx_block ?_ | refine hw_tt ?_ | refine hw_ff ?_ | refine hw_iT ?_ | refine hw_iF ?_ | refine hw_skip ?_ | refine hw_ret ?_ | refine hw_exit ?_ | refine hx_then_ret ?_ | refine hx_block_ret ?_ | refine hx_then_exit ?_ | refine hx_block_here ?_ | refine hx_far ?_ | refine hx_any ?_ | (apply ha_end; decide +kernel))
  exact hx_retBt 1 rfl rfl rfl rfl rfl (fun w hm => ⟨_, _, rfl, hm.lone 2 rfl, u, vs, rfl, rfl, hl, hu⟩)
/-- The product of the totals, as it is reckoned. -/
noncomputable def apT (st tot : Int) (xss : List (List Int)) : Int := if Valid st tot xss then tot * tot else 0
theorem coupM_tot {st tot : Int} {xss : List (List Int)} {T T' : Int} {rowF : Nat → Nat → List Int} (h : Valid st tot xss → T = T') : coupM st tot xss T rowF = coupM st tot xss T' rowF := by
  unfold coupM
  split
  · rename_i hv; rw [h hv]
  · rfl
theorem implApartCoupled_c (st tot : Int) (v : Value) (xss : List (List Int)) (row : Nat → Value) (w : World) (hr : RdS (Value.int .i64) 0 w v xss row) :
    Gives Try.prog 30 [chV st tot v] w (ChOut 73 2 (coupM st tot xss (tot * tot) (rowA xss))) := by
  refine calls_hw Try.func30 Try.ntmps30 rfl rfl ?_
  repeat' (first | refine hl_a ?_ | refine hq_a ?_ | refine hl_nil ?_ | refine hq_nil ?_ | refine hq_ga ?_ | refine hq_sk ?_ | refine hq_su ?_ | refine hq_gT ?_ | refine hq_gF ?_ | refine hq_gd (fun h => ?_) (fun h => ?_) | refine hl_ga ?_ | refine hl_sk ?_ | refine hl_su ?_ | refine hl_gT ?_ | refine hl_gF ?_ | refine hl_gd (fun h => ?_) (fun h => ?_) | refine hx_next ?_ | refine hw_seq ?_ | refine hw_region ?_ | refine hw_dr ?_ | refine hw_block ?_ | refine hx_block ?_ | refine hw_tt ?_ | refine hw_ff ?_ | refine hw_iT ?_ | refine hw_iF ?_ | refine hw_skip ?_ | refine hw_ret ?_ | refine hw_exit ?_ | refine hx_then_ret ?_ | refine hx_block_ret ?_ | refine hx_then_exit ?_ | refine hx_block_here ?_ | refine hx_far ?_ | refine hx_any ?_ | (apply ha_end; decide +kernel))
  refine hl_box (by decide) rfl (fun b => ?_)
  refine hl_alloc (by decide) (fun b0 => ?_)
  repeat' (first | refine hl_a ?_ | refine hq_a ?_ | refine hl_nil ?_ | refine hq_nil ?_ | refine hq_ga ?_ | refine hq_sk ?_ | refine hq_su ?_ | refine hq_gT ?_ | refine hq_gF ?_ | refine hq_gd (fun h => ?_) (fun h => ?_) | refine hl_ga ?_ | refine hl_sk ?_ | refine hl_su ?_ | refine hl_gT ?_ | refine hl_gF ?_ | refine hl_gd (fun h => ?_) (fun h => ?_) | refine hx_next ?_ | refine hw_seq ?_ | refine hw_region ?_ | refine hw_dr ?_ | refine hw_block ?_ | refine hx_block ?_ | refine hw_tt ?_ | refine hw_ff ?_ | refine hw_iT ?_ | refine hw_iF ?_ | refine hw_skip ?_ | refine hw_ret ?_ | refine hw_exit ?_ | refine hx_then_ret ?_ | refine hx_block_ret ?_ | refine hx_then_exit ?_ | refine hx_block_here ?_ | refine hx_far ?_ | refine hx_any ?_ | (apply ha_end; decide +kernel))
  first | refine hl_q (by decide) (q_mulW rfl rfl) ?_ | refine hq_q (by decide) (q_mulW rfl rfl) ?_ | refine hl_g _ _ rfl rfl (by decide) (q_mulW rfl rfl) ?_ | refine hq_g _ _ rfl rfl (by decide) (q_mulW rfl rfl) ?_
  repeat' (first | refine hl_a ?_ | refine hq_a ?_ | refine hl_nil ?_ | refine hq_nil ?_ | refine hq_ga ?_ | refine hq_sk ?_ | refine hq_su ?_ | refine hq_gT ?_ | refine hq_gF ?_ | refine hq_gd (fun h => ?_) (fun h => ?_) | refine hl_ga ?_ | refine hl_sk ?_ | refine hl_su ?_ | refine hl_gT ?_ | refine hl_gF ?_ | refine hl_gd (fun h => ?_) (fun h => ?_) | refine hx_next ?_ | refine hw_seq ?_ | refine hw_region ?_ | refine hw_dr ?_ | refine hw_block ?_ | refine hx_block ?_ | refine hw_tt ?_ | refine hw_ff ?_ | refine hw_iT ?_ | refine hw_iF ?_ | refine hw_skip ?_ | refine hw_ret ?_ | refine hw_exit ?_ | refine hx_then_ret ?_ | refine hx_block_ret ?_ | refine hx_then_exit ?_ | refine hx_block_here ?_ | refine hx_far ?_ | refine hx_any ?_ | (apply ha_end; decide +kernel))
  first | refine hl_q (by decide) (q_fn [.pointer (some ⟨b, 0, none⟩)] rfl) ?_ | refine hq_q (by decide) (q_fn [.pointer (some ⟨b, 0, none⟩)] rfl) ?_ | refine hl_g _ _ rfl rfl (by decide) (q_fn [.pointer (some ⟨b, 0, none⟩)] rfl) ?_ | refine hq_g _ _ rfl rfl (by decide) (q_fn [.pointer (some ⟨b, 0, none⟩)] rfl) ?_
  refine hl_call (by decide) (fun w hm => coupled_c st tot v xss row (IntKind.i64.wrap (tot * tot)) 67 [.pointer (some ⟨b, 0, none⟩)] (rowA xss) w (hr.up hm.below) (rowA_length xss) (fun hv hn F brow bn x s t hs ht => apart1_c (ptC_blk 0 rfl hm (hr.up hm.below)) hv hn F brow bn x s t hs ht)) rfl ?_
  rw [coupM_tot (T' := tot * tot) (fun hv => by
    have := hv.t1
    have := mul_bd (A := 60) (B := 60) (a := tot) (b := tot) (by omega) (by omega)
    exact IntWalk.i64_in _ (by omega))]
  rintro _ _ ⟨u, vs, rfl, rfl, hl, hu⟩
  repeat' (first | refine hl_a ?_ | refine hq_a ?_ | refine hl_nil ?_ | refine hq_nil ?_ | refine hq_ga ?_ | refine hq_sk ?_ | refine hq_su ?_ | refine hq_gT ?_ | refine hq_gF ?_ | refine hq_gd (fun h => ?_) (fun h => ?_) | refine hl_ga ?_ | refine hl_sk ?_ | refine hl_su ?_ | refine hl_gT ?_ | refine hl_gF ?_ | refine hl_gd (fun h => ?_) (fun h => ?_) | refine hx_next ?_ | refine hw_seq ?_ | refine hw_region ?_ | refine hw_dr ?_ | refine hw_block ?_ | refine hx_block ?_ | refine hw_tt ?_ | refine hw_ff ?_ | refine hw_iT ?_ | refine hw_iF ?_ | refine hw_skip ?_ | refine hw_ret ?_ | refine hw_exit ?_ | refine hx_then_ret ?_ | refine hx_block_ret ?_ | refine hx_then_exit ?_ | refine hx_block_here ?_ | refine hx_far ?_ | refine hx_any ?_ | (apply ha_end; decide +kernel))
  refine hl_storeA 1 rfl rfl rfl rfl rfl (chV_one hu) ?_
  repeat' (first | refine hl_a ?_ | refine hq_a ?_ | refine hl_nil ?_ | refine hq_nil ?_ | refine hq_ga ?_ | refine hq_sk ?_ | refine hq_su ?_ | refine hq_gT ?_ | refine hq_gF ?_ | refine hq_gd (fun h => ?_) (fun h => ?_) | refine hl_ga ?_ | refine hl_sk ?_ | refine hl_su ?_ | refine hl_gT ?_ | refine hl_gF ?_ | refine hl_gd (fun h => ?_) (fun h => ?_) | refine hx_next ?_ | refine hw_seq ?_ | refine hw_region ?_ | refine hw_dr ?_ | refine hw_block ?_ | refine hx_block ?_ | refine hw_tt ?_ | refine hw_ff ?_ | refine hw_iT ?_ | refine hw_iF ?_ | refine hw_skip ?_ | refine hw_ret ?_ | refine hw_exit ?_ | refine hx_then_ret ?_ | refine hx_block_ret ?_ | refine hx_then_exit ?_ | refine hx_block_here ?_ | refine hx_far ?_ | refine hx_any ?_ | (apply ha_end; decide +kernel))
  exact hx_retBt 1 rfl rfl rfl rfl rfl (fun w hm => ⟨_, _, rfl, hm.lone 2 rfl, u, vs, rfl, rfl, hl, hu⟩)
end Go.Proofs.Ythjoflgplbpeiaa
