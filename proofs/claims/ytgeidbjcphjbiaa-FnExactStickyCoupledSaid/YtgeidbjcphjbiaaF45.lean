/- Contracts: StickyCoupled. -/
import Derived.Test.YtgeidbjcphjbiaaF44
namespace Go.Proofs.Ytgeidbjcphjbiaa
open Go.Eng Go.RowKit
set_option linter.unusedVariables false

/-- The diagonal, its first entries; a row, its first entries. -/
def dgL (n : Nat) (g : Nat → Int) (u : Nat) : List Int := tab (n * n) fun k => if k / n < u ∧ k / n = k % n then g (k / n) else 0
def cpL (m : Nat) (ys : List Int) (J : Nat) : List Int := tab m fun k => if k < J then ys.getD k 0 else 0
theorem dgL_length (n : Nat) (g : Nat → Int) (u : Nat) : (dgL n g u).length = n * n := tab_length _ _
theorem cpL_length (m : Nat) (ys : List Int) (J : Nat) : (cpL m ys J).length = m := tab_length _ _
theorem dgL_0 (n : Nat) (g : Nat → Int) : dgL n g 0 = zer (n * n) := tab_congr _ _ _ fun k _ => by rw [if_neg (by omega)]
theorem cpL_0 (m : Nat) (ys : List Int) : cpL m ys 0 = zer m := tab_congr _ _ _ fun k _ => by rw [if_neg (by omega)]
theorem dgL_getD (n : Nat) (g : Nat → Int) (u : Nat) (hu : u < n) : (dgL n g u).getD (u * n + u) 0 = 0 := by
  rw [dgL, tab_getD _ _ _ _ (idx_lt hu hu), if_neg]
  rw [(dvC u hu).1]; omega
theorem cpL_getD (m : Nat) (ys : List Int) (J : Nat) (h : J < m) : (cpL m ys J).getD J 0 = 0 := by rw [cpL, tab_getD _ _ _ _ h, if_neg (by omega)]
theorem dgL_set (n : Nat) (g : Nat → Int) (u : Nat) (hu : u < n) : (dgL n g u).set (u * n + u) (g u) = dgL n g (u + 1) := by
  unfold dgL
  rw [tab_set]
  refine tab_congr _ _ _ fun k hk => ?_
  by_cases e : k = u * n + u
  · subst e; rw [if_pos rfl, (dvC u hu).1, (dvC u hu).2, if_pos ⟨by omega, rfl⟩]
  · rw [if_neg e]
    have h1 : k / n = u ∧ k / n = k % n → k = u * n + u := fun h => by
      have := Nat.div_add_mod k n
      rw [← h.2, h.1] at this
      rw [← this, Nat.mul_comm]
    by_cases h2 : k / n < u ∧ k / n = k % n
    · rw [if_pos h2, if_pos ⟨by omega, h2.2⟩]
    · rw [if_neg h2, if_neg]
      rintro ⟨h3, h4⟩
      by_cases h5 : k / n = u
      · exact e (h1 ⟨h5, h4⟩)
      · exact h2 ⟨by omega, h4⟩
theorem cpL_set (m : Nat) (ys : List Int) (J : Nat) : (cpL m ys J).set J (ys.getD J 0) = cpL m ys (J + 1) := by
  unfold cpL
  rw [tab_set]
  refine tab_congr _ _ _ fun k hk => ?_
  by_cases e : k = J
  · subst e; rw [if_pos rfl, if_pos (by omega)]
  · rw [if_neg e]
    by_cases h1 : k < J
    · rw [if_pos h1, if_pos (by omega)]
    · rw [if_neg h1, if_neg (by omega)]
theorem cpL_all (ys : List Int) : cpL ys.length ys ys.length = ys := by
  have : cpL ys.length ys ys.length = tab ys.length fun t => ys.getD t 0 := tab_congr _ _ _ fun k hk => by rw [if_pos hk]
  rw [this]; exact row_tab ys
/-- The rows of a sticky coupled chain. -/
def rowK (xss : List (List Int)) (tot tot1 : Int) (yss : List (List Int)) (s t : Nat) : List Int :=
  if s = t then dgL xss.length (fun u => cAt xss s u * tot1 / tot) xss.length else cpL (xss.length * xss.length) (yss.getD (s * xss.length + t) []) (xss.length * xss.length)
theorem rowK_length (xss : List (List Int)) (tot tot1 : Int) (yss : List (List Int)) (s t : Nat) : (rowK xss tot tot1 yss s t).length = xss.length * xss.length := by
  unfold rowK
  split
  · exact dgL_length _ _ _
  · exact cpL_length _ _ _
def DivP (xss : List (List Int)) (tot tot1 : Int) : Prop := ∀ s, s < xss.length → ∀ u, u < xss.length → cAt xss s u * tot1 % tot = 0
noncomputable instance (xss : List (List Int)) (tot tot1 : Int) : Decidable (DivP xss tot tot1) := Classical.propDecidable _
noncomputable def stiM (st tot : Int) (xss : List (List Int)) (st1 tot1 : Int) (yss : List (List Int)) : ChM :=
  if ValidC st tot xss st1 tot1 yss then if DivP xss tot tot1 then coupM st tot xss tot1 (rowK xss tot tot1 yss) else mErr 3 else mErr 1
theorem stiM_small (st tot : Int) (xss : List (List Int)) (st1 tot1 : Int) (yss : List (List Int)) : Small (stiM st tot xss st1 tot1 yss).xss := by
  unfold stiM
  split
  · split
    · exact coupM_small _ _ _ _ _ (rowK_length _ _ _ _)
    · exact ⟨by simp [mErr], fun i hi => by simp [mErr] at hi⟩
  · exact ⟨by simp [mErr], fun i hi => by simp [mErr] at hi⟩
section
variable {w0 : World} {pn pc pm : Addr} {st tot : Int} {v : Value} {xss : List (List Int)} {row : Nat → Value} {st1 tot1 : Int} {v1 : Value} {yss : List (List Int)} {row1 : Nat → Value}
set_option maxHeartbeats 2000000 in
theorem sticky1_c (hpn : w0.cell? pn = some (.int .i64 (xss.length : Int))) (hp : PtC w0 pc st tot v xss row) (hp1 : PtC w0 pm st1 tot1 v1 yss row1) (hv : ValidC st tot xss st1 tot1 yss) (F : Res) (brow bn : Nat) (x : Value) (s t : Nat) (hs : s < xss.length) (ht : t < xss.length) :
    MutF Try.prog 99 [.int .i64 (s : Int), .int .i64 (t : Int), .func (.func 124) #[] #[.pointer (some ⟨brow, 0, none⟩), .pointer (some ⟨bn, 0, none⟩)], .pointer (some pn), .pointer (some pc), .pointer (some pm)] w0 (rPut brow bn x xss.length (zer (xss.length * xss.length))) F (fun v' r' => v' = .tuple #[] ∧ r' = rPut brow bn x xss.length (rowK xss tot tot1 yss s t)) := by
  refine mutF_hw Try.func99 Try.ntmps99 rfl rfl ?_
  obtain ⟨h0, h1, h2, hr⟩ := hp
  obtain ⟨g0, g1, g2, hr1⟩ := hp1
  have hvv := hv.v
  have hn := hvv.nat
  have hn4 : xss.length ≤ 4 := by have := hv.s4; omega
  have h16 : xss.length * xss.length ≤ 16 := Nat.mul_le_mul hn4 hn4
  have ht1 := hv.t
  have htt := hvv.t1
  have hsl := hr.sl
  have hsl1 := hr1.sl
  have cs := hr.get s hs
  have rs' := hr.row s hs
  have ss := rs'.sl
  have l1 := hvv.rlen s hs
  rw [l1] at ss
  have hst := idx_lt hs ht
  have hst2 : s * xss.length + t < yss.length := by rw [hv.len]; exact hst
  have cst := hr1.get _ hst2
  have rst := hr1.row _ hst2
  have sst := rst.sl
  have hrow := hv.row _ hst
  have lst := hrow.len
  rw [lst] at sst
  repeat' (first | refine hl_a ?_ | refine hq_a ?_ | refine hl_nil ?_ | refine hq_nil ?_ | refine hq_ga ?_ | refine hq_sk ?_ | refine hq_su ?_ | refine hq_gT ?_ | refine hq_gF ?_ | refine hq_gd (fun h => ?_) (fun h => ?_) | refine hl_ga ?_ | refine hl_sk ?_ | refine hl_su ?_ | refine hl_gT ?_ | refine hl_gF ?_ | refine hl_gd (fun h => ?_) (fun h => ?_) | refine hx_next ?_ | refine hw_seq ?_ | refine hw_region ?_ | refine hw_dr ?_ | refine hw_block ?_ | refine hx_block ?_ | refine hw_tt ?_ | refine hw_ff ?_ | refine hw_iT ?_ | refine hw_iF ?_ | refine hw_skip ?_ | refine hw_ret ?_ | refine hw_exit ?_ | refine hx_then_ret ?_ | refine hx_block_ret ?_ | refine hx_then_exit ?_ | refine hx_block_here ?_ | refine hx_far ?_ | refine hx_any ?_ | (apply ha_end; decide +kernel))
  rcases Classical.em (s = t) with hq | hq
  · have hK : rowK xss tot tot1 yss s t = dgL xss.length (fun u => cAt xss s u * tot1 / tot) xss.length := by rw [rowK, if_pos hq]
    have hq2 : (s : Int) = (t : Int) := by omega
    rw [hK]
    refine hw_loop (fun e r m => ∃ u : Nat, r = [rPut brow bn x xss.length (dgL xss.length (fun u => cAt xss s u * tot1 / tot) u), F] ∧ u ≤ xss.length ∧ m = xss.length - u ∧ e = [(0, .int .i64 (s : Int)), (1, .int .i64 (t : Int)), (2, .func (.func 124) #[] #[.pointer (some ⟨brow, 0, none⟩), .pointer (some ⟨bn, 0, none⟩)]), (3, .pointer (some pn)), (4, .pointer (some pc)), (5, .pointer (some pm)), (11, .int .i64 (xss.length : Int)), (12, .int .i64 (u : Int))])
      ⟨0, by rw [dgL_0], Nat.zero_le _, rfl, rfl⟩ ⟨rfl, rfl, rfl, rfl, rfl, rfl, rfl, rfl, trivial⟩ ?_
    rintro _ _ _ ⟨u, rfl, hu, rfl, rfl⟩
    repeat' (first | refine hl_a ?_ | refine hq_a ?_ | refine hl_nil ?_ | refine hq_nil ?_ | refine hq_ga ?_ | refine hq_sk ?_ | refine hq_su ?_ | refine hq_gT ?_ | refine hq_gF ?_ | refine hq_gd (fun h => ?_) (fun h => ?_) | refine hl_ga ?_ | refine hl_sk ?_ | refine hl_su ?_ | refine hl_gT ?_ | refine hl_gF ?_ | refine hl_gd (fun h => ?_) (fun h => ?_) | refine hx_next ?_ | refine hw_seq ?_ | refine hw_region ?_ | refine hw_dr ?_ | refine hw_block ?_ | refine hx_block ?_ | refine hw_tt ?_ | refine hw_ff ?_ | refine hw_iT ?_ | refine hw_iF ?_ | refine hw_skip ?_ | refine hw_ret ?_ | refine hw_exit ?_ | refine hx_then_ret ?_ | refine hx_block_ret ?_ | refine hx_then_exit ?_ | refine hx_block_here ?_ | refine hx_far ?_ | refine hx_any ?_ | (apply ha_end; decide +kernel))
    refine hw_if rfl (fun hlt => ?_) (fun hge => ?_)
    · have hu2 : u < xss.length := by omega
      have lu : u < (xss.getD s []).length := by omega
      have cu : w0.cell? (vAt (row s) u) = some (.int .i64 (cAt xss s u)) := rs'.get u lu
      have au := hvv.at s u hs hu2
      have mm := mul_bd (A := 60) (B := 3600) (a := cAt xss s u) (b := tot1) (by omega) (by omega)
      have hd1 : 0 ≤ cAt xss s u * tot1 / tot := Int.ediv_nonneg mm.1 (by omega)
      have hd2 : cAt xss s u * tot1 / tot ≤ cAt xss s u * tot1 := Int.ediv_le_self tot mm.1
      have hz := dgL_getD xss.length (fun u => cAt xss s u * tot1 / tot) u hu2
      have hset := dgL_set xss.length (fun u => cAt xss s u * tot1 / tot) u hu2
      repeat' (first | refine hl_a ?_ | refine hq_a ?_ | refine hl_nil ?_ | refine hq_nil ?_ | refine hq_ga ?_ | refine hq_sk ?_ | refine hq_su ?_ | refine hq_gT ?_ | refine hq_gF ?_ | refine hq_gd (fun h => ?_) (fun h => ?_) | refine hl_ga ?_ | refine hl_sk ?_ | refine hl_su ?_ | refine hl_gT ?_ | refine hl_gF ?_ | refine hl_gd (fun h => ?_) (fun h => ?_) | refine hx_next ?_ | refine hw_seq ?_ | refine hw_region ?_ | refine hw_block ?_ | refine hx_block ?_ | refine hw_tt ?_ | refine hw_ff ?_ | refine hw_iT ?_ | refine hw_iF ?_ | refine hw_skip ?_ | refine hw_ret ?_ | refine hw_exit ?_ | refine hx_then_ret ?_ | refine hx_block_ret ?_ | refine hx_then_exit ?_ | refine hx_block_here ?_ | refine hx_far ?_ | refine hx_any ?_ | (apply ha_end; decide +kernel))
      refine hw_g [] 18 (by kernel_rfl) ?_
      first | refine hg_t 0 ?_ | refine hg_tn 0 ?_
      first | refine hg_t 1 ?_ | refine hg_tn 1 ?_
      first | refine hg_t 2 ?_ | refine hg_tn 2 ?_
      first | refine hg_t 3 ?_ | refine hg_tn 3 ?_
      first | refine hg_t 4 ?_ | refine hg_tn 4 ?_
      first | refine hg_t 5 ?_ | refine hg_tn 5 ?_
      first | refine hg_t 6 ?_ | refine hg_tn 6 ?_
      first | refine hg_t 7 ?_ | refine hg_tn 7 ?_
      first | refine hg_t 8 ?_ | refine hg_tn 8 ?_
      first | refine hg_t 9 ?_ | refine hg_tn 9 ?_
      first | refine hg_t 10 ?_ | refine hg_tn 10 ?_
      first | refine hg_t 11 ?_ | refine hg_tn 11 ?_
      first | refine hg_t 12 ?_ | refine hg_tn 12 ?_
      first | refine hg_t 13 ?_ | refine hg_tn 13 ?_
      first | refine hg_t 14 ?_ | refine hg_tn 14 ?_
      first | refine hg_t 15 ?_ | refine hg_tn 15 ?_
      refine hg_t 16 ?_ (hq := by exact q_quo rfl rfl (by omega) (by omega))
      refine hg_1 17 (by decide +kernel) rfl ?_
      refine hl_mutFv (vs := [.int .i64 (u : Int), .int .i64 (u : Int), .int .i64 (cAt xss s u * tot1 / tot)]) 0 rfl rfl (by decide) rfl (put_c brow bn x xss.length _ w0 _ u u _ hn4 (dgL_length _ _ _) hu2 hu2 (by rw [hz]; decide) (by omega)) ?_
      rintro _ _ ⟨rfl, rfl⟩
      refine hl_nil ?_
      refine hx_hg (by first | exact fun w hm => hm.none | exact fun w hm => Mem.keep _ hm) ?_
      refine hg_end (by decide +kernel) ?_
      repeat' (first | refine hl_a ?_ | refine hq_a ?_ | refine hl_nil ?_ | refine hq_nil ?_ | refine hq_ga ?_ | refine hq_sk ?_ | refine hq_su ?_ | refine hq_gT ?_ | refine hq_gF ?_ | refine hq_gd (fun h => ?_) (fun h => ?_) | refine hl_ga ?_ | refine hl_sk ?_ | refine hl_su ?_ | refine hl_gT ?_ | refine hl_gF ?_ | refine hl_gd (fun h => ?_) (fun h => ?_) | refine hx_next ?_ | refine hw_seq ?_ | refine hw_region ?_ | refine hw_block ?_ | refine hx_block ?_ | refine hw_tt ?_ | refine hw_ff ?_ | refine hw_iT ?_ | refine hw_iF ?_ | refine hw_skip ?_ | refine hw_ret ?_ | refine hw_exit ?_ | refine hx_then_ret ?_ | refine hx_block_ret ?_ | refine hx_then_exit ?_ | refine hx_block_here ?_ | refine hx_far ?_ | refine hx_any ?_ | (apply ha_end; decide +kernel))
      refine hx_round ⟨u + 1, ?_, hu2, rfl, rfl⟩ (by omega) ⟨rfl, rfl, rfl, rfl, rfl, rfl, rfl, rfl, trivial⟩
      rw [← hset, addAt, hz, Int.zero_add]; rfl
    · have e : u = xss.length := by omega
      subst e
      repeat' (first | refine hl_a ?_ | refine hq_a ?_ | refine hl_nil ?_ | refine hq_nil ?_ | refine hq_ga ?_ | refine hq_sk ?_ | refine hq_su ?_ | refine hq_gT ?_ | refine hq_gF ?_ | refine hq_gd (fun h => ?_) (fun h => ?_) | refine hl_ga ?_ | refine hl_sk ?_ | refine hl_su ?_ | refine hl_gT ?_ | refine hl_gF ?_ | refine hl_gd (fun h => ?_) (fun h => ?_) | refine hx_next ?_ | refine hw_seq ?_ | refine hw_region ?_ | refine hw_dr ?_ | refine hw_block ?_ | refine hx_block ?_ | refine hw_tt ?_ | refine hw_ff ?_ | refine hw_iT ?_ | refine hw_iF ?_ | refine hw_skip ?_ | refine hw_ret ?_ | refine hw_exit ?_ | refine hx_then_ret ?_ | refine hx_block_ret ?_ | refine hx_then_exit ?_ | refine hx_block_here ?_ | refine hx_far ?_ | refine hx_any ?_ | (apply ha_end; decide +kernel))
      exact hx_end0 rfl (fun w hm => ⟨_, _, rfl, ⟨rfl, rfl⟩, hm⟩)
  · have hK : rowK xss tot tot1 yss s t = cpL (xss.length * xss.length) (yss.getD (s * xss.length + t) []) (xss.length * xss.length) := by rw [rowK, if_neg hq]
    have hq2 : ¬ ((s : Int) = (t : Int)) := by omega
    rw [hK]
    refine hw_loop (fun e r m => ∃ u : Nat, r = [rPut brow bn x xss.length (cpL (xss.length * xss.length) (yss.getD (s * xss.length + t) []) (u * xss.length + 0)), F] ∧ u ≤ xss.length ∧ m = xss.length - u ∧ e = [(0, .int .i64 (s : Int)), (1, .int .i64 (t : Int)), (2, .func (.func 124) #[] #[.pointer (some ⟨brow, 0, none⟩), .pointer (some ⟨bn, 0, none⟩)]), (3, .pointer (some pn)), (4, .pointer (some pc)), (5, .pointer (some pm)), (11, .int .i64 (xss.length : Int)), (12, .int .i64 (u : Int))])
      ⟨0, by rw [show 0 * xss.length + 0 = 0 by simp, cpL_0], Nat.zero_le _, rfl, rfl⟩ ⟨rfl, rfl, rfl, rfl, rfl, rfl, rfl, rfl, trivial⟩ ?_
    rintro _ _ _ ⟨u, rfl, hu, rfl, rfl⟩
    repeat' (first | refine hl_a ?_ | refine hq_a ?_ | refine hl_nil ?_ | refine hq_nil ?_ | refine hq_ga ?_ | refine hq_sk ?_ | refine hq_su ?_ | refine hq_gT ?_ | refine hq_gF ?_ | refine hq_gd (fun h => ?_) (fun h => ?_) | refine hl_ga ?_ | refine hl_sk ?_ | refine hl_su ?_ | refine hl_gT ?_ | refine hl_gF ?_ | refine hl_gd (fun h => ?_) (fun h => ?_) | refine hx_next ?_ | refine hw_seq ?_ | refine hw_region ?_ | refine hw_dr ?_ | refine hw_block ?_ | refine hx_block ?_ | refine hw_tt ?_ | refine hw_ff ?_ | refine hw_iT ?_ | refine hw_iF ?_ | refine hw_skip ?_ | refine hw_ret ?_ | refine hw_exit ?_ | refine hx_then_ret ?_ | refine hx_block_ret ?_ | refine hx_then_exit ?_ | refine hx_block_here ?_ | refine hx_far ?_ | refine hx_any ?_ | (apply ha_end; decide +kernel))
    refine hw_if rfl (fun hlt => ?_) (fun hge => ?_)
    · have hu2 : u < xss.length := by omega
      repeat' (first | refine hl_a ?_ | refine hq_a ?_ | refine hl_nil ?_ | refine hq_nil ?_ | refine hq_ga ?_ | refine hq_sk ?_ | refine hq_su ?_ | refine hq_gT ?_ | refine hq_gF ?_ | refine hq_gd (fun h => ?_) (fun h => ?_) | refine hl_ga ?_ | refine hl_sk ?_ | refine hl_su ?_ | refine hl_gT ?_ | refine hl_gF ?_ | refine hl_gd (fun h => ?_) (fun h => ?_) | refine hx_next ?_ | refine hw_seq ?_ | refine hw_region ?_ | refine hw_dr ?_ | refine hw_block ?_ | refine hx_block ?_ | refine hw_tt ?_ | refine hw_ff ?_ | refine hw_iT ?_ | refine hw_iF ?_ | refine hw_skip ?_ | refine hw_ret ?_ | refine hw_exit ?_ | refine hx_then_ret ?_ | refine hx_block_ret ?_ | refine hx_then_exit ?_ | refine hx_block_here ?_ | refine hx_far ?_ | refine hx_any ?_ | (apply ha_end; decide +kernel))
      refine hw_loop (fun e r m => ∃ q : Nat, r = [rPut brow bn x xss.length (cpL (xss.length * xss.length) (yss.getD (s * xss.length + t) []) (u * xss.length + q)), F] ∧ q ≤ xss.length ∧ m = xss.length - q ∧ e = [(0, .int .i64 (s : Int)), (1, .int .i64 (t : Int)), (2, .func (.func 124) #[] #[.pointer (some ⟨brow, 0, none⟩), .pointer (some ⟨bn, 0, none⟩)]), (3, .pointer (some pn)), (4, .pointer (some pc)), (5, .pointer (some pm)), (9, .int .i64 (u : Int)), (11, .int .i64 (xss.length : Int)), (12, .int .i64 (u : Int)), (36, .int .i64 (xss.length : Int)), (37, .int .i64 (q : Int))])
        ⟨0, rfl, Nat.zero_le _, rfl, rfl⟩ ⟨rfl, rfl, rfl, rfl, rfl, rfl, rfl, rfl, rfl, rfl, rfl, trivial⟩ ?_
      rintro _ _ _ ⟨q, rfl, hq', rfl, rfl⟩
      repeat' (first | refine hl_a ?_ | refine hq_a ?_ | refine hl_nil ?_ | refine hq_nil ?_ | refine hq_ga ?_ | refine hq_sk ?_ | refine hq_su ?_ | refine hq_gT ?_ | refine hq_gF ?_ | refine hq_gd (fun h => ?_) (fun h => ?_) | refine hl_ga ?_ | refine hl_sk ?_ | refine hl_su ?_ | refine hl_gT ?_ | refine hl_gF ?_ | refine hl_gd (fun h => ?_) (fun h => ?_) | refine hx_next ?_ | refine hw_seq ?_ | refine hw_region ?_ | refine hw_dr ?_ | refine hw_block ?_ | refine hx_block ?_ | refine hw_tt ?_ | refine hw_ff ?_ | refine hw_iT ?_ | refine hw_iF ?_ | refine hw_skip ?_ | refine hw_ret ?_ | refine hw_exit ?_ | refine hx_then_ret ?_ | refine hx_block_ret ?_ | refine hx_then_exit ?_ | refine hx_block_here ?_ | refine hx_far ?_ | refine hx_any ?_ | (apply ha_end; decide +kernel))
      refine hw_if rfl (fun hlt2 => ?_) (fun hge2 => ?_)
      · have hq3 : q < xss.length := by omega
        have hi := idx_lt hu2 hq3
        have cuq := rst.get (u * xss.length + q) (by omega)
        have auq := hrow.all _ hi
        have hz := cpL_getD (xss.length * xss.length) (yss.getD (s * xss.length + t) []) (u * xss.length + q) hi
        have hset := cpL_set (xss.length * xss.length) (yss.getD (s * xss.length + t) []) (u * xss.length + q)
        repeat' (first | refine hl_a ?_ | refine hq_a ?_ | refine hl_nil ?_ | refine hq_nil ?_ | refine hq_ga ?_ | refine hq_sk ?_ | refine hq_su ?_ | refine hq_gT ?_ | refine hq_gF ?_ | refine hq_gd (fun h => ?_) (fun h => ?_) | refine hl_ga ?_ | refine hl_sk ?_ | refine hl_su ?_ | refine hl_gT ?_ | refine hl_gF ?_ | refine hl_gd (fun h => ?_) (fun h => ?_) | refine hx_next ?_ | refine hw_seq ?_ | refine hw_region ?_ | refine hw_block ?_ | refine hx_block ?_ | refine hw_tt ?_ | refine hw_ff ?_ | refine hw_iT ?_ | refine hw_iF ?_ | refine hw_skip ?_ | refine hw_ret ?_ | refine hw_exit ?_ | refine hx_then_ret ?_ | refine hx_block_ret ?_ | refine hx_then_exit ?_ | refine hx_block_here ?_ | refine hx_far ?_ | refine hx_any ?_ | (apply ha_end; decide +kernel))
        refine hw_g [] 20 (by kernel_rfl) ?_
        first | refine hg_t 0 ?_ | refine hg_tn 0 ?_
        first | refine hg_t 1 ?_ | refine hg_tn 1 ?_
        first | refine hg_t 2 ?_ | refine hg_tn 2 ?_
        first | refine hg_t 3 ?_ | refine hg_tn 3 ?_
        first | refine hg_t 4 ?_ | refine hg_tn 4 ?_
        first | refine hg_t 5 ?_ | refine hg_tn 5 ?_
        first | refine hg_t 6 ?_ | refine hg_tn 6 ?_
        refine hg_t 7 ?_ (hq := by exact q_mulN (a := s) (b := xss.length) rfl rfl (by omega))
        first | refine hg_t 8 ?_ | refine hg_tn 8 ?_
        refine hg_t 9 ?_ (hq := by exact q_addN (a := s * xss.length) (b := t) rfl rfl (by omega))
        first | refine hg_t 10 ?_ | refine hg_tn 10 ?_
        first | refine hg_t 11 ?_ | refine hg_tn 11 ?_
        first | refine hg_t 12 ?_ | refine hg_tn 12 ?_
        first | refine hg_t 13 ?_ | refine hg_tn 13 ?_
        refine hg_t 14 ?_ (hq := by exact q_mulN (a := u) (b := xss.length) rfl rfl (by omega))
        first | refine hg_t 15 ?_ | refine hg_tn 15 ?_
        refine hg_t 16 ?_ (hq := by exact q_addN (a := u * xss.length) (b := q) rfl rfl (by omega))
        first | refine hg_t 17 ?_ | refine hg_tn 17 ?_
        first | refine hg_t 18 ?_ | refine hg_tn 18 ?_
        refine hg_1 19 (by decide +kernel) rfl ?_
        refine hl_mutFv (vs := [.int .i64 (u : Int), .int .i64 (q : Int), .int .i64 ((yss.getD (s * xss.length + t) []).getD (u * xss.length + q) 0)]) 0 rfl rfl (by decide) rfl (put_c brow bn x xss.length _ w0 _ u q _ hn4 (cpL_length _ _ _) hu2 hq3 (by rw [hz]; decide) (by omega)) ?_
        rintro _ _ ⟨rfl, rfl⟩
        refine hl_nil ?_
        refine hx_hg (by first | exact fun w hm => hm.none | exact fun w hm => Mem.keep _ hm) ?_
        refine hg_end (by decide +kernel) ?_
        repeat' (first | refine hl_a ?_ | refine hq_a ?_ | refine hl_nil ?_ | refine hq_nil ?_ | refine hq_ga ?_ | refine hq_sk ?_ | refine hq_su ?_ | refine hq_gT ?_ | refine hq_gF ?_ | refine hq_gd (fun h => ?_) (fun h => ?_) | refine hl_ga ?_ | refine hl_sk ?_ | refine hl_su ?_ | refine hl_gT ?_ | refine hl_gF ?_ | refine hl_gd (fun h => ?_) (fun h => ?_) | refine hx_next ?_ | refine hw_seq ?_ | refine hw_region ?_ | refine hw_block ?_ | refine hx_block ?_ | refine hw_tt ?_ | refine hw_ff ?_ | refine hw_iT ?_ | refine hw_iF ?_ | refine hw_skip ?_ | refine hw_ret ?_ | refine hw_exit ?_ | refine hx_then_ret ?_ | refine hx_block_ret ?_ | refine hx_then_exit ?_ | refine hx_block_here ?_ | refine hx_far ?_ | refine hx_any ?_ | (apply ha_end; decide +kernel))
        refine hx_round ⟨q + 1, ?_, hq3, rfl, rfl⟩ (by omega) ⟨rfl, rfl, rfl, rfl, rfl, rfl, rfl, rfl, rfl, rfl, rfl, trivial⟩
        rw [← Nat.add_assoc, ← hset, addAt, hz, Int.zero_add]; rfl
      · have e : q = xss.length := by omega
        subst e
        repeat' (first | refine hl_a ?_ | refine hq_a ?_ | refine hl_nil ?_ | refine hq_nil ?_ | refine hq_ga ?_ | refine hq_sk ?_ | refine hq_su ?_ | refine hq_gT ?_ | refine hq_gF ?_ | refine hq_gd (fun h => ?_) (fun h => ?_) | refine hl_ga ?_ | refine hl_sk ?_ | refine hl_su ?_ | refine hl_gT ?_ | refine hl_gF ?_ | refine hl_gd (fun h => ?_) (fun h => ?_) | refine hx_next ?_ | refine hw_seq ?_ | refine hw_region ?_ | refine hw_dr ?_ | refine hw_block ?_ | refine hx_block ?_ | refine hw_tt ?_ | refine hw_ff ?_ | refine hw_iT ?_ | refine hw_iF ?_ | refine hw_skip ?_ | refine hw_ret ?_ | refine hw_exit ?_ | refine hx_then_ret ?_ | refine hx_block_ret ?_ | refine hx_then_exit ?_ | refine hx_block_here ?_ | refine hx_far ?_ | refine hx_any ?_ | (apply ha_end; decide +kernel))
        have e2 : u * xss.length + xss.length = (u + 1) * xss.length + 0 := by rw [Nat.succ_mul]; rfl
        rw [e2]
        exact hx_round ⟨u + 1, rfl, hu2, rfl, rfl⟩ (by omega) ⟨rfl, rfl, rfl, rfl, rfl, rfl, rfl, rfl, trivial⟩
    · have e : u = xss.length := by omega
      subst e
      repeat' (first | refine hl_a ?_ | refine hq_a ?_ | refine hl_nil ?_ | refine hq_nil ?_ | refine hq_ga ?_ | refine hq_sk ?_ | refine hq_su ?_ | refine hq_gT ?_ | refine hq_gF ?_ | refine hq_gd (fun h => ?_) (fun h => ?_) | refine hl_ga ?_ | refine hl_sk ?_ | refine hl_su ?_ | refine hl_gT ?_ | refine hl_gF ?_ | refine hl_gd (fun h => ?_) (fun h => ?_) | refine hx_next ?_ | refine hw_seq ?_ | refine hw_region ?_ | refine hw_dr ?_ | refine hw_block ?_ | refine hx_block ?_ | refine hw_tt ?_ | refine hw_ff ?_ | refine hw_iT ?_ | refine hw_iF ?_ | refine hw_skip ?_ | refine hw_ret ?_ | refine hw_exit ?_ | refine hx_then_ret ?_ | refine hx_block_ret ?_ | refine hx_then_exit ?_ | refine hx_block_here ?_ | refine hx_far ?_ | refine hx_any ?_ | (apply ha_end; decide +kernel))
      exact hx_end0 rfl (fun w hm => ⟨_, _, rfl, ⟨rfl, rfl⟩, hm⟩)
end
set_option maxHeartbeats 2000000 in
theorem implStickyCoupled_c (st tot : Int) (v : Value) (xss : List (List Int)) (row : Nat → Value) (st1 tot1 : Int) (v1 : Value) (yss : List (List Int)) (row1 : Nat → Value) (w : World) (hr : RdS (Value.int .i64) 0 w v xss row) (hr1 : RdS (Value.int .i64) 0 w v1 yss row1) :
    Gives Try.prog 51 [chV st tot v, chV st1 tot1 v1] w (ChOut 82 2 (stiM st tot xss st1 tot1 yss)) := by
  refine calls_hw Try.func51 Try.ntmps51 rfl rfl ?_
  have hsl := hr.sl
  have hle := hsl.le
  repeat' (first | refine hl_a ?_ | refine hq_a ?_ | refine hl_nil ?_ | refine hq_nil ?_ | refine hq_ga ?_ | refine hq_sk ?_ | refine hq_su ?_ | refine hq_gT ?_ | refine hq_gF ?_ | refine hq_gd (fun h => ?_) (fun h => ?_) | refine hl_ga ?_ | refine hl_sk ?_ | refine hl_su ?_ | refine hl_gT ?_ | refine hl_gF ?_ | refine hl_gd (fun h => ?_) (fun h => ?_) | refine hx_next ?_ | refine hw_seq ?_ | refine hw_region ?_ | refine hw_dr ?_ | refine hw_block ?_ | refine hx_block ?_ | refine hw_tt ?_ | refine hw_ff ?_ | refine hw_iT ?_ | refine hw_iF ?_ | refine hw_skip ?_ | refine hw_ret ?_ | refine hw_exit ?_ | refine hx_then_ret ?_ | refine hx_block_ret ?_ | refine hx_then_exit ?_ | refine hx_block_here ?_ | refine hx_far ?_ | refine hx_any ?_ | (apply ha_end; decide +kernel))
  refine hl_box (by decide) rfl (fun b => ?_)
  refine hl_box (by decide) rfl (fun b' => ?_)
  refine hl_alloc (by decide) (fun b0 => ?_)
  repeat' (first | refine hl_a ?_ | refine hq_a ?_ | refine hl_nil ?_ | refine hq_nil ?_ | refine hq_ga ?_ | refine hq_sk ?_ | refine hq_su ?_ | refine hq_gT ?_ | refine hq_gF ?_ | refine hq_gd (fun h => ?_) (fun h => ?_) | refine hl_ga ?_ | refine hl_sk ?_ | refine hl_su ?_ | refine hl_gT ?_ | refine hl_gF ?_ | refine hl_gd (fun h => ?_) (fun h => ?_) | refine hx_next ?_ | refine hw_seq ?_ | refine hw_region ?_ | refine hw_dr ?_ | refine hw_block ?_ | refine hx_block ?_ | refine hw_tt ?_ | refine hw_ff ?_ | refine hw_iT ?_ | refine hw_iF ?_ | refine hw_skip ?_ | refine hw_ret ?_ | refine hw_exit ?_ | refine hx_then_ret ?_ | refine hx_block_ret ?_ | refine hx_then_exit ?_ | refine hx_block_here ?_ | refine hx_far ?_ | refine hx_any ?_ | (apply ha_end; decide +kernel))
  first | refine hl_q (by decide) (q_call (fun w hm => implValidCoupled_c st tot v xss row st1 tot1 v1 yss row1 w (hr.up hm.below) (hr1.up hm.below)) rfl) ?_ | refine hq_q (by decide) (q_call (fun w hm => implValidCoupled_c st tot v xss row st1 tot1 v1 yss row1 w (hr.up hm.below) (hr1.up hm.below)) rfl) ?_ | refine hl_g _ _ rfl rfl (by decide) (q_call (fun w hm => implValidCoupled_c st tot v xss row st1 tot1 v1 yss row1 w (hr.up hm.below) (hr1.up hm.below)) rfl) ?_ | refine hq_g _ _ rfl rfl (by decide) (q_call (fun w hm => implValidCoupled_c st tot v xss row st1 tot1 v1 yss row1 w (hr.up hm.below) (hr1.up hm.below)) rfl) ?_
  repeat' (first | refine hl_a ?_ | refine hq_a ?_ | refine hl_nil ?_ | refine hq_nil ?_ | refine hq_ga ?_ | refine hq_sk ?_ | refine hq_su ?_ | refine hq_gT ?_ | refine hq_gF ?_ | refine hq_gd (fun h => ?_) (fun h => ?_) | refine hl_ga ?_ | refine hl_sk ?_ | refine hl_su ?_ | refine hl_gT ?_ | refine hl_gF ?_ | refine hl_gd (fun h => ?_) (fun h => ?_) | refine hx_next ?_ | refine hw_seq ?_ | refine hw_region ?_ | refine hw_dr ?_ | refine hw_block ?_ | refine hx_block ?_ | refine hw_tt ?_ | refine hw_ff ?_ | refine hw_iT ?_ | refine hw_iF ?_ | refine hw_skip ?_ | refine hw_ret ?_ | refine hw_exit ?_ | refine hx_then_ret ?_ | refine hx_block_ret ?_ | refine hx_then_exit ?_ | refine hx_block_here ?_ | refine hx_far ?_ | refine hx_any ?_ | (apply ha_end; decide +kernel))
  refine hw_if rfl (fun h => ?_) (fun h => ?_)
  · repeat' (first | refine hl_a ?_ | refine hq_a ?_ | refine hl_nil ?_ | refine hq_nil ?_ | refine hq_ga ?_ | refine hq_sk ?_ | refine hq_su ?_ | refine hq_gT ?_ | refine hq_gF ?_ | refine hq_gd (fun h => ?_) (fun h => ?_) | refine hl_ga ?_ | refine hl_sk ?_ | refine hl_su ?_ | refine hl_gT ?_ | refine hl_gF ?_ | refine hl_gd (fun h => ?_) (fun h => ?_) | refine hx_next ?_ | refine hw_seq ?_ | refine hw_region ?_ | refine hw_dr ?_ | refine hw_block ?_ | refine hx_block ?_ | refine hw_tt ?_ | refine hw_ff ?_ | refine hw_iT ?_ | refine hw_iF ?_ | refine hw_skip ?_ | refine hw_ret ?_ | refine hw_exit ?_ | refine hx_then_ret ?_ | refine hx_block_ret ?_ | refine hx_then_exit ?_ | refine hx_block_here ?_ | refine hx_far ?_ | refine hx_any ?_ | (apply ha_end; decide +kernel) | (apply hl_q; decide; (first | exact q_bld [] #[.int .i64 0, .int .i64 0, .slice none 0 0] rfl (by kernel_rfl))) | (apply hq_q; decide; (first | exact q_bld [] #[.int .i64 0, .int .i64 0, .slice none 0 0] rfl (by kernel_rfl))) | (apply hq_g; rfl; rfl; decide; (first | exact q_bld [] #[.int .i64 0, .int .i64 0, .slice none 0 0] rfl (by kernel_rfl))) | (apply hl_g; rfl; rfl; decide; (first | exact q_bld [] #[.int .i64 0, .int .i64 0, .slice none 0 0] rfl (by kernel_rfl))))
    refine hl_storeA 2 rfl rfl rfl rfl rfl (chV_one nil_ok) ?_
    repeat' (first | refine hl_a ?_ | refine hq_a ?_ | refine hl_nil ?_ | refine hq_nil ?_ | refine hq_ga ?_ | refine hq_sk ?_ | refine hq_su ?_ | refine hq_gT ?_ | refine hq_gF ?_ | refine hq_gd (fun h => ?_) (fun h => ?_) | refine hl_ga ?_ | refine hl_sk ?_ | refine hl_su ?_ | refine hl_gT ?_ | refine hl_gF ?_ | refine hl_gd (fun h => ?_) (fun h => ?_) | refine hx_next ?_ | refine hw_seq ?_ | refine hw_region ?_ | refine hw_dr ?_ | refine hw_block ?_ | refine hx_block ?_ | refine hw_tt ?_ | refine hw_ff ?_ | refine hw_iT ?_ | refine hw_iF ?_ | refine hw_skip ?_ | refine hw_ret ?_ | refine hw_exit ?_ | refine hx_then_ret ?_ | refine hx_block_ret ?_ | refine hx_then_exit ?_ | refine hx_block_here ?_ | refine hx_far ?_ | refine hx_any ?_ | (apply ha_end; decide +kernel))
    exact hx_retBt 2 rfl rfl rfl rfl rfl (fun w hm => ⟨_, _, rfl, rows_nil 82 2 _ hm.none, by rw [stiM, if_neg h]; exact chErr _ _ _ rfl⟩)
  have hv := Classical.not_not.1 h
  have hvv := hv.v
  obtain ⟨rfl, hn1, hn2⟩ := hvv.nat
  have ht1 := hv.t
  have htt := hvv.t1
  repeat' (first | refine hl_a ?_ | refine hq_a ?_ | refine hl_nil ?_ | refine hq_nil ?_ | refine hq_ga ?_ | refine hq_sk ?_ | refine hq_su ?_ | refine hq_gT ?_ | refine hq_gF ?_ | refine hq_gd (fun h => ?_) (fun h => ?_) | refine hl_ga ?_ | refine hl_sk ?_ | refine hl_su ?_ | refine hl_gT ?_ | refine hl_gF ?_ | refine hl_gd (fun h => ?_) (fun h => ?_) | refine hx_next ?_ | refine hw_seq ?_ | refine hw_region ?_ | refine hw_dr ?_ | refine hw_block ?_ | refine hx_block ?_ | refine hw_tt ?_ | refine hw_ff ?_ | refine hw_iT ?_ | refine hw_iF ?_ | refine hw_skip ?_ | refine hw_ret ?_ | refine hw_exit ?_ | refine hx_then_ret ?_ | refine hx_block_ret ?_ | refine hx_then_exit ?_ | refine hx_block_here ?_ | refine hx_far ?_ | refine hx_any ?_ | (apply ha_end; decide +kernel))
  refine hw_loop (fun e r m => r = [rBlk b #[.int .i64 (xss.length : Int), .int .i64 tot, v] 31, rBlk b' #[.int .i64 st1, .int .i64 tot1, v1] 69, rBlk b0 #[.int .i64 0, .int .i64 0, .slice none 0 0] 69] ∧ ∃ s : Nat, s ≤ xss.length ∧ m = xss.length - s ∧ e = [(2, .pointer (some ⟨b, 0, none⟩)), (3, .pointer (some ⟨b', 0, none⟩)), (4, .pointer (some ⟨b0, 0, none⟩)), (17, v), (18, .int .i64 (xss.length : Int)), (19, .int .i64 (s : Int))] ∧ ∀ s', s' < s → ∀ u, u < xss.length → cAt xss s' u * tot1 % tot = 0)
    ⟨rfl, 0, Nat.zero_le _, rfl, rfl, by omega⟩ ⟨rfl, rfl, rfl, rfl, rfl, rfl, trivial⟩ ?_
  rintro _ _ _ ⟨rfl, s, hs, rfl, rfl, hall⟩
  repeat' (first | refine hl_a ?_ | refine hq_a ?_ | refine hl_nil ?_ | refine hq_nil ?_ | refine hq_ga ?_ | refine hq_sk ?_ | refine hq_su ?_ | refine hq_gT ?_ | refine hq_gF ?_ | refine hq_gd (fun h => ?_) (fun h => ?_) | refine hl_ga ?_ | refine hl_sk ?_ | refine hl_su ?_ | refine hl_gT ?_ | refine hl_gF ?_ | refine hl_gd (fun h => ?_) (fun h => ?_) | refine hx_next ?_ | refine hw_seq ?_ | refine hw_region ?_ | refine hw_dr ?_ | refine hw_block ?_ | refine hx_block ?_ | refine hw_tt ?_ | refine hw_ff ?_ | refine hw_iT ?_ | refine hw_iF ?_ | refine hw_skip ?_ | refine hw_ret ?_ | refine hw_exit ?_ | refine hx_then_ret ?_ | refine hx_block_ret ?_ | refine hx_then_exit ?_ | refine hx_block_here ?_ | refine hx_far ?_ | refine hx_any ?_ | (apply ha_end; decide +kernel))
  refine hw_if rfl (fun hlt => ?_) (fun hge => ?_)
  · have hs2 : s < xss.length := by omega
    have cs := hr.get s hs2
    have rs' := hr.row s hs2
    have ss := rs'.sl
    have l1 := hvv.rlen s hs2
    rw [l1] at ss
    repeat' (first | refine hl_a ?_ | refine hq_a ?_ | refine hl_nil ?_ | refine hq_nil ?_ | refine hq_ga ?_ | refine hq_sk ?_ | refine hq_su ?_ | refine hq_gT ?_ | refine hq_gF ?_ | refine hq_gd (fun h => ?_) (fun h => ?_) | refine hl_ga ?_ | refine hl_sk ?_ | refine hl_su ?_ | refine hl_gT ?_ | refine hl_gF ?_ | refine hl_gd (fun h => ?_) (fun h => ?_) | refine hx_next ?_ | refine hw_seq ?_ | refine hw_region ?_ | refine hw_dr ?_ | refine hw_block ?_ | refine hx_block ?_ | refine hw_tt ?_ | refine hw_ff ?_ | refine hw_iT ?_ | refine hw_iF ?_ | refine hw_skip ?_ | refine hw_ret ?_ | refine hw_exit ?_ | refine hx_then_ret ?_ | refine hx_block_ret ?_ | refine hx_then_exit ?_ | refine hx_block_here ?_ | refine hx_far ?_ | refine hx_any ?_ | (apply ha_end; decide +kernel))
    refine hw_loop (fun e r m => r = [rBlk b #[.int .i64 (xss.length : Int), .int .i64 tot, v] 31, rBlk b' #[.int .i64 st1, .int .i64 tot1, v1] 69, rBlk b0 #[.int .i64 0, .int .i64 0, .slice none 0 0] 69] ∧ ∃ u : Nat, u ≤ xss.length ∧ m = xss.length - u ∧ e = [(2, .pointer (some ⟨b, 0, none⟩)), (3, .pointer (some ⟨b', 0, none⟩)), (4, .pointer (some ⟨b0, 0, none⟩)), (17, v), (18, .int .i64 (xss.length : Int)), (19, .int .i64 (s : Int)), (23, row s), (24, .int .i64 (xss.length : Int)), (25, .int .i64 (u : Int))] ∧ ∀ u', u' < u → cAt xss s u' * tot1 % tot = 0)
      ⟨rfl, 0, Nat.zero_le _, rfl, rfl, by omega⟩ ⟨rfl, rfl, rfl, rfl, rfl, rfl, rfl, rfl, rfl, trivial⟩ ?_
    rintro _ _ _ ⟨rfl, u, hu, rfl, rfl, hallu⟩
    repeat' (first | refine hl_a ?_ | refine hq_a ?_ | refine hl_nil ?_ | refine hq_nil ?_ | refine hq_ga ?_ | refine hq_sk ?_ | refine hq_su ?_ | refine hq_gT ?_ | refine hq_gF ?_ | refine hq_gd (fun h => ?_) (fun h => ?_) | refine hl_ga ?_ | refine hl_sk ?_ | refine hl_su ?_ | refine hl_gT ?_ | refine hl_gF ?_ | refine hl_gd (fun h => ?_) (fun h => ?_) | refine hx_next ?_ | refine hw_seq ?_ | refine hw_region ?_ | refine hw_dr ?_ | refine hw_block ?_ | refine hx_block ?_ | refine hw_tt ?_ | refine hw_ff ?_ | refine hw_iT ?_ | refine hw_iF ?_ | refine hw_skip ?_ | refine hw_ret ?_ | refine hw_exit ?_ | refine hx_then_ret ?_ | refine hx_block_ret ?_ | refine hx_then_exit ?_ | refine hx_block_here ?_ | refine hx_far ?_ | refine hx_any ?_ | (apply ha_end; decide +kernel))
    refine hw_if rfl (fun hlt2 => ?_) (fun hge2 => ?_)
    · have hu2 : u < xss.length := by omega
      have lu : u < (xss.getD s []).length := by omega
      have cu : w.cell? (vAt (row s) u) = some (.int .i64 (cAt xss s u)) := rs'.get u lu
      have au := hvv.at s u hs2 hu2
      have mm := mul_bd (A := 60) (B := 3600) (a := cAt xss s u) (b := tot1) (by omega) (by omega)
      repeat' (first | refine hl_a ?_ | refine hq_a ?_ | refine hl_nil ?_ | refine hq_nil ?_ | refine hq_ga ?_ | refine hq_sk ?_ | refine hq_su ?_ | refine hq_gT ?_ | refine hq_gF ?_ | refine hq_gd (fun h => ?_) (fun h => ?_) | refine hl_ga ?_ | refine hl_sk ?_ | refine hl_su ?_ | refine hl_gT ?_ | refine hl_gF ?_ | refine hl_gd (fun h => ?_) (fun h => ?_) | refine hx_next ?_ | refine hw_seq ?_ | refine hw_region ?_ | refine hw_dr ?_ | refine hw_block ?_ | refine hx_block ?_ | refine hw_tt ?_ | refine hw_ff ?_ | refine hw_iT ?_ | refine hw_iF ?_ | refine hw_skip ?_ | refine hw_ret ?_ | refine hw_exit ?_ | refine hx_then_ret ?_ | refine hx_block_ret ?_ | refine hx_then_exit ?_ | refine hx_block_here ?_ | refine hx_far ?_ | refine hx_any ?_ | (apply ha_end; decide +kernel) | (apply hl_q; decide; (first | exact q_mul rfl rfl (by omega) | exact q_rem rfl rfl (by omega) (by omega))) | (apply hq_q; decide; (first | exact q_mul rfl rfl (by omega) | exact q_rem rfl rfl (by omega) (by omega))) | (apply hq_g; rfl; rfl; decide; (first | exact q_mul rfl rfl (by omega) | exact q_rem rfl rfl (by omega) (by omega))) | (apply hl_g; rfl; rfl; decide; (first | exact q_mul rfl rfl (by omega) | exact q_rem rfl rfl (by omega) (by omega))))
      refine hw_if rfl (fun h3 => ?_) (fun h3 => ?_)
      · repeat' (first | refine hl_a ?_ | refine hq_a ?_ | refine hl_nil ?_ | refine hq_nil ?_ | refine hq_ga ?_ | refine hq_sk ?_ | refine hq_su ?_ | refine hq_gT ?_ | refine hq_gF ?_ | refine hq_gd (fun h => ?_) (fun h => ?_) | refine hl_ga ?_ | refine hl_sk ?_ | refine hl_su ?_ | refine hl_gT ?_ | refine hl_gF ?_ | refine hl_gd (fun h => ?_) (fun h => ?_) | refine hx_next ?_ | refine hw_seq ?_ | refine hw_region ?_ | refine hw_dr ?_ | refine hw_block ?_ | refine hx_block ?_ | refine hw_tt ?_ | refine hw_ff ?_ | refine hw_iT ?_ | refine hw_iF ?_ | refine hw_skip ?_ | refine hw_ret ?_ | refine hw_exit ?_ | refine hx_then_ret ?_ | refine hx_block_ret ?_ | refine hx_then_exit ?_ | refine hx_block_here ?_ | refine hx_far ?_ | refine hx_any ?_ | (apply ha_end; decide +kernel) | (apply hl_q; decide; (first | exact q_bld [] #[.int .i64 0, .int .i64 0, .slice none 0 0] rfl (by kernel_rfl))) | (apply hq_q; decide; (first | exact q_bld [] #[.int .i64 0, .int .i64 0, .slice none 0 0] rfl (by kernel_rfl))) | (apply hq_g; rfl; rfl; decide; (first | exact q_bld [] #[.int .i64 0, .int .i64 0, .slice none 0 0] rfl (by kernel_rfl))) | (apply hl_g; rfl; rfl; decide; (first | exact q_bld [] #[.int .i64 0, .int .i64 0, .slice none 0 0] rfl (by kernel_rfl))))
        refine hl_storeA 2 rfl rfl rfl rfl rfl (chV_one nil_ok) ?_
        repeat' (first | refine hl_a ?_ | refine hq_a ?_ | refine hl_nil ?_ | refine hq_nil ?_ | refine hq_ga ?_ | refine hq_sk ?_ | refine hq_su ?_ | refine hq_gT ?_ | refine hq_gF ?_ | refine hq_gd (fun h => ?_) (fun h => ?_) | refine hl_ga ?_ | refine hl_sk ?_ | refine hl_su ?_ | refine hl_gT ?_ | refine hl_gF ?_ | refine hl_gd (fun h => ?_) (fun h => ?_) | refine hx_next ?_ | refine hw_seq ?_ | refine hw_region ?_ | refine hw_dr ?_ | refine hw_block ?_ | refine hx_block ?_ | refine hw_tt ?_ | refine hw_ff ?_ | refine hw_iT ?_ | refine hw_iF ?_ | refine hw_skip ?_ | refine hw_ret ?_ | refine hw_exit ?_ | refine hx_then_ret ?_ | refine hx_block_ret ?_ | refine hx_then_exit ?_ | refine hx_block_here ?_ | refine hx_far ?_ | refine hx_any ?_ | (apply ha_end; decide +kernel))
        exact hx_retBt 2 rfl rfl rfl rfl rfl (fun w hm => ⟨_, _, rfl, rows_nil 82 2 _ hm.none, by rw [stiM, if_pos hv, if_neg (fun e => h3 (e s hs2 u hu2))]; exact chErr _ _ _ rfl⟩)
      · repeat' (first | refine hl_a ?_ | refine hq_a ?_ | refine hl_nil ?_ | refine hq_nil ?_ | refine hq_ga ?_ | refine hq_sk ?_ | refine hq_su ?_ | refine hq_gT ?_ | refine hq_gF ?_ | refine hq_gd (fun h => ?_) (fun h => ?_) | refine hl_ga ?_ | refine hl_sk ?_ | refine hl_su ?_ | refine hl_gT ?_ | refine hl_gF ?_ | refine hl_gd (fun h => ?_) (fun h => ?_) | refine hx_next ?_ | refine hw_seq ?_ | refine hw_region ?_ | refine hw_dr ?_ | refine hw_block ?_ | refine hx_block ?_ | refine hw_tt ?_ | refine hw_ff ?_ | refine hw_iT ?_ | refine hw_iF ?_ | refine hw_skip ?_ | refine hw_ret ?_ | refine hw_exit ?_ | refine hx_then_ret ?_ | refine hx_block_ret ?_ | refine hx_then_exit ?_ | refine hx_block_here ?_ | refine hx_far ?_ | refine hx_any ?_ | (apply ha_end; decide +kernel))
        refine hx_round ⟨rfl, u + 1, hu2, rfl, rfl, fun u' hu' => ?_⟩ (by omega) ⟨rfl, rfl, rfl, rfl, rfl, rfl, rfl, rfl, rfl, trivial⟩
        by_cases e : u' = u
        · subst e; exact Classical.not_not.1 h3
        · exact hallu u' (by omega)
    · repeat' (first | refine hl_a ?_ | refine hq_a ?_ | refine hl_nil ?_ | refine hq_nil ?_ | refine hq_ga ?_ | refine hq_sk ?_ | refine hq_su ?_ | refine hq_gT ?_ | refine hq_gF ?_ | refine hq_gd (fun h => ?_) (fun h => ?_) | refine hl_ga ?_ | refine hl_sk ?_ | refine hl_su ?_ | refine hl_gT ?_ | refine hl_gF ?_ | refine hl_gd (fun h => ?_) (fun h => ?_) | refine hx_next ?_ | refine hw_seq ?_ | refine hw_region ?_ | refine hw_dr ?_ | refine hw_block ?_ | refine hx_block ?_ | refine hw_tt ?_ | refine hw_ff ?_ | refine hw_iT ?_ | refine hw_iF ?_ | refine hw_skip ?_ | refine hw_ret ?_ | refine hw_exit ?_ | refine hx_then_ret ?_ | refine hx_block_ret ?_ | refine hx_then_exit ?_ | refine hx_block_here ?_ | refine hx_far ?_ | refine hx_any ?_ | (apply ha_end; decide +kernel))
      refine hx_round ⟨rfl, s + 1, hs2, rfl, rfl, fun s' hs' => ?_⟩ (by omega) ⟨rfl, rfl, rfl, rfl, rfl, rfl, trivial⟩
      by_cases e : s' = s
      · subst e; exact fun u hu => hallu u (by omega)
      · exact hall s' (by omega)
  · have hd : DivP xss tot tot1 := fun s hs u hu => hall s (by omega) u hu
    have hM : stiM xss.length tot xss st1 tot1 yss = coupM xss.length tot xss tot1 (rowK xss tot tot1 yss) := by rw [stiM, if_pos hv, if_pos hd]
    repeat' (first | refine hl_a ?_ | refine hq_a ?_ | refine hl_nil ?_ | refine hq_nil ?_ | refine hq_ga ?_ | refine hq_sk ?_ | refine hq_su ?_ | refine hq_gT ?_ | refine hq_gF ?_ | refine hq_gd (fun h => ?_) (fun h => ?_) | refine hl_ga ?_ | refine hl_sk ?_ | refine hl_su ?_ | refine hl_gT ?_ | refine hl_gF ?_ | refine hl_gd (fun h => ?_) (fun h => ?_) | refine hx_next ?_ | refine hw_seq ?_ | refine hw_region ?_ | refine hw_dr ?_ | refine hw_block ?_ | refine hx_block ?_ | refine hw_tt ?_ | refine hw_ff ?_ | refine hw_iT ?_ | refine hw_iF ?_ | refine hw_skip ?_ | refine hw_ret ?_ | refine hw_exit ?_ | refine hx_then_ret ?_ | refine hx_block_ret ?_ | refine hx_then_exit ?_ | refine hx_block_here ?_ | refine hx_far ?_ | refine hx_any ?_ | (apply ha_end; decide +kernel))
    refine hl_alloc (by decide) (fun bn0 => ?_)
    repeat' (first | refine hl_a ?_ | refine hq_a ?_ | refine hl_nil ?_ | refine hq_nil ?_ | refine hq_ga ?_ | refine hq_sk ?_ | refine hq_su ?_ | refine hq_gT ?_ | refine hq_gF ?_ | refine hq_gd (fun h => ?_) (fun h => ?_) | refine hl_ga ?_ | refine hl_sk ?_ | refine hl_su ?_ | refine hl_gT ?_ | refine hl_gF ?_ | refine hl_gd (fun h => ?_) (fun h => ?_) | refine hx_next ?_ | refine hw_seq ?_ | refine hw_region ?_ | refine hw_dr ?_ | refine hw_block ?_ | refine hx_block ?_ | refine hw_tt ?_ | refine hw_ff ?_ | refine hw_iT ?_ | refine hw_iF ?_ | refine hw_skip ?_ | refine hw_ret ?_ | refine hw_exit ?_ | refine hx_then_ret ?_ | refine hx_block_ret ?_ | refine hx_then_exit ?_ | refine hx_block_here ?_ | refine hx_far ?_ | refine hx_any ?_ | (apply ha_end; decide +kernel))
    refine hl_storeB 3 rfl rfl rfl rfl rfl rfl ?_
    repeat' (first | refine hl_a ?_ | refine hq_a ?_ | refine hl_nil ?_ | refine hq_nil ?_ | refine hq_ga ?_ | refine hq_sk ?_ | refine hq_su ?_ | refine hq_gT ?_ | refine hq_gF ?_ | refine hq_gd (fun h => ?_) (fun h => ?_) | refine hl_ga ?_ | refine hl_sk ?_ | refine hl_su ?_ | refine hl_gT ?_ | refine hl_gF ?_ | refine hl_gd (fun h => ?_) (fun h => ?_) | refine hx_next ?_ | refine hw_seq ?_ | refine hw_region ?_ | refine hw_dr ?_ | refine hw_block ?_ | refine hx_block ?_ | refine hw_tt ?_ | refine hw_ff ?_ | refine hw_iT ?_ | refine hw_iF ?_ | refine hw_skip ?_ | refine hw_ret ?_ | refine hw_exit ?_ | refine hx_then_ret ?_ | refine hx_block_ret ?_ | refine hx_then_exit ?_ | refine hx_block_here ?_ | refine hx_far ?_ | refine hx_any ?_ | (apply ha_end; decide +kernel))
    first | refine hl_q (by decide) (q_fn [.pointer (some ⟨bn0, 0, none⟩), .pointer (some ⟨b, 0, none⟩), .pointer (some ⟨b', 0, none⟩)] rfl) ?_ | refine hq_q (by decide) (q_fn [.pointer (some ⟨bn0, 0, none⟩), .pointer (some ⟨b, 0, none⟩), .pointer (some ⟨b', 0, none⟩)] rfl) ?_ | refine hl_g _ _ rfl rfl (by decide) (q_fn [.pointer (some ⟨bn0, 0, none⟩), .pointer (some ⟨b, 0, none⟩), .pointer (some ⟨b', 0, none⟩)] rfl) ?_ | refine hq_g _ _ rfl rfl (by decide) (q_fn [.pointer (some ⟨bn0, 0, none⟩), .pointer (some ⟨b, 0, none⟩), .pointer (some ⟨b', 0, none⟩)] rfl) ?_
    refine hl_call (by decide) (fun w hm => coupled_c xss.length tot v xss row tot1 99 [.pointer (some ⟨bn0, 0, none⟩), .pointer (some ⟨b, 0, none⟩), .pointer (some ⟨b', 0, none⟩)] (rowK xss tot tot1 yss) w (hr.up hm.below) (rowK_length _ _ _ _) (fun _ _ F brow bn x s t hs ht => sticky1_c ((ld_blkA (off := 0) 3 rfl rfl rfl).cell hm) (ptC_blk 0 rfl hm (hr.up hm.below)) (ptC_blk 1 rfl hm (hr1.up hm.below)) hv F brow bn x s t hs ht)) rfl ?_
    rintro _ _ ⟨u, vs, rfl, rfl, hl, hu⟩
    repeat' (first | refine hl_a ?_ | refine hq_a ?_ | refine hl_nil ?_ | refine hq_nil ?_ | refine hq_ga ?_ | refine hq_sk ?_ | refine hq_su ?_ | refine hq_gT ?_ | refine hq_gF ?_ | refine hq_gd (fun h => ?_) (fun h => ?_) | refine hl_ga ?_ | refine hl_sk ?_ | refine hl_su ?_ | refine hl_gT ?_ | refine hl_gF ?_ | refine hl_gd (fun h => ?_) (fun h => ?_) | refine hx_next ?_ | refine hw_seq ?_ | refine hw_region ?_ | refine hw_dr ?_ | refine hw_block ?_ | refine hx_block ?_ | refine hw_tt ?_ | refine hw_ff ?_ | refine hw_iT ?_ | refine hw_iF ?_ | refine hw_skip ?_ | refine hw_ret ?_ | refine hw_exit ?_ | refine hx_then_ret ?_ | refine hx_block_ret ?_ | refine hx_then_exit ?_ | refine hx_block_here ?_ | refine hx_far ?_ | refine hx_any ?_ | (apply ha_end; decide +kernel))
    refine hl_storeA 2 rfl rfl rfl rfl rfl (chV_one hu) ?_
    repeat' (first | refine hl_a ?_ | refine hq_a ?_ | refine hl_nil ?_ | refine hq_nil ?_ | refine hq_ga ?_ | refine hq_sk ?_ | refine hq_su ?_ | refine hq_gT ?_ | refine hq_gF ?_ | refine hq_gd (fun h => ?_) (fun h => ?_) | refine hl_ga ?_ | refine hl_sk ?_ | refine hl_su ?_ | refine hl_gT ?_ | refine hl_gF ?_ | refine hl_gd (fun h => ?_) (fun h => ?_) | refine hx_next ?_ | refine hw_seq ?_ | refine hw_region ?_ | refine hw_dr ?_ | refine hw_block ?_ | refine hx_block ?_ | refine hw_tt ?_ | refine hw_ff ?_ | refine hw_iT ?_ | refine hw_iF ?_ | refine hw_skip ?_ | refine hw_ret ?_ | refine hw_exit ?_ | refine hx_then_ret ?_ | refine hx_block_ret ?_ | refine hx_then_exit ?_ | refine hx_block_here ?_ | refine hx_far ?_ | refine hx_any ?_ | (apply ha_end; decide +kernel))
    exact hx_retBt 2 rfl rfl rfl rfl rfl (fun w hm => ⟨_, _, rfl, hm.lone 4 rfl, by rw [hM]; exact ⟨u, vs, rfl, rfl, hl, hu⟩⟩)
set_option maxHeartbeats 4000000 in
theorem specStickyCoupled_c (st tot : Int) (v : Value) (xss : List (List Int)) (row : Nat → Value) (st1 tot1 : Int) (v1 : Value) (yss : List (List Int)) (row1 : Nat → Value) (w : World) (hr : RdS (Value.int .i64) 0 w v xss row) (hr1 : RdS (Value.int .i64) 0 w v1 yss row1) :
    Gives Try.prog 50 [chV st tot v, chV st1 tot1 v1] w (ChOut 82 2 (stiM st tot xss st1 tot1 yss)) := by
  refine calls_hw Try.func50 Try.ntmps50 rfl rfl ?_
  have hsl := hr.sl
  have hsl1 := hr1.sl
  repeat' (first | refine hl_a ?_ | refine hq_a ?_ | refine hl_nil ?_ | refine hq_nil ?_ | refine hq_ga ?_ | refine hq_sk ?_ | refine hq_su ?_ | refine hq_gT ?_ | refine hq_gF ?_ | refine hq_gd (fun h => ?_) (fun h => ?_) | refine hl_ga ?_ | refine hl_sk ?_ | refine hl_su ?_ | refine hl_gT ?_ | refine hl_gF ?_ | refine hl_gd (fun h => ?_) (fun h => ?_) | refine hx_next ?_ | refine hw_seq ?_ | refine hw_region ?_ | refine hw_dr ?_ | refine hw_block ?_ | refine hx_block ?_ | refine hw_tt ?_ | refine hw_ff ?_ | refine hw_iT ?_ | refine hw_iF ?_ | refine hw_skip ?_ | refine hw_ret ?_ | refine hw_exit ?_ | refine hx_then_ret ?_ | refine hx_block_ret ?_ | refine hx_then_exit ?_ | refine hx_block_here ?_ | refine hx_far ?_ | refine hx_any ?_ | (apply ha_end; decide +kernel))
  refine hl_box (by decide) rfl (fun b => ?_)
  refine hl_box (by decide) rfl (fun b' => ?_)
  refine hl_alloc (by decide) (fun b0 => ?_)
  repeat' (first | refine hl_a ?_ | refine hq_a ?_ | refine hl_nil ?_ | refine hq_nil ?_ | refine hq_ga ?_ | refine hq_sk ?_ | refine hq_su ?_ | refine hq_gT ?_ | refine hq_gF ?_ | refine hq_gd (fun h => ?_) (fun h => ?_) | refine hl_ga ?_ | refine hl_sk ?_ | refine hl_su ?_ | refine hl_gT ?_ | refine hl_gF ?_ | refine hl_gd (fun h => ?_) (fun h => ?_) | refine hx_next ?_ | refine hw_seq ?_ | refine hw_region ?_ | refine hw_dr ?_ | refine hw_block ?_ | refine hx_block ?_ | refine hw_tt ?_ | refine hw_ff ?_ | refine hw_iT ?_ | refine hw_iF ?_ | refine hw_skip ?_ | refine hw_ret ?_ | refine hw_exit ?_ | refine hx_then_ret ?_ | refine hx_block_ret ?_ | refine hx_then_exit ?_ | refine hx_block_here ?_ | refine hx_far ?_ | refine hx_any ?_ | (apply ha_end; decide +kernel))
  first | refine hl_q (by decide) (q_call (fun w hm => l04Ok_c _ _ st tot v xss row st1 tot1 v1 yss row1 w (ptC_blk 0 rfl hm (hr.up hm.below)) (ptC_blk 1 rfl hm (hr1.up hm.below))) rfl) ?_ | refine hq_q (by decide) (q_call (fun w hm => l04Ok_c _ _ st tot v xss row st1 tot1 v1 yss row1 w (ptC_blk 0 rfl hm (hr.up hm.below)) (ptC_blk 1 rfl hm (hr1.up hm.below))) rfl) ?_ | refine hl_g _ _ rfl rfl (by decide) (q_call (fun w hm => l04Ok_c _ _ st tot v xss row st1 tot1 v1 yss row1 w (ptC_blk 0 rfl hm (hr.up hm.below)) (ptC_blk 1 rfl hm (hr1.up hm.below))) rfl) ?_ | refine hq_g _ _ rfl rfl (by decide) (q_call (fun w hm => l04Ok_c _ _ st tot v xss row st1 tot1 v1 yss row1 w (ptC_blk 0 rfl hm (hr.up hm.below)) (ptC_blk 1 rfl hm (hr1.up hm.below))) rfl) ?_
  repeat' (first | refine hl_a ?_ | refine hq_a ?_ | refine hl_nil ?_ | refine hq_nil ?_ | refine hq_ga ?_ | refine hq_sk ?_ | refine hq_su ?_ | refine hq_gT ?_ | refine hq_gF ?_ | refine hq_gd (fun h => ?_) (fun h => ?_) | refine hl_ga ?_ | refine hl_sk ?_ | refine hl_su ?_ | refine hl_gT ?_ | refine hl_gF ?_ | refine hl_gd (fun h => ?_) (fun h => ?_) | refine hx_next ?_ | refine hw_seq ?_ | refine hw_region ?_ | refine hw_dr ?_ | refine hw_block ?_ | refine hx_block ?_ | refine hw_tt ?_ | refine hw_ff ?_ | refine hw_iT ?_ | refine hw_iF ?_ | refine hw_skip ?_ | refine hw_ret ?_ | refine hw_exit ?_ | refine hx_then_ret ?_ | refine hx_block_ret ?_ | refine hx_then_exit ?_ | refine hx_block_here ?_ | refine hx_far ?_ | refine hx_any ?_ | (apply ha_end; decide +kernel))
  refine hw_if rfl (fun h => ?_) (fun h => ?_)
  · repeat' (first | refine hl_a ?_ | refine hq_a ?_ | refine hl_nil ?_ | refine hq_nil ?_ | refine hq_ga ?_ | refine hq_sk ?_ | refine hq_su ?_ | refine hq_gT ?_ | refine hq_gF ?_ | refine hq_gd (fun h => ?_) (fun h => ?_) | refine hl_ga ?_ | refine hl_sk ?_ | refine hl_su ?_ | refine hl_gT ?_ | refine hl_gF ?_ | refine hl_gd (fun h => ?_) (fun h => ?_) | refine hx_next ?_ | refine hw_seq ?_ | refine hw_region ?_ | refine hw_dr ?_ | refine hw_block ?_ | refine hx_block ?_ | refine hw_tt ?_ | refine hw_ff ?_ | refine hw_iT ?_ | refine hw_iF ?_ | refine hw_skip ?_ | refine hw_ret ?_ | refine hw_exit ?_ | refine hx_then_ret ?_ | refine hx_block_ret ?_ | refine hx_then_exit ?_ | refine hx_block_here ?_ | refine hx_far ?_ | refine hx_any ?_ | (apply ha_end; decide +kernel) | (apply hl_q; decide; (first | exact q_bld [] #[.int .i64 0, .int .i64 0, .slice none 0 0] rfl (by kernel_rfl))) | (apply hq_q; decide; (first | exact q_bld [] #[.int .i64 0, .int .i64 0, .slice none 0 0] rfl (by kernel_rfl))) | (apply hq_g; rfl; rfl; decide; (first | exact q_bld [] #[.int .i64 0, .int .i64 0, .slice none 0 0] rfl (by kernel_rfl))) | (apply hl_g; rfl; rfl; decide; (first | exact q_bld [] #[.int .i64 0, .int .i64 0, .slice none 0 0] rfl (by kernel_rfl))))
    refine hl_storeA 2 rfl rfl rfl rfl rfl (chV_one nil_ok) ?_
    repeat' (first | refine hl_a ?_ | refine hq_a ?_ | refine hl_nil ?_ | refine hq_nil ?_ | refine hq_ga ?_ | refine hq_sk ?_ | refine hq_su ?_ | refine hq_gT ?_ | refine hq_gF ?_ | refine hq_gd (fun h => ?_) (fun h => ?_) | refine hl_ga ?_ | refine hl_sk ?_ | refine hl_su ?_ | refine hl_gT ?_ | refine hl_gF ?_ | refine hl_gd (fun h => ?_) (fun h => ?_) | refine hx_next ?_ | refine hw_seq ?_ | refine hw_region ?_ | refine hw_dr ?_ | refine hw_block ?_ | refine hx_block ?_ | refine hw_tt ?_ | refine hw_ff ?_ | refine hw_iT ?_ | refine hw_iF ?_ | refine hw_skip ?_ | refine hw_ret ?_ | refine hw_exit ?_ | refine hx_then_ret ?_ | refine hx_block_ret ?_ | refine hx_then_exit ?_ | refine hx_block_here ?_ | refine hx_far ?_ | refine hx_any ?_ | (apply ha_end; decide +kernel))
    exact hx_retBt 2 rfl rfl rfl rfl rfl (fun w hm => ⟨_, _, rfl, rows_nil 82 2 _ hm.none, by rw [stiM, if_neg h]; exact chErr _ _ _ rfl⟩)
  have hv := Classical.not_not.1 h
  have hvv := hv.v
  have hst1 := hv.e
  obtain ⟨rfl, hn1, hn2⟩ := hvv.nat
  subst hst1
  have hn4 : xss.length ≤ 4 := by have := hv.s4; omega
  have h16 : xss.length * xss.length ≤ 16 := Nat.mul_le_mul hn4 hn4
  have ht1 := hv.t
  have htt := hvv.t1
  have hylen := hv.len
  rw [hylen] at hsl1
  have hM : DivP xss tot tot1 → stiM xss.length tot xss xss.length tot1 yss = ⟨xss.length, tot1, tab (xss.length * xss.length) fun p => rowK xss tot tot1 yss (p / xss.length) (p % xss.length), 0⟩ := fun hd => by rw [stiM, if_pos hv, if_pos hd, coupM, if_pos hvv, if_neg (by omega)]
  repeat' (first | refine hl_a ?_ | refine hq_a ?_ | refine hl_nil ?_ | refine hq_nil ?_ | refine hq_ga ?_ | refine hq_sk ?_ | refine hq_su ?_ | refine hq_gT ?_ | refine hq_gF ?_ | refine hq_gd (fun h => ?_) (fun h => ?_) | refine hl_ga ?_ | refine hl_sk ?_ | refine hl_su ?_ | refine hl_gT ?_ | refine hl_gF ?_ | refine hl_gd (fun h => ?_) (fun h => ?_) | refine hx_next ?_ | refine hw_seq ?_ | refine hw_region ?_ | refine hw_dr ?_ | refine hw_block ?_ | refine hx_block ?_ | refine hw_tt ?_ | refine hw_ff ?_ | refine hw_iT ?_ | refine hw_iF ?_ | refine hw_skip ?_ | refine hw_ret ?_ | refine hw_exit ?_ | refine hx_then_ret ?_ | refine hx_block_ret ?_ | refine hx_then_exit ?_ | refine hx_block_here ?_ | refine hx_far ?_ | refine hx_any ?_ | (apply ha_end; decide +kernel) | (apply hl_q; decide; exact q_bld [(0, .int .i64 (xss.length : Int)), (1, .int .i64 tot1)] #[.int .i64 (xss.length : Int), .int .i64 tot1, .slice none 0 0] rfl (by kernel_rfl)) | (apply hq_q; decide; exact q_bld [(0, .int .i64 (xss.length : Int)), (1, .int .i64 tot1)] #[.int .i64 (xss.length : Int), .int .i64 tot1, .slice none 0 0] rfl (by kernel_rfl)) | (apply hq_g; rfl; rfl; decide; exact q_bld [(0, .int .i64 (xss.length : Int)), (1, .int .i64 tot1)] #[.int .i64 (xss.length : Int), .int .i64 tot1, .slice none 0 0] rfl (by kernel_rfl)) | (apply hl_g; rfl; rfl; decide; exact q_bld [(0, .int .i64 (xss.length : Int)), (1, .int .i64 tot1)] #[.int .i64 (xss.length : Int), .int .i64 tot1, .slice none 0 0] rfl (by kernel_rfl)))
  refine hl_alloc (by decide) (fun b1 => ?_)
  refine hl_storeA 3 rfl rfl rfl rfl rfl (chV_one nil_ok) ?_
  repeat' (first | refine hl_a ?_ | refine hq_a ?_ | refine hl_nil ?_ | refine hq_nil ?_ | refine hq_ga ?_ | refine hq_sk ?_ | refine hq_su ?_ | refine hq_gT ?_ | refine hq_gF ?_ | refine hq_gd (fun h => ?_) (fun h => ?_) | refine hl_ga ?_ | refine hl_sk ?_ | refine hl_su ?_ | refine hl_gT ?_ | refine hl_gF ?_ | refine hl_gd (fun h => ?_) (fun h => ?_) | refine hx_next ?_ | refine hw_seq ?_ | refine hw_region ?_ | refine hw_dr ?_ | refine hw_block ?_ | refine hx_block ?_ | refine hw_tt ?_ | refine hw_ff ?_ | refine hw_iT ?_ | refine hw_iF ?_ | refine hw_skip ?_ | refine hw_ret ?_ | refine hw_exit ?_ | refine hx_then_ret ?_ | refine hx_block_ret ?_ | refine hx_then_exit ?_ | refine hx_block_here ?_ | refine hx_far ?_ | refine hx_any ?_ | (apply ha_end; decide +kernel))
  refine hw_mem (fun w hm => (hm.nilOwn 82 1).empty) ?_
  refine hw_loop (fun e r m => ∃ (i : Nat) (u : Value) (vs : List Value), r = [rBlk b #[.int .i64 (xss.length : Int), .int .i64 tot, v] 31, rBlk b' #[.int .i64 (xss.length : Int), .int .i64 tot1, v1] 69, rBlk b0 #[.int .i64 0, .int .i64 0, .slice none 0 0] 69, rBlk b1 #[.int .i64 (xss.length : Int), .int .i64 tot1, u] 69, rOwn 82 1 u i vs, rStar (rRow 2 (Value.int .i64) vs (tab i fun p => rowK xss tot tot1 yss (p / xss.length) (p % xss.length)))] ∧ vs.length = i ∧ i ≤ xss.length * xss.length ∧ m = xss.length * xss.length - i ∧ e = [(2, .pointer (some ⟨b, 0, none⟩)), (3, .pointer (some ⟨b', 0, none⟩)), (4, .pointer (some ⟨b0, 0, none⟩)), (6, .pointer (some ⟨b1, 0, none⟩)), (7, .int .i64 (i : Int))] ∧ ∀ s, s < xss.length → s * xss.length + s < i → ∀ u, u < xss.length → cAt xss s u * tot1 % tot = 0)
    ⟨0, .slice none 0 0, [], rfl, rfl, Nat.zero_le _, rfl, rfl, fun _ _ h => by omega⟩ ⟨rfl, rfl, rfl, rfl, rfl, trivial⟩ ?_
  rintro _ _ _ ⟨i, u, vs, rfl, hvs, hi, rfl, rfl, hdone⟩
  repeat' (first | refine hl_a ?_ | refine hq_a ?_ | refine hl_nil ?_ | refine hq_nil ?_ | refine hq_ga ?_ | refine hq_sk ?_ | refine hq_su ?_ | refine hq_gT ?_ | refine hq_gF ?_ | refine hq_gd (fun h => ?_) (fun h => ?_) | refine hl_ga ?_ | refine hl_sk ?_ | refine hl_su ?_ | refine hl_gT ?_ | refine hl_gF ?_ | refine hl_gd (fun h => ?_) (fun h => ?_) | refine hx_next ?_ | refine hw_seq ?_ | refine hw_region ?_ | refine hw_dr ?_ | refine hw_block ?_ | refine hx_block ?_ | refine hw_tt ?_ | refine hw_ff ?_ | refine hw_iT ?_ | refine hw_iF ?_ | refine hw_skip ?_ | refine hw_ret ?_ | refine hw_exit ?_ | refine hx_then_ret ?_ | refine hx_block_ret ?_ | refine hx_then_exit ?_ | refine hx_block_here ?_ | refine hx_far ?_ | refine hx_any ?_ | (apply ha_end; decide +kernel))
  refine hw_if rfl (fun hlt => ?_) (fun hge => ?_)
  · have hi2 : i < xss.length * xss.length := by omega
    have hi3 : i < yss.length := by omega
    have hd1 : i / xss.length < xss.length := (Nat.div_lt_iff_lt_mul (by omega)).2 hi2
    have hd2 : i % xss.length < xss.length := Nat.mod_lt _ (by omega)
    have hdm : i / xss.length * xss.length + i % xss.length = i := by rw [Nat.mul_comm]; exact Nat.div_add_mod i xss.length
    have ci := hr1.get i hi3
    have ri := hr1.row i hi3
    have hrow := hv.row i hi2
    have li := hrow.len
    have cs := hr.get _ hd1
    have rs' := hr.row _ hd1
    have ss := rs'.sl
    have l1 := hvv.rlen _ hd1
    rw [l1] at ss
    repeat' (first | refine hl_a ?_ | refine hq_a ?_ | refine hl_nil ?_ | refine hq_nil ?_ | refine hq_ga ?_ | refine hq_sk ?_ | refine hq_su ?_ | refine hq_gT ?_ | refine hq_gF ?_ | refine hq_gd (fun h => ?_) (fun h => ?_) | refine hl_ga ?_ | refine hl_sk ?_ | refine hl_su ?_ | refine hl_gT ?_ | refine hl_gF ?_ | refine hl_gd (fun h => ?_) (fun h => ?_) | refine hx_next ?_ | refine hw_seq ?_ | refine hw_region ?_ | refine hw_dr ?_ | refine hw_block ?_ | refine hx_block ?_ | refine hw_tt ?_ | refine hw_ff ?_ | refine hw_iT ?_ | refine hw_iF ?_ | refine hw_skip ?_ | refine hw_ret ?_ | refine hw_exit ?_ | refine hx_then_ret ?_ | refine hx_block_ret ?_ | refine hx_then_exit ?_ | refine hx_block_here ?_ | refine hx_far ?_ | refine hx_any ?_ | (apply ha_end; decide +kernel) | (apply hl_q; decide; (first | exact q_quoN (a := i) (b := xss.length) rfl rfl (by omega) (by omega) | exact q_remN (a := i) (b := xss.length) rfl rfl (by omega) (by omega))) | (apply hq_q; decide; (first | exact q_quoN (a := i) (b := xss.length) rfl rfl (by omega) (by omega) | exact q_remN (a := i) (b := xss.length) rfl rfl (by omega) (by omega))) | (apply hq_g; rfl; rfl; decide; (first | exact q_quoN (a := i) (b := xss.length) rfl rfl (by omega) (by omega) | exact q_remN (a := i) (b := xss.length) rfl rfl (by omega) (by omega))) | (apply hl_g; rfl; rfl; decide; (first | exact q_quoN (a := i) (b := xss.length) rfl rfl (by omega) (by omega) | exact q_remN (a := i) (b := xss.length) rfl rfl (by omega) (by omega))))
    refine hw_if rfl (fun h3 => ?_) (fun h3 => ?_)
    · have hK : rowK xss tot tot1 yss (i / xss.length) (i % xss.length) = yss.getD i [] := by
        rw [rowK, if_neg (by omega), hdm, ← li, cpL_all]
      repeat' (first | refine hl_a ?_ | refine hq_a ?_ | refine hl_nil ?_ | refine hq_nil ?_ | refine hq_ga ?_ | refine hq_sk ?_ | refine hq_su ?_ | refine hq_gT ?_ | refine hq_gF ?_ | refine hq_gd (fun h => ?_) (fun h => ?_) | refine hl_ga ?_ | refine hl_sk ?_ | refine hl_su ?_ | refine hl_gT ?_ | refine hl_gF ?_ | refine hl_gd (fun h => ?_) (fun h => ?_) | refine hx_next ?_ | refine hw_seq ?_ | refine hw_region ?_ | refine hw_block ?_ | refine hx_block ?_ | refine hw_tt ?_ | refine hw_ff ?_ | refine hw_iT ?_ | refine hw_iF ?_ | refine hw_skip ?_ | refine hw_ret ?_ | refine hw_exit ?_ | refine hx_then_ret ?_ | refine hx_block_ret ?_ | refine hx_then_exit ?_ | refine hx_block_here ?_ | refine hx_far ?_ | refine hx_any ?_ | (apply ha_end; decide +kernel))
      refine hw_g [rBlk b #[.int .i64 (xss.length : Int), .int .i64 tot, v] 31, rBlk b' #[.int .i64 (xss.length : Int), .int .i64 tot1, v1] 69, rBlk b0 #[.int .i64 0, .int .i64 0, .slice none 0 0] 69, rBlk b1 #[.int .i64 (xss.length : Int), .int .i64 tot1, u] 69] 9 (by kernel_rfl) ?_
      first | refine hg_t 0 ?_ | refine hg_tn 0 ?_
      first | refine hg_t 1 ?_ | refine hg_tn 1 ?_
      first | refine hg_t 2 ?_ | refine hg_tn 2 ?_
      first | refine hg_t 3 ?_ | refine hg_tn 3 ?_
      first | refine hg_t 4 ?_ | refine hg_tn 4 ?_
      refine hg_t 5 ?_ (hq := by exact q_idxN rfl rfl hsl1 hi2)
      first | refine hg_t 6 ?_ | refine hg_tn 6 ?_
      refine hg_1 7 (by decide +kernel) rfl ?_
      refine hl_call (by decide) (fun w hm => l00Own_w (row1 i) (yss.getD i []) (by omega) (by have := Nat.mul_pos hn1 hn1; omega) w (ri.up hm.below)) rfl ?_
      rintro x _ ⟨rfl, hx⟩
      refine hl_nil ?_
      refine hx_hg (by first | exact fun w hm => hm.none | exact fun w hm => Mem.keep _ hm) ?_
      refine hg_1 8 (by decide +kernel) rfl ?_
      refine hl_build1 (by decide) rfl hx.one rfl (fun b3 => ?_)
      refine hl_nil ?_
      refine hx_hg (by first | exact fun w hm => hm.none | exact fun w hm => Mem.keep _ hm) ?_
      refine hg_1 9 (by decide +kernel) rfl ?_
      refine hl_app1 4 7 rfl rfl (by decide) rfl rfl hx.one (by omega) (by decide) (fun u' hu' => ?_)
      refine hl_nil ?_
      refine hx_hgT rfl ?_
      refine hg_1 10 (by decide +kernel) rfl ?_
      refine hl_a ?_
      refine hl_nil ?_
      refine hx_hgT rfl ?_
      refine hg_1 11 (by decide +kernel) rfl ?_
      refine hl_storeB 3 rfl rfl rfl rfl rfl hu'.one ?_
      refine hl_nil ?_
      refine hx_hgT rfl ?_
      refine hg_end (by decide +kernel) ?_
      repeat' (first | refine hl_a ?_ | refine hq_a ?_ | refine hl_nil ?_ | refine hq_nil ?_ | refine hq_ga ?_ | refine hq_sk ?_ | refine hq_su ?_ | refine hq_gT ?_ | refine hq_gF ?_ | refine hq_gd (fun h => ?_) (fun h => ?_) | refine hl_ga ?_ | refine hl_sk ?_ | refine hl_su ?_ | refine hl_gT ?_ | refine hl_gF ?_ | refine hl_gd (fun h => ?_) (fun h => ?_) | refine hx_next ?_ | refine hw_seq ?_ | refine hw_region ?_ | refine hw_block ?_ | refine hx_block ?_ | refine hw_tt ?_ | refine hw_ff ?_ | refine hw_iT ?_ | refine hw_iF ?_ | refine hw_skip ?_ | refine hw_ret ?_ | refine hw_exit ?_ | refine hx_then_ret ?_ | refine hx_block_ret ?_ | refine hx_then_exit ?_ | refine hx_block_here ?_ | refine hx_far ?_ | refine hx_any ?_ | (apply ha_end; decide +kernel))
      refine hx_mem (rs' := [rBlk b #[.int .i64 (xss.length : Int), .int .i64 tot, v] 31, rBlk b' #[.int .i64 (xss.length : Int), .int .i64 tot1, v1] 69, rBlk b0 #[.int .i64 0, .int .i64 0, .slice none 0 0] 69, rBlk b1 #[.int .i64 (xss.length : Int), .int .i64 tot1, u'] 69, rOwn 82 1 u' (i + 1) (vs ++ [x]), rStar (rRow 2 (Value.int .i64) (vs ++ [x]) (tab (i + 1) fun p => rowK xss tot tot1 yss (p / xss.length) (p % xss.length)))]) (fun w hm => ?_) ?_
      · rw [tab_succ, rRow_snoc _ _ _ _ (by rw [tab_length]; exact hvs), hK]
        exact Mem.pack [_, _, _, _, _] (hm.pick (rs' := [_, _, _, _, _, _, _]) [0, 1, 2, 3, 4, 5, 6] (by simp) rfl)
      · refine hx_round ⟨i + 1, u', vs ++ [x], rfl, by simp [hvs], hi2, rfl, rfl, fun s hs h9 => ?_⟩ (by omega) ⟨rfl, rfl, rfl, rfl, rfl, trivial⟩
        by_cases e : s * xss.length + s = i
        · have := (dvC s hs).1
          have := (dvC s hs).2
          rw [e] at *
          omega
        · exact hdone s hs (by omega)
    · have hsq : i / xss.length = i % xss.length := by omega
      have hK : rowK xss tot tot1 yss (i / xss.length) (i % xss.length) = dgL xss.length (fun u => cAt xss (i / xss.length) u * tot1 / tot) xss.length := by rw [rowK, if_pos hsq]
      repeat' (first | refine hl_a ?_ | refine hq_a ?_ | refine hl_nil ?_ | refine hq_nil ?_ | refine hq_ga ?_ | refine hq_sk ?_ | refine hq_su ?_ | refine hq_gT ?_ | refine hq_gF ?_ | refine hq_gd (fun h => ?_) (fun h => ?_) | refine hl_ga ?_ | refine hl_sk ?_ | refine hl_su ?_ | refine hl_gT ?_ | refine hl_gF ?_ | refine hl_gd (fun h => ?_) (fun h => ?_) | refine hx_next ?_ | refine hw_seq ?_ | refine hw_region ?_ | refine hw_dr ?_ | refine hw_block ?_ | refine hx_block ?_ | refine hw_tt ?_ | refine hw_ff ?_ | refine hw_iT ?_ | refine hw_iF ?_ | refine hw_skip ?_ | refine hw_ret ?_ | refine hw_exit ?_ | refine hx_then_ret ?_ | refine hx_block_ret ?_ | refine hx_then_exit ?_ | refine hx_block_here ?_ | refine hx_far ?_ | refine hx_any ?_ | (apply ha_end; decide +kernel))
      refine hl_make (by decide) rfl rfl (by omega) (by unfold maxLen; omega) (fun x hx => ?_)
      rw [toList_madeCells1 _ rfl, tab0]
      refine hl_mem (fun w hm => mem_zer (A := [_, _, _, _, _, _]) hm) ?_
      repeat' (first | refine hl_a ?_ | refine hq_a ?_ | refine hl_nil ?_ | refine hq_nil ?_ | refine hq_ga ?_ | refine hq_sk ?_ | refine hq_su ?_ | refine hq_gT ?_ | refine hq_gF ?_ | refine hq_gd (fun h => ?_) (fun h => ?_) | refine hl_ga ?_ | refine hl_sk ?_ | refine hl_su ?_ | refine hl_gT ?_ | refine hl_gF ?_ | refine hl_gd (fun h => ?_) (fun h => ?_) | refine hx_next ?_ | refine hw_seq ?_ | refine hw_region ?_ | refine hw_dr ?_ | refine hw_block ?_ | refine hx_block ?_ | refine hw_tt ?_ | refine hw_ff ?_ | refine hw_iT ?_ | refine hw_iF ?_ | refine hw_skip ?_ | refine hw_ret ?_ | refine hw_exit ?_ | refine hx_then_ret ?_ | refine hx_block_ret ?_ | refine hx_then_exit ?_ | refine hx_block_here ?_ | refine hx_far ?_ | refine hx_any ?_ | (apply ha_end; decide +kernel))
      refine hw_loop (fun e r m => ∃ q : Nat, r = [rBlk b #[.int .i64 (xss.length : Int), .int .i64 tot, v] 31, rBlk b' #[.int .i64 (xss.length : Int), .int .i64 tot1, v1] 69, rBlk b0 #[.int .i64 0, .int .i64 0, .slice none 0 0] 69, rBlk b1 #[.int .i64 (xss.length : Int), .int .i64 tot1, u] 69, rOwn 82 1 u i vs, rStar (rRow 2 (Value.int .i64) vs (tab i fun p => rowK xss tot tot1 yss (p / xss.length) (p % xss.length))), rE 2 (Value.int .i64) x (dgL xss.length (fun u => cAt xss (i / xss.length) u * tot1 / tot) q)] ∧ q ≤ xss.length ∧ m = xss.length - q ∧ e = [(2, .pointer (some ⟨b, 0, none⟩)), (3, .pointer (some ⟨b', 0, none⟩)), (4, .pointer (some ⟨b0, 0, none⟩)), (6, .pointer (some ⟨b1, 0, none⟩)), (7, .int .i64 (i : Int)), (8, .int .i64 ((i / xss.length : Nat) : Int)), (9, x), (10, .int .i64 (q : Int))] ∧ ∀ u', u' < q → cAt xss (i / xss.length) u' * tot1 % tot = 0)
        ⟨0, by rw [dgL_0]; rfl, Nat.zero_le _, rfl, rfl, by omega⟩ ⟨rfl, rfl, rfl, rfl, rfl, rfl, rfl, rfl, trivial⟩ ?_
      rintro _ _ _ ⟨q, rfl, hq, rfl, rfl, hallq⟩
      repeat' (first | refine hl_a ?_ | refine hq_a ?_ | refine hl_nil ?_ | refine hq_nil ?_ | refine hq_ga ?_ | refine hq_sk ?_ | refine hq_su ?_ | refine hq_gT ?_ | refine hq_gF ?_ | refine hq_gd (fun h => ?_) (fun h => ?_) | refine hl_ga ?_ | refine hl_sk ?_ | refine hl_su ?_ | refine hl_gT ?_ | refine hl_gF ?_ | refine hl_gd (fun h => ?_) (fun h => ?_) | refine hx_next ?_ | refine hw_seq ?_ | refine hw_region ?_ | refine hw_dr ?_ | refine hw_block ?_ | refine hx_block ?_ | refine hw_tt ?_ | refine hw_ff ?_ | refine hw_iT ?_ | refine hw_iF ?_ | refine hw_skip ?_ | refine hw_ret ?_ | refine hw_exit ?_ | refine hx_then_ret ?_ | refine hx_block_ret ?_ | refine hx_then_exit ?_ | refine hx_block_here ?_ | refine hx_far ?_ | refine hx_any ?_ | (apply ha_end; decide +kernel))
      refine hw_if rfl (fun hlt2 => ?_) (fun hge2 => ?_)
      · have hq2 : q < xss.length := by omega
        have lq : q < (xss.getD (i / xss.length) []).length := by omega
        have cq : w.cell? (vAt (row (i / xss.length)) q) = some (.int .i64 (cAt xss (i / xss.length) q)) := rs'.get q lq
        have aq := hvv.at _ q hd1 hq2
        have mm := mul_bd (A := 60) (B := 3600) (a := cAt xss (i / xss.length) q) (b := tot1) (by omega) (by omega)
        have hiq := idx_lt hq2 hq2
        have hset := dgL_set xss.length (fun u => cAt xss (i / xss.length) u * tot1 / tot) q hq2
        have hdl := dgL_length xss.length (fun u => cAt xss (i / xss.length) u * tot1 / tot) q
        repeat' (first | refine hl_a ?_ | refine hq_a ?_ | refine hl_nil ?_ | refine hq_nil ?_ | refine hq_ga ?_ | refine hq_sk ?_ | refine hq_su ?_ | refine hq_gT ?_ | refine hq_gF ?_ | refine hq_gd (fun h => ?_) (fun h => ?_) | refine hl_ga ?_ | refine hl_sk ?_ | refine hl_su ?_ | refine hl_gT ?_ | refine hl_gF ?_ | refine hl_gd (fun h => ?_) (fun h => ?_) | refine hx_next ?_ | refine hw_seq ?_ | refine hw_region ?_ | refine hw_dr ?_ | refine hw_block ?_ | refine hx_block ?_ | refine hw_tt ?_ | refine hw_ff ?_ | refine hw_iT ?_ | refine hw_iF ?_ | refine hw_skip ?_ | refine hw_ret ?_ | refine hw_exit ?_ | refine hx_then_ret ?_ | refine hx_block_ret ?_ | refine hx_then_exit ?_ | refine hx_block_here ?_ | refine hx_far ?_ | refine hx_any ?_ | (apply ha_end; decide +kernel) | (apply hl_q; decide; (exact q_mul rfl rfl (by omega))) | (apply hq_q; decide; (exact q_mul rfl rfl (by omega))) | (apply hq_g; rfl; rfl; decide; (exact q_mul rfl rfl (by omega))) | (apply hl_g; rfl; rfl; decide; (exact q_mul rfl rfl (by omega))))
        first | refine hl_q (by decide) (q_rem rfl rfl (by omega) (by omega)) ?_ | refine hq_q (by decide) (q_rem rfl rfl (by omega) (by omega)) ?_ | refine hl_g _ _ rfl rfl (by decide) (q_rem rfl rfl (by omega) (by omega)) ?_ | refine hq_g _ _ rfl rfl (by decide) (q_rem rfl rfl (by omega) (by omega)) ?_
        repeat' (first | refine hl_a ?_ | refine hq_a ?_ | refine hl_nil ?_ | refine hq_nil ?_ | refine hq_ga ?_ | refine hq_sk ?_ | refine hq_su ?_ | refine hq_gT ?_ | refine hq_gF ?_ | refine hq_gd (fun h => ?_) (fun h => ?_) | refine hl_ga ?_ | refine hl_sk ?_ | refine hl_su ?_ | refine hl_gT ?_ | refine hl_gF ?_ | refine hl_gd (fun h => ?_) (fun h => ?_) | refine hx_next ?_ | refine hw_seq ?_ | refine hw_region ?_ | refine hw_dr ?_ | refine hw_block ?_ | refine hx_block ?_ | refine hw_tt ?_ | refine hw_ff ?_ | refine hw_iT ?_ | refine hw_iF ?_ | refine hw_skip ?_ | refine hw_ret ?_ | refine hw_exit ?_ | refine hx_then_ret ?_ | refine hx_block_ret ?_ | refine hx_then_exit ?_ | refine hx_block_here ?_ | refine hx_far ?_ | refine hx_any ?_ | (apply ha_end; decide +kernel))
        refine hw_if rfl (fun h4 => ?_) (fun h4 => ?_)
        · repeat' (first | refine hl_a ?_ | refine hq_a ?_ | refine hl_nil ?_ | refine hq_nil ?_ | refine hq_ga ?_ | refine hq_sk ?_ | refine hq_su ?_ | refine hq_gT ?_ | refine hq_gF ?_ | refine hq_gd (fun h => ?_) (fun h => ?_) | refine hl_ga ?_ | refine hl_sk ?_ | refine hl_su ?_ | refine hl_gT ?_ | refine hl_gF ?_ | refine hl_gd (fun h => ?_) (fun h => ?_) | refine hx_next ?_ | refine hw_seq ?_ | refine hw_region ?_ | refine hw_dr ?_ | refine hw_block ?_ | refine hx_block ?_ | refine hw_tt ?_ | refine hw_ff ?_ | refine hw_iT ?_ | refine hw_iF ?_ | refine hw_skip ?_ | refine hw_ret ?_ | refine hw_exit ?_ | refine hx_then_ret ?_ | refine hx_block_ret ?_ | refine hx_then_exit ?_ | refine hx_block_here ?_ | refine hx_far ?_ | refine hx_any ?_ | (apply ha_end; decide +kernel) | (apply hl_q; decide; (first | exact q_bld [] #[.int .i64 0, .int .i64 0, .slice none 0 0] rfl (by kernel_rfl))) | (apply hq_q; decide; (first | exact q_bld [] #[.int .i64 0, .int .i64 0, .slice none 0 0] rfl (by kernel_rfl))) | (apply hq_g; rfl; rfl; decide; (first | exact q_bld [] #[.int .i64 0, .int .i64 0, .slice none 0 0] rfl (by kernel_rfl))) | (apply hl_g; rfl; rfl; decide; (first | exact q_bld [] #[.int .i64 0, .int .i64 0, .slice none 0 0] rfl (by kernel_rfl))))
          refine hl_storeA 2 rfl rfl rfl rfl rfl (chV_one nil_ok) ?_
          repeat' (first | refine hl_a ?_ | refine hq_a ?_ | refine hl_nil ?_ | refine hq_nil ?_ | refine hq_ga ?_ | refine hq_sk ?_ | refine hq_su ?_ | refine hq_gT ?_ | refine hq_gF ?_ | refine hq_gd (fun h => ?_) (fun h => ?_) | refine hl_ga ?_ | refine hl_sk ?_ | refine hl_su ?_ | refine hl_gT ?_ | refine hl_gF ?_ | refine hl_gd (fun h => ?_) (fun h => ?_) | refine hx_next ?_ | refine hw_seq ?_ | refine hw_region ?_ | refine hw_dr ?_ | refine hw_block ?_ | refine hx_block ?_ | refine hw_tt ?_ | refine hw_ff ?_ | refine hw_iT ?_ | refine hw_iF ?_ | refine hw_skip ?_ | refine hw_ret ?_ | refine hw_exit ?_ | refine hx_then_ret ?_ | refine hx_block_ret ?_ | refine hx_then_exit ?_ | refine hx_block_here ?_ | refine hx_far ?_ | refine hx_any ?_ | (apply ha_end; decide +kernel))
          exact hx_retBt 2 rfl rfl rfl rfl rfl (fun w hm => ⟨_, _, rfl, rows_nil 82 2 _ hm.none, by rw [stiM, if_pos hv, if_neg (fun e => h4 (e _ hd1 q hq2))]; exact chErr _ _ _ rfl⟩)
        repeat' (first | refine hl_a ?_ | refine hq_a ?_ | refine hl_nil ?_ | refine hq_nil ?_ | refine hq_ga ?_ | refine hq_sk ?_ | refine hq_su ?_ | refine hq_gT ?_ | refine hq_gF ?_ | refine hq_gd (fun h => ?_) (fun h => ?_) | refine hl_ga ?_ | refine hl_sk ?_ | refine hl_su ?_ | refine hl_gT ?_ | refine hl_gF ?_ | refine hl_gd (fun h => ?_) (fun h => ?_) | refine hx_next ?_ | refine hw_seq ?_ | refine hw_region ?_ | refine hw_block ?_ | refine hx_block ?_ | refine hw_tt ?_ | refine hw_ff ?_ | refine hw_iT ?_ | refine hw_iF ?_ | refine hw_skip ?_ | refine hw_ret ?_ | refine hw_exit ?_ | refine hx_then_ret ?_ | refine hx_block_ret ?_ | refine hx_then_exit ?_ | refine hx_block_here ?_ | refine hx_far ?_ | refine hx_any ?_ | (apply ha_end; decide +kernel))
        refine hw_g [rBlk b #[.int .i64 (xss.length : Int), .int .i64 tot, v] 31, rBlk b' #[.int .i64 (xss.length : Int), .int .i64 tot1, v1] 69, rBlk b0 #[.int .i64 0, .int .i64 0, .slice none 0 0] 69, rBlk b1 #[.int .i64 (xss.length : Int), .int .i64 tot1, u] 69] 12 (by kernel_rfl) ?_
        first | refine hg_t 0 ?_ | refine hg_tn 0 ?_
        first | refine hg_t 1 ?_ | refine hg_tn 1 ?_
        first | refine hg_t 2 ?_ | refine hg_tn 2 ?_
        first | refine hg_t 3 ?_ | refine hg_tn 3 ?_
        refine hg_t 4 ?_ (hq := by exact q_mulN (a := q) (b := xss.length) rfl rfl (by omega))
        first | refine hg_t 5 ?_ | refine hg_tn 5 ?_
        refine hg_t 6 ?_ (hq := by exact q_addN (a := q * xss.length) (b := q) rfl rfl (by omega))
        first | refine hg_t 7 ?_ | refine hg_tn 7 ?_
        first | refine hg_t 8 ?_ | refine hg_tn 8 ?_
        first | refine hg_t 9 ?_ | refine hg_tn 9 ?_
        refine hg_t 10 ?_ (hq := by exact q_quo rfl rfl (by omega) (by omega))
        refine hg_t 11 ?_ (hq := by exact q_idxN rfl rfl hx hiq)
        refine hg_1 12 (by decide +kernel) rfl ?_
        refine hl_storeE 6 (q * xss.length + q) (cAt xss (i / xss.length) q * tot1 / tot) rfl rfl (by rw [hdl]; exact hiq) rfl rfl ?_
        refine hl_nil ?_
        refine hx_hgT rfl ?_
        refine hg_end (by decide +kernel) ?_
        repeat' (first | refine hl_a ?_ | refine hq_a ?_ | refine hl_nil ?_ | refine hq_nil ?_ | refine hq_ga ?_ | refine hq_sk ?_ | refine hq_su ?_ | refine hq_gT ?_ | refine hq_gF ?_ | refine hq_gd (fun h => ?_) (fun h => ?_) | refine hl_ga ?_ | refine hl_sk ?_ | refine hl_su ?_ | refine hl_gT ?_ | refine hl_gF ?_ | refine hl_gd (fun h => ?_) (fun h => ?_) | refine hx_next ?_ | refine hw_seq ?_ | refine hw_region ?_ | refine hw_block ?_ | refine hx_block ?_ | refine hw_tt ?_ | refine hw_ff ?_ | refine hw_iT ?_ | refine hw_iF ?_ | refine hw_skip ?_ | refine hw_ret ?_ | refine hw_exit ?_ | refine hx_then_ret ?_ | refine hx_block_ret ?_ | refine hx_then_exit ?_ | refine hx_block_here ?_ | refine hx_far ?_ | refine hx_any ?_ | (apply ha_end; decide +kernel))
        refine hx_round ⟨q + 1, by rw [← hset]; rfl, hq2, rfl, rfl, fun u' hu' => ?_⟩ (by omega) ⟨rfl, rfl, rfl, rfl, rfl, rfl, rfl, rfl, trivial⟩
        by_cases e : u' = q
        · subst e; exact Classical.not_not.1 h4
        · exact hallq u' (by omega)
      · have e : q = xss.length := by omega
        subst e
        repeat' (first | refine hl_a ?_ | refine hq_a ?_ | refine hl_nil ?_ | refine hq_nil ?_ | refine hq_ga ?_ | refine hq_sk ?_ | refine hq_su ?_ | refine hq_gT ?_ | refine hq_gF ?_ | refine hq_gd (fun h => ?_) (fun h => ?_) | refine hl_ga ?_ | refine hl_sk ?_ | refine hl_su ?_ | refine hl_gT ?_ | refine hl_gF ?_ | refine hl_gd (fun h => ?_) (fun h => ?_) | refine hx_next ?_ | refine hw_seq ?_ | refine hw_region ?_ | refine hw_dr ?_ | refine hw_block ?_ | refine hx_block ?_ | refine hw_tt ?_ | refine hw_ff ?_ | refine hw_iT ?_ | refine hw_iF ?_ | refine hw_skip ?_ | refine hw_ret ?_ | refine hw_exit ?_ | refine hx_then_ret ?_ | refine hx_block_ret ?_ | refine hx_then_exit ?_ | refine hx_block_here ?_ | refine hx_far ?_ | refine hx_any ?_ | (apply ha_end; decide +kernel))
        refine hl_push 4 rfl (by decide) (by decide) rfl hx.one rfl (fun b => rfl) (by omega) (by decide) (fun u' b2 hu' => ?_)
        repeat' (first | refine hl_a ?_ | refine hq_a ?_ | refine hl_nil ?_ | refine hq_nil ?_ | refine hq_ga ?_ | refine hq_sk ?_ | refine hq_su ?_ | refine hq_gT ?_ | refine hq_gF ?_ | refine hq_gd (fun h => ?_) (fun h => ?_) | refine hl_ga ?_ | refine hl_sk ?_ | refine hl_su ?_ | refine hl_gT ?_ | refine hl_gF ?_ | refine hl_gd (fun h => ?_) (fun h => ?_) | refine hx_next ?_ | refine hw_seq ?_ | refine hw_region ?_ | refine hw_dr ?_ | refine hw_block ?_ | refine hx_block ?_ | refine hw_tt ?_ | refine hw_ff ?_ | refine hw_iT ?_ | refine hw_iF ?_ | refine hw_skip ?_ | refine hw_ret ?_ | refine hw_exit ?_ | refine hx_then_ret ?_ | refine hx_block_ret ?_ | refine hx_then_exit ?_ | refine hx_block_here ?_ | refine hx_far ?_ | refine hx_any ?_ | (apply ha_end; decide +kernel))
        refine hl_storeB 3 rfl rfl rfl rfl rfl hu'.one ?_
        repeat' (first | refine hl_a ?_ | refine hq_a ?_ | refine hl_nil ?_ | refine hq_nil ?_ | refine hq_ga ?_ | refine hq_sk ?_ | refine hq_su ?_ | refine hq_gT ?_ | refine hq_gF ?_ | refine hq_gd (fun h => ?_) (fun h => ?_) | refine hl_ga ?_ | refine hl_sk ?_ | refine hl_su ?_ | refine hl_gT ?_ | refine hl_gF ?_ | refine hl_gd (fun h => ?_) (fun h => ?_) | refine hx_next ?_ | refine hw_seq ?_ | refine hw_region ?_ | refine hw_dr ?_ | refine hw_block ?_ | refine hx_block ?_ | refine hw_tt ?_ | refine hw_ff ?_ | refine hw_iT ?_ | refine hw_iF ?_ | refine hw_skip ?_ | refine hw_ret ?_ | refine hw_exit ?_ | refine hx_then_ret ?_ | refine hx_block_ret ?_ | refine hx_then_exit ?_ | refine hx_block_here ?_ | refine hx_far ?_ | refine hx_any ?_ | (apply ha_end; decide +kernel))
        refine hx_mem (rs' := [rBlk b #[.int .i64 (xss.length : Int), .int .i64 tot, v] 31, rBlk b' #[.int .i64 (xss.length : Int), .int .i64 tot1, v1] 69, rBlk b0 #[.int .i64 0, .int .i64 0, .slice none 0 0] 69, rBlk b1 #[.int .i64 (xss.length : Int), .int .i64 tot1, u'] 69, rOwn 82 1 u' (i + 1) (vs ++ [x]), rStar (rRow 2 (Value.int .i64) (vs ++ [x]) (tab (i + 1) fun p => rowK xss tot tot1 yss (p / xss.length) (p % xss.length)))]) (fun w hm => ?_) ?_
        · rw [tab_succ, rRow_snoc _ _ _ _ (by rw [tab_length]; exact hvs), hK]
          exact Mem.pack [_, _, _, _, _] hm
        · refine hx_round ⟨i + 1, u', vs ++ [x], rfl, by simp [hvs], hi2, rfl, rfl, fun s hs h9 => ?_⟩ (by omega) ⟨rfl, rfl, rfl, rfl, rfl, trivial⟩
          by_cases e : s * xss.length + s = i
          · have h10 := (dvC s hs).1
            rw [e] at h10
            intro u hu
            rw [← h10]
            exact hallq u hu
          · exact hdone s hs (by omega)
  · have e : i = xss.length * xss.length := by omega
    subst e
    have hd : DivP xss tot tot1 := fun s hs u hu => hdone s hs (idx_lt hs hs) u hu
    refine hw_own 4 rfl (fun hu => ?_)
    repeat' (first | refine hl_a ?_ | refine hq_a ?_ | refine hl_nil ?_ | refine hq_nil ?_ | refine hq_ga ?_ | refine hq_sk ?_ | refine hq_su ?_ | refine hq_gT ?_ | refine hq_gF ?_ | refine hq_gd (fun h => ?_) (fun h => ?_) | refine hl_ga ?_ | refine hl_sk ?_ | refine hl_su ?_ | refine hl_gT ?_ | refine hl_gF ?_ | refine hl_gd (fun h => ?_) (fun h => ?_) | refine hx_next ?_ | refine hw_seq ?_ | refine hw_region ?_ | refine hw_dr ?_ | refine hw_block ?_ | refine hx_block ?_ | refine hw_tt ?_ | refine hw_ff ?_ | refine hw_iT ?_ | refine hw_iF ?_ | refine hw_skip ?_ | refine hw_ret ?_ | refine hw_exit ?_ | refine hx_then_ret ?_ | refine hx_block_ret ?_ | refine hx_then_exit ?_ | refine hx_block_here ?_ | refine hx_far ?_ | refine hx_any ?_ | (apply ha_end; decide +kernel))
    refine hl_storeA 2 rfl rfl rfl rfl rfl (chV_one hu) ?_
    repeat' (first | refine hl_a ?_ | refine hq_a ?_ | refine hl_nil ?_ | refine hq_nil ?_ | refine hq_ga ?_ | refine hq_sk ?_ | refine hq_su ?_ | refine hq_gT ?_ | refine hq_gF ?_ | refine hq_gd (fun h => ?_) (fun h => ?_) | refine hl_ga ?_ | refine hl_sk ?_ | refine hl_su ?_ | refine hl_gT ?_ | refine hl_gF ?_ | refine hl_gd (fun h => ?_) (fun h => ?_) | refine hx_next ?_ | refine hw_seq ?_ | refine hw_region ?_ | refine hw_dr ?_ | refine hw_block ?_ | refine hx_block ?_ | refine hw_tt ?_ | refine hw_ff ?_ | refine hw_iT ?_ | refine hw_iF ?_ | refine hw_skip ?_ | refine hw_ret ?_ | refine hw_exit ?_ | refine hx_then_ret ?_ | refine hx_block_ret ?_ | refine hx_then_exit ?_ | refine hx_block_here ?_ | refine hx_far ?_ | refine hx_any ?_ | (apply ha_end; decide +kernel))
    exact hx_retBt 2 rfl rfl rfl rfl rfl (fun w hm => ⟨_, _, rfl, hm.rows 4 5 hvs.symm (by decide) rfl rfl, by rw [hM hd]; exact ⟨u, vs, rfl, rfl, by simp only [tab_length]; exact hvs, by simp only [tab_length]; exact hu⟩⟩)
end Go.Proofs.Ytgeidbjcphjbiaa
