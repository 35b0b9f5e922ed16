/- Contracts: coupled chains that are valid. -/
import Derived.Test.YtgeidbjcphjbiaaF13
import Derived.Test.YtgeidbjcphjbiaaLibP
namespace Go.Eng
open Go.RowKit
section
variable {P : Program} {N : Nat} {env : Env} {w0 : World} {rs : List Res} {dst : Option Nat} {ty : TypeId} {pos : String} {after : Array Edge} {gd : Option (Nat × Bool)} {x y : Operand} {t t' : TypeId} {a b : Nat} {m n : Int}
theorem q_quoN (hx : env.ev x = some (.int .i64 (a : Int))) (hy : env.ev y = some (.int .i64 (b : Int))) (ha : a < 4611686018427387904) (hb : 0 < b) :
    QO P N env w0 rs ⟨dst, .binOp .quo t x y t', ty, pos, after, gd⟩ (.int .i64 ((a / b : Nat) : Int)) := by
  have h := q_quo (P := P) (N := N) (w0 := w0) (rs := rs) (dst := dst) (ty := ty) (pos := pos) (after := after) (gd := gd) (t := t) (t' := t') hx hy (by omega) (by omega)
  rwa [← Int.natCast_ediv] at h
theorem q_remN (hx : env.ev x = some (.int .i64 (a : Int))) (hy : env.ev y = some (.int .i64 (b : Int))) (ha : a < 4611686018427387904) (hb : 0 < b) :
    QO P N env w0 rs ⟨dst, .binOp .rem t x y t', ty, pos, after, gd⟩ (.int .i64 ((a % b : Nat) : Int)) := by
  have h := q_rem (P := P) (N := N) (w0 := w0) (rs := rs) (dst := dst) (ty := ty) (pos := pos) (after := after) (gd := gd) (t := t) (t' := t') hx hy (by omega) (by omega)
  rwa [← Int.natCast_emod] at h
theorem q_mulW (hx : env.ev x = some (.int .i64 m)) (hy : env.ev y = some (.int .i64 n)) :
    QO P N env w0 rs ⟨dst, .binOp .mul t x y t', ty, pos, after, gd⟩ (.int .i64 (IntKind.i64.wrap (m * n))) :=
  qo_bin hx hy (by simp [go_sem]) fun w => by simp [go_sem]
theorem q_mulN (hx : env.ev x = some (.int .i64 (a : Int))) (hy : env.ev y = some (.int .i64 (b : Int))) (ha : a * b < 4611686018427387904) :
    QO P N env w0 rs ⟨dst, .binOp .mul t x y t', ty, pos, after, gd⟩ (.int .i64 ((a * b : Nat) : Int)) := by
  have h0 : ((a : Int) * (b : Int)) = ((a * b : Nat) : Int) := (Int.natCast_mul a b).symm
  have h := q_mul (P := P) (N := N) (w0 := w0) (rs := rs) (dst := dst) (ty := ty) (pos := pos) (after := after) (gd := gd) (t := t) (t' := t') hx hy (by rw [h0]; omega)
  rwa [h0] at h
theorem q_addN (hx : env.ev x = some (.int .i64 (a : Int))) (hy : env.ev y = some (.int .i64 (b : Int))) (ha : a + b < 4611686018427387904) :
    QO P N env w0 rs ⟨dst, .binOp .add t x y t', ty, pos, after, gd⟩ (.int .i64 ((a + b : Nat) : Int)) := by
  have h := q_add (P := P) (N := N) (w0 := w0) (rs := rs) (dst := dst) (ty := ty) (pos := pos) (after := after) (gd := gd) (t := t) (t' := t') hx hy (by omega)
  rwa [← Int.natCast_add] at h
end
end Go.Eng
namespace Go.Proofs.Ytgeidbjcphjbiaa
open Go.Eng Go.RowKit
set_option linter.unusedVariables false

/-! sums over pairs -/
theorem tab_addC {α : Type} (m n : Nat) (f : Nat → α) : tab (m + n) f = tab m f ++ tab n (fun i => f (m + i)) := by
  induction n with
  | zero => simp [tab]
  | succ n ih => rw [← Nat.add_assoc, tab_succ, ih, tab_succ, List.append_assoc]
theorem dvC {q k : Nat} (i : Nat) (h : k < q) : (i * q + k) / q = i ∧ (i * q + k) % q = k := by
  constructor
  · rw [Nat.mul_comm, Nat.mul_add_div (by omega), Nat.div_eq_of_lt h, Nat.add_zero]
  · rw [Nat.mul_comm, Nat.mul_add_mod, Nat.mod_eq_of_lt h]
theorem blk_sum (f : Nat → Int) (q : Nat) : ∀ p, (tab (p * q) f).sum = (tab p fun i => (tab q fun k => f (i * q + k)).sum).sum
  | 0 => by simp [tab]
  | p + 1 => by rw [Nat.succ_mul, tab_addC, List.sum_append, blk_sum f q p, tab_succ, List.sum_append]; simp
theorem sum_at (n u : Nat) (g : Nat → Int) (hu : u < n) : (tab n fun t => if t = u then g t else 0).sum = g u := by
  rw [tab_congr n _ (fun t => if u = t then g u else 0) (fun t _ => by
    by_cases e : t = u
    · subst e; simp
    · rw [if_neg e, if_neg (fun e' => e e'.symm)]), tsum_one n u (g u) hu]
/-- The sums of a row by its first, its second state, its first k entries done. -/
def lefK (ys : List Int) (n k u : Nat) : Int := (tab k fun j => if j / n = u then ys.getD j 0 else 0).sum
def rigK (ys : List Int) (n k u : Nat) : Int := (tab k fun j => if j % n = u then ys.getD j 0 else 0).sum
def lefS (ys : List Int) (n v u : Nat) : Int := (tab v fun v => ys.getD (u * n + v) 0).sum
def rigS (ys : List Int) (n v u : Nat) : Int := (tab v fun v => ys.getD (v * n + u) 0).sum
theorem lefK_eq (ys : List Int) (n u : Nat) (hu : u < n) : lefK ys n (n * n) u = lefS ys n n u := by
  unfold lefK lefS
  rw [blk_sum]
  rw [tab_congr n _ (fun i => if i = u then (tab n fun v => ys.getD (i * n + v) 0).sum else 0) (fun i hi => ?_), sum_at n u _ hu]
  by_cases e : i = u
  · rw [if_pos e]
    exact tsum_congr _ _ _ fun k hk => by rw [(dvC i hk).1, if_pos e]
  · rw [if_neg e]
    exact (tsum_congr n _ (fun _ => 0) fun k hk => by rw [(dvC i hk).1, if_neg e]).trans (tsum_zero n)
theorem rigK_eq (ys : List Int) (n u : Nat) (hu : u < n) : rigK ys n (n * n) u = rigS ys n n u := by
  unfold rigK rigS
  rw [blk_sum]
  refine tsum_congr _ _ _ fun i hi => ?_
  rw [tab_congr n _ (fun k => if k = u then ys.getD (i * n + k) 0 else 0) (fun k hk => by rw [(dvC i hk).2]), sum_at n u _ hu]
theorem lefK_succ (ys : List Int) (n k u : Nat) : lefK ys n (k + 1) u = lefK ys n k u + (if k / n = u then ys.getD k 0 else 0) := tsum_succ _ _
theorem rigK_succ (ys : List Int) (n k u : Nat) : rigK ys n (k + 1) u = rigK ys n k u + (if k % n = u then ys.getD k 0 else 0) := tsum_succ _ _
def lefL (ys : List Int) (n k : Nat) : List Int := tab n (lefK ys n k)
def rigL (ys : List Int) (n k : Nat) : List Int := tab n (rigK ys n k)
theorem lefL_set (ys : List Int) (n k : Nat) : (lefL ys n k).set (k / n) (lefK ys n k (k / n) + ys.getD k 0) = lefL ys n (k + 1) := by
  unfold lefL
  rw [tab_set]
  refine tab_congr _ _ _ fun u hu => ?_
  rw [lefK_succ]
  by_cases e : u = k / n
  · subst e; simp
  · rw [if_neg e, if_neg (fun e' => e e'.symm)]; simp
theorem rigL_set (ys : List Int) (n k : Nat) : (rigL ys n k).set (k % n) (rigK ys n k (k % n) + ys.getD k 0) = rigL ys n (k + 1) := by
  unfold rigL
  rw [tab_set]
  refine tab_congr _ _ _ fun u hu => ?_
  rw [rigK_succ]
  by_cases e : u = k % n
  · subst e; simp
  · rw [if_neg e, if_neg (fun e' => e e'.symm)]; simp
theorem lefL_0 (ys : List Int) (n : Nat) : lefL ys n 0 = tab n fun _ => (0 : Int) := tab_congr _ _ _ fun u _ => by simp [lefK, tab]
theorem rigL_0 (ys : List Int) (n : Nat) : rigL ys n 0 = tab n fun _ => (0 : Int) := tab_congr _ _ _ fun u _ => by simp [rigK, tab]
theorem bd_sum (k : Nat) (f : Nat → Int) (B : Int) (h : ∀ j, j < k → 0 ≤ f j ∧ f j ≤ B) : 0 ≤ (tab k f).sum ∧ (tab k f).sum ≤ B * k :=
  ⟨tsum_nonneg k f fun j hj => (h j hj).1, tsum_le k f B fun j hj => (h j hj).2⟩

/-! ### Validity -/
structure RowC (n : Nat) (tot : Int) (xss : List (List Int)) (tot1 : Int) (p : Nat) (ys : List Int) : Prop where
  len : ys.length = n * n
  all : ∀ k, k < n * n → 0 ≤ ys.getD k 0 ∧ ys.getD k 0 ≤ tot1
  sum : ys.sum = tot1
  left : ∀ u, u < n → lefS ys n n u * tot = cAt xss (p / n) u * tot1
  right : ∀ u, u < n → rigS ys n n u * tot = cAt xss (p % n) u * tot1
structure ValidC (st tot : Int) (xss : List (List Int)) (st1 tot1 : Int) (yss : List (List Int)) : Prop where
  v : Valid st tot xss
  s4 : st ≤ 4
  e : st1 = st
  t : 1 ≤ tot1 ∧ tot1 ≤ 3600
  len : yss.length = xss.length * xss.length
  row : ∀ p, p < xss.length * xss.length → RowC xss.length tot xss tot1 p (yss.getD p [])
noncomputable instance (st tot : Int) (xss : List (List Int)) (st1 tot1 : Int) (yss : List (List Int)) : Decidable (ValidC st tot xss st1 tot1 yss) := Classical.propDecidable _
/-- One side of a row goes as the chain goes. -/
def margP (b : Bool) (n : Nat) (tot : Int) (xss : List (List Int)) (tot1 : Int) (q : Nat) (ys : List Int) : Prop := ∀ u, u < n → (if b = true then lefS ys n n u else rigS ys n n u) * tot = cAt xss q u * tot1
noncomputable instance (b : Bool) (n : Nat) (tot : Int) (xss : List (List Int)) (tot1 : Int) (q : Nat) (ys : List Int) : Decidable (margP b n tot xss tot1 q ys) := Classical.propDecidable _
theorem lefS_succ (ys : List Int) (n v u : Nat) : lefS ys n (v + 1) u = lefS ys n v u + ys.getD (u * n + v) 0 := tsum_succ _ _
theorem rigS_succ (ys : List Int) (n v u : Nat) : rigS ys n (v + 1) u = rigS ys n v u + ys.getD (v * n + u) 0 := tsum_succ _ _
theorem idx_lt {n u v : Nat} (hu : u < n) (hv : v < n) : u * n + v < n * n := by
  have h1 := Nat.mul_le_mul_right n (show u + 1 ≤ n by omega)
  rw [Nat.succ_mul] at h1
  omega

set_option maxHeartbeats 2000000 in
theorem l04Marginal_c (b : Bool) (p p1 : Addr) (st tot : Int) (v : Value) (xss : List (List Int)) (row : Nat → Value) (st1 tot1 : Int) (v1 : Value) (yss : List (List Int)) (row1 : Nat → Value) (vr : Value) (ys : List Int) (q : Nat) (w : World)
    (hp : PtC w p st tot v xss row) (hp1 : PtC w p1 st1 tot1 v1 yss row1) (hv : Valid st tot xss) (ht1 : 1 ≤ tot1 ∧ tot1 ≤ 3600) (hx : RdE (Value.int .i64) 0 w vr ys) (hq : q < xss.length) (hl : ys.length = xss.length * xss.length) (hall : ∀ k, k < xss.length * xss.length → 0 ≤ ys.getD k 0 ∧ ys.getD k 0 ≤ tot1) :
    Ret Try.prog 123 [.pointer (some p), .pointer (some p1), vr, .int .i64 (q : Int), .bool b] w (.bool (decide (margP b xss.length tot xss tot1 q ys))) := by
  refine calls_hw Try.func123 Try.ntmps123 rfl rfl ?_
  obtain ⟨h0, h1, h2, hr⟩ := hp
  obtain ⟨g0, g1, g2, hr1⟩ := hp1
  obtain ⟨rfl, hn1, hn2⟩ := hv.nat
  have htt := hv.t1
  have hsl := hr.sl
  have hys := hx.sl
  have cq := hr.get q hq
  have sq := (hr.row q hq).sl
  have hrl := hv.rlen q hq
  repeat' (first | refine hl_a ?_ | refine hq_a ?_ | refine hl_nil ?_ | refine hq_nil ?_ | refine hq_ga ?_ | refine hq_sk ?_ | refine hq_su ?_ | refine hq_gT ?_ | refine hq_gF ?_ | refine hq_gd (fun h => ?_) (fun h => ?_) | refine hl_ga ?_ | refine hl_sk ?_ | refine hl_su ?_ | refine hl_gT ?_ | refine hl_gF ?_ | refine hl_gd (fun h => ?_) (fun h => ?_) | refine hx_next ?_ | refine hw_seq ?_ | refine hw_region ?_ | refine hw_dr ?_ | refine hw_block ?_ | refine hx_block ?_ | refine hw_tt ?_ | refine hw_ff ?_ | refine hw_iT ?_ | refine hw_iF ?_ | refine hw_skip ?_ | refine hw_ret ?_ | refine hw_exit ?_ | refine hx_then_ret ?_ | refine hx_block_ret ?_ | refine hx_then_exit ?_ | refine hx_block_here ?_ | refine hx_far ?_ | refine hx_any ?_ | (apply ha_end; decide +kernel))
  refine hw_loop (fun e r m => r = [] ∧ ∃ u : Nat, u ≤ xss.length ∧ m = xss.length - u ∧ e = [(0, .pointer (some p)), (1, .pointer (some p1)), (2, vr), (3, .int .i64 (q : Int)), (4, .bool b), (11, .int .i64 (u : Int))] ∧ ∀ u', u' < u → (if b = true then lefS ys xss.length xss.length u' else rigS ys xss.length xss.length u') * tot = cAt xss q u' * tot1)
    ⟨rfl, 0, Nat.zero_le _, rfl, rfl, by omega⟩ ⟨rfl, rfl, rfl, rfl, rfl, rfl, trivial⟩ ?_
  rintro _ _ _ ⟨rfl, u, hu, rfl, rfl, hdone⟩
  repeat' (first | refine hl_a ?_ | refine hq_a ?_ | refine hl_nil ?_ | refine hq_nil ?_ | refine hq_ga ?_ | refine hq_sk ?_ | refine hq_su ?_ | refine hq_gT ?_ | refine hq_gF ?_ | refine hq_gd (fun h => ?_) (fun h => ?_) | refine hl_ga ?_ | refine hl_sk ?_ | refine hl_su ?_ | refine hl_gT ?_ | refine hl_gF ?_ | refine hl_gd (fun h => ?_) (fun h => ?_) | refine hx_next ?_ | refine hw_seq ?_ | refine hw_region ?_ | refine hw_dr ?_ | refine hw_block ?_ | refine hx_block ?_ | refine hw_tt ?_ | refine hw_ff ?_ | refine hw_iT ?_ | refine hw_iF ?_ | refine hw_skip ?_ | refine hw_ret ?_ | refine hw_exit ?_ | refine hx_then_ret ?_ | refine hx_block_ret ?_ | refine hx_then_exit ?_ | refine hx_block_here ?_ | refine hx_far ?_ | refine hx_any ?_ | (apply ha_end; decide +kernel))
  refine hw_if rfl (fun hlt => ?_) (fun hge => ?_)
  · have hu2 : u < xss.length := by omega
    have hu3 : u < (xss.getD q []).length := by omega
    have cu : w.cell? (vAt (row q) u) = some (.int .i64 (cAt xss q u)) := (hr.row q hq).get u hu3
    have hat := hv.at q u hq hu2
    repeat' (first | refine hl_a ?_ | refine hq_a ?_ | refine hl_nil ?_ | refine hq_nil ?_ | refine hq_ga ?_ | refine hq_sk ?_ | refine hq_su ?_ | refine hq_gT ?_ | refine hq_gF ?_ | refine hq_gd (fun h => ?_) (fun h => ?_) | refine hl_ga ?_ | refine hl_sk ?_ | refine hl_su ?_ | refine hl_gT ?_ | refine hl_gF ?_ | refine hl_gd (fun h => ?_) (fun h => ?_) | refine hx_next ?_ | refine hw_seq ?_ | refine hw_region ?_ | refine hw_dr ?_ | refine hw_block ?_ | refine hx_block ?_ | refine hw_tt ?_ | refine hw_ff ?_ | refine hw_iT ?_ | refine hw_iF ?_ | refine hw_skip ?_ | refine hw_ret ?_ | refine hw_exit ?_ | refine hx_then_ret ?_ | refine hx_block_ret ?_ | refine hx_then_exit ?_ | refine hx_block_here ?_ | refine hx_far ?_ | refine hx_any ?_ | (apply ha_end; decide +kernel))
    refine hw_loop (fun e r m => r = [] ∧ ∃ s : Nat, s ≤ xss.length ∧ m = xss.length - s ∧ e = [(0, .pointer (some p)), (1, .pointer (some p1)), (2, vr), (3, .int .i64 (q : Int)), (4, .bool b), (11, .int .i64 (u : Int)), (12, .int .i64 (if b = true then lefS ys xss.length s u else rigS ys xss.length s u)), (13, .int .i64 (s : Int))])
      ⟨rfl, 0, Nat.zero_le _, rfl, rfl⟩ ⟨rfl, rfl, rfl, rfl, rfl, rfl, by cases b <;> rfl, rfl, trivial⟩ ?_
    rintro _ _ _ ⟨rfl, s, hs, rfl, rfl⟩
    have bl : 0 ≤ lefS ys xss.length s u ∧ lefS ys xss.length s u ≤ 3600 * s := bd_sum s _ 3600 (fun j hj => by have := hall _ (idx_lt hu2 (show j < xss.length by omega)); omega)
    have br : 0 ≤ rigS ys xss.length s u ∧ rigS ys xss.length s u ≤ 3600 * s := bd_sum s _ 3600 (fun j hj => by have := hall _ (idx_lt (show j < xss.length by omega) hu2); omega)
    repeat' (first | refine hl_a ?_ | refine hq_a ?_ | refine hl_nil ?_ | refine hq_nil ?_ | refine hq_ga ?_ | refine hq_sk ?_ | refine hq_su ?_ | refine hq_gT ?_ | refine hq_gF ?_ | refine hq_gd (fun h => ?_) (fun h => ?_) | refine hl_ga ?_ | refine hl_sk ?_ | refine hl_su ?_ | refine hl_gT ?_ | refine hl_gF ?_ | refine hl_gd (fun h => ?_) (fun h => ?_) | refine hx_next ?_ | refine hw_seq ?_ | refine hw_region ?_ | refine hw_dr ?_ | refine hw_block ?_ | refine hx_block ?_ | refine hw_tt ?_ | refine hw_ff ?_ | refine hw_iT ?_ | refine hw_iF ?_ | refine hw_skip ?_ | refine hw_ret ?_ | refine hw_exit ?_ | refine hx_then_ret ?_ | refine hx_block_ret ?_ | refine hx_then_exit ?_ | refine hx_block_here ?_ | refine hx_far ?_ | refine hx_any ?_ | (apply ha_end; decide +kernel))
    refine hw_if rfl (fun hlt2 => ?_) (fun hge2 => ?_)
    · have hs2 : s < xss.length := by omega
      have i1 := idx_lt hu2 hs2
      have i2 := idx_lt hs2 hu2
      have e1 := hall _ i1
      have e2 := hall _ i2
      have j1 : u * xss.length + s < ys.length := by omega
      have j2 : s * xss.length + u < ys.length := by omega
      have c1 := hx.get _ j1
      have c2 := hx.get _ j2
      have n36 : xss.length * xss.length ≤ 36 := Nat.mul_le_mul hn2 hn2
      have m1 : u * xss.length < 100 := by omega
      have m2 : s * xss.length < 100 := by omega
      have hL := lefS_succ ys xss.length s u
      have hR := rigS_succ ys xss.length s u
      cases b with
      | true =>
        simp only [if_true]
        repeat' (first | refine hl_a ?_ | refine hq_a ?_ | refine hl_nil ?_ | refine hq_nil ?_ | refine hq_ga ?_ | refine hq_sk ?_ | refine hq_su ?_ | refine hq_gT ?_ | refine hq_gF ?_ | refine hq_gd (fun h => ?_) (fun h => ?_) | refine hl_ga ?_ | refine hl_sk ?_ | refine hl_su ?_ | refine hl_gT ?_ | refine hl_gF ?_ | refine hl_gd (fun h => ?_) (fun h => ?_) | refine hx_next ?_ | refine hw_seq ?_ | refine hw_region ?_ | refine hw_dr ?_ | refine hw_block ?_ | refine hx_block ?_ | refine hw_tt ?_ | refine hw_ff ?_ | refine hw_iT ?_ | refine hw_iF ?_ | refine hw_skip ?_ | refine hw_ret ?_ | refine hw_exit ?_ | refine hx_then_ret ?_ | refine hx_block_ret ?_ | refine hx_then_exit ?_ | refine hx_block_here ?_ | refine hx_far ?_ | refine hx_any ?_ | (apply ha_end; decide +kernel))
        first | refine hl_q (by decide) (q_mulN (a := u) (b := xss.length) rfl rfl (by omega)) ?_ | refine hq_q (by decide) (q_mulN (a := u) (b := xss.length) rfl rfl (by omega)) ?_ | refine hl_g _ _ rfl rfl (by decide) (q_mulN (a := u) (b := xss.length) rfl rfl (by omega)) ?_ | refine hq_g _ _ rfl rfl (by decide) (q_mulN (a := u) (b := xss.length) rfl rfl (by omega)) ?_
        refine hl_a ?_
        first | refine hl_q (by decide) (q_addN (a := u * xss.length) (b := s) rfl rfl (by omega)) ?_ | refine hq_q (by decide) (q_addN (a := u * xss.length) (b := s) rfl rfl (by omega)) ?_ | refine hl_g _ _ rfl rfl (by decide) (q_addN (a := u * xss.length) (b := s) rfl rfl (by omega)) ?_ | refine hq_g _ _ rfl rfl (by decide) (q_addN (a := u * xss.length) (b := s) rfl rfl (by omega)) ?_
        repeat' (first | refine hl_a ?_ | refine hq_a ?_ | refine hl_nil ?_ | refine hq_nil ?_ | refine hq_ga ?_ | refine hq_sk ?_ | refine hq_su ?_ | refine hq_gT ?_ | refine hq_gF ?_ | refine hq_gd (fun h => ?_) (fun h => ?_) | refine hl_ga ?_ | refine hl_sk ?_ | refine hl_su ?_ | refine hl_gT ?_ | refine hl_gF ?_ | refine hl_gd (fun h => ?_) (fun h => ?_) | refine hx_next ?_ | refine hw_seq ?_ | refine hw_region ?_ | refine hw_dr ?_ | refine hw_block ?_ | refine hx_block ?_ | refine hw_tt ?_ | refine hw_ff ?_ | refine hw_iT ?_ | refine hw_iF ?_ | refine hw_skip ?_ | refine hw_ret ?_ | refine hw_exit ?_ | refine hx_then_ret ?_ | refine hx_block_ret ?_ | refine hx_then_exit ?_ | refine hx_block_here ?_ | refine hx_far ?_ | refine hx_any ?_ | (apply ha_end; decide +kernel))
        exact hx_round ⟨rfl, s + 1, hs2, rfl, rfl⟩ (by omega) ⟨rfl, rfl, rfl, rfl, rfl, rfl, by rw [hL]; rfl, rfl, trivial⟩
      | false =>
        simp only [Bool.false_eq_true, if_false]
        repeat' (first | refine hl_a ?_ | refine hq_a ?_ | refine hl_nil ?_ | refine hq_nil ?_ | refine hq_ga ?_ | refine hq_sk ?_ | refine hq_su ?_ | refine hq_gT ?_ | refine hq_gF ?_ | refine hq_gd (fun h => ?_) (fun h => ?_) | refine hl_ga ?_ | refine hl_sk ?_ | refine hl_su ?_ | refine hl_gT ?_ | refine hl_gF ?_ | refine hl_gd (fun h => ?_) (fun h => ?_) | refine hx_next ?_ | refine hw_seq ?_ | refine hw_region ?_ | refine hw_dr ?_ | refine hw_block ?_ | refine hx_block ?_ | refine hw_tt ?_ | refine hw_ff ?_ | refine hw_iT ?_ | refine hw_iF ?_ | refine hw_skip ?_ | refine hw_ret ?_ | refine hw_exit ?_ | refine hx_then_ret ?_ | refine hx_block_ret ?_ | refine hx_then_exit ?_ | refine hx_block_here ?_ | refine hx_far ?_ | refine hx_any ?_ | (apply ha_end; decide +kernel))
        first | refine hl_q (by decide) (q_mulN (a := s) (b := xss.length) rfl rfl (by omega)) ?_ | refine hq_q (by decide) (q_mulN (a := s) (b := xss.length) rfl rfl (by omega)) ?_ | refine hl_g _ _ rfl rfl (by decide) (q_mulN (a := s) (b := xss.length) rfl rfl (by omega)) ?_ | refine hq_g _ _ rfl rfl (by decide) (q_mulN (a := s) (b := xss.length) rfl rfl (by omega)) ?_
        refine hl_a ?_
        first | refine hl_q (by decide) (q_addN (a := s * xss.length) (b := u) rfl rfl (by omega)) ?_ | refine hq_q (by decide) (q_addN (a := s * xss.length) (b := u) rfl rfl (by omega)) ?_ | refine hl_g _ _ rfl rfl (by decide) (q_addN (a := s * xss.length) (b := u) rfl rfl (by omega)) ?_ | refine hq_g _ _ rfl rfl (by decide) (q_addN (a := s * xss.length) (b := u) rfl rfl (by omega)) ?_
        repeat' (first | refine hl_a ?_ | refine hq_a ?_ | refine hl_nil ?_ | refine hq_nil ?_ | refine hq_ga ?_ | refine hq_sk ?_ | refine hq_su ?_ | refine hq_gT ?_ | refine hq_gF ?_ | refine hq_gd (fun h => ?_) (fun h => ?_) | refine hl_ga ?_ | refine hl_sk ?_ | refine hl_su ?_ | refine hl_gT ?_ | refine hl_gF ?_ | refine hl_gd (fun h => ?_) (fun h => ?_) | refine hx_next ?_ | refine hw_seq ?_ | refine hw_region ?_ | refine hw_dr ?_ | refine hw_block ?_ | refine hx_block ?_ | refine hw_tt ?_ | refine hw_ff ?_ | refine hw_iT ?_ | refine hw_iF ?_ | refine hw_skip ?_ | refine hw_ret ?_ | refine hw_exit ?_ | refine hx_then_ret ?_ | refine hx_block_ret ?_ | refine hx_then_exit ?_ | refine hx_block_here ?_ | refine hx_far ?_ | refine hx_any ?_ | (apply ha_end; decide +kernel))
        exact hx_round ⟨rfl, s + 1, hs2, rfl, rfl⟩ (by omega) ⟨rfl, rfl, rfl, rfl, rfl, rfl, by rw [hR]; rfl, rfl, trivial⟩
    · have e : s = xss.length := by omega
      subst e
      have bm : 0 ≤ (if b = true then lefS ys xss.length xss.length u else rigS ys xss.length xss.length u) ∧ (if b = true then lefS ys xss.length xss.length u else rigS ys xss.length xss.length u) ≤ 21600 := by
        cases b <;> simp <;> omega
      have m1 := mul_bd (A := 21600) (B := 60) (a := if b = true then lefS ys xss.length xss.length u else rigS ys xss.length xss.length u) (b := tot) bm (by omega)
      have m2 := mul_bd (A := 60) (B := 3600) (a := cAt xss q u) (b := tot1) (by omega) (by omega)
      repeat' (first | refine hl_a ?_ | refine hq_a ?_ | refine hl_nil ?_ | refine hq_nil ?_ | refine hq_ga ?_ | refine hq_sk ?_ | refine hq_su ?_ | refine hq_gT ?_ | refine hq_gF ?_ | refine hq_gd (fun h => ?_) (fun h => ?_) | refine hl_ga ?_ | refine hl_sk ?_ | refine hl_su ?_ | refine hl_gT ?_ | refine hl_gF ?_ | refine hl_gd (fun h => ?_) (fun h => ?_) | refine hx_next ?_ | refine hw_seq ?_ | refine hw_region ?_ | refine hw_dr ?_ | refine hw_block ?_ | refine hx_block ?_ | refine hw_tt ?_ | refine hw_ff ?_ | refine hw_iT ?_ | refine hw_iF ?_ | refine hw_skip ?_ | refine hw_ret ?_ | refine hw_exit ?_ | refine hx_then_ret ?_ | refine hx_block_ret ?_ | refine hx_then_exit ?_ | refine hx_block_here ?_ | refine hx_far ?_ | refine hx_any ?_ | (apply ha_end; decide +kernel) | (apply hl_q; decide; (exact q_mul rfl rfl (by omega))) | (apply hq_q; decide; (exact q_mul rfl rfl (by omega))) | (apply hq_g; rfl; rfl; decide; (exact q_mul rfl rfl (by omega))) | (apply hl_g; rfl; rfl; decide; (exact q_mul rfl rfl (by omega))))
      refine hw_if rfl (fun h => ?_) (fun h => ?_)
      · repeat' (first | refine hl_a ?_ | refine hq_a ?_ | refine hl_nil ?_ | refine hq_nil ?_ | refine hq_ga ?_ | refine hq_sk ?_ | refine hq_su ?_ | refine hq_gT ?_ | refine hq_gF ?_ | refine hq_gd (fun h => ?_) (fun h => ?_) | refine hl_ga ?_ | refine hl_sk ?_ | refine hl_su ?_ | refine hl_gT ?_ | refine hl_gF ?_ | refine hl_gd (fun h => ?_) (fun h => ?_) | refine hx_next ?_ | refine hw_seq ?_ | refine hw_region ?_ | refine hw_dr ?_ | refine hw_block ?_ | refine hx_block ?_ | refine hw_tt ?_ | refine hw_ff ?_ | refine hw_iT ?_ | refine hw_iF ?_ | refine hw_skip ?_ | refine hw_ret ?_ | refine hw_exit ?_ | refine hx_then_ret ?_ | refine hx_block_ret ?_ | refine hx_then_exit ?_ | refine hx_block_here ?_ | refine hx_far ?_ | refine hx_any ?_ | (apply ha_end; decide +kernel))
        refine hx_ret1 rfl rfl (fun w hm => ⟨?_, hm.none⟩)
        rw [decide_eq_false (fun e => h (e u hu2))]
      · repeat' (first | refine hl_a ?_ | refine hq_a ?_ | refine hl_nil ?_ | refine hq_nil ?_ | refine hq_ga ?_ | refine hq_sk ?_ | refine hq_su ?_ | refine hq_gT ?_ | refine hq_gF ?_ | refine hq_gd (fun h => ?_) (fun h => ?_) | refine hl_ga ?_ | refine hl_sk ?_ | refine hl_su ?_ | refine hl_gT ?_ | refine hl_gF ?_ | refine hl_gd (fun h => ?_) (fun h => ?_) | refine hx_next ?_ | refine hw_seq ?_ | refine hw_region ?_ | refine hw_dr ?_ | refine hw_block ?_ | refine hx_block ?_ | refine hw_tt ?_ | refine hw_ff ?_ | refine hw_iT ?_ | refine hw_iF ?_ | refine hw_skip ?_ | refine hw_ret ?_ | refine hw_exit ?_ | refine hx_then_ret ?_ | refine hx_block_ret ?_ | refine hx_then_exit ?_ | refine hx_block_here ?_ | refine hx_far ?_ | refine hx_any ?_ | (apply ha_end; decide +kernel))
        refine hx_round ⟨rfl, u + 1, hu2, rfl, rfl, fun u' hu' => ?_⟩ (by omega) ⟨rfl, rfl, rfl, rfl, rfl, rfl, trivial⟩
        by_cases e : u' = u
        · subst e; exact Classical.not_not.1 h
        · exact hdone u' (by omega)
  · repeat' (first | refine hl_a ?_ | refine hq_a ?_ | refine hl_nil ?_ | refine hq_nil ?_ | refine hq_ga ?_ | refine hq_sk ?_ | refine hq_su ?_ | refine hq_gT ?_ | refine hq_gF ?_ | refine hq_gd (fun h => ?_) (fun h => ?_) | refine hl_ga ?_ | refine hl_sk ?_ | refine hl_su ?_ | refine hl_gT ?_ | refine hl_gF ?_ | refine hl_gd (fun h => ?_) (fun h => ?_) | refine hx_next ?_ | refine hw_seq ?_ | refine hw_region ?_ | refine hw_dr ?_ | refine hw_block ?_ | refine hx_block ?_ | refine hw_tt ?_ | refine hw_ff ?_ | refine hw_iT ?_ | refine hw_iF ?_ | refine hw_skip ?_ | refine hw_ret ?_ | refine hw_exit ?_ | refine hx_then_ret ?_ | refine hx_block_ret ?_ | refine hx_then_exit ?_ | refine hx_block_here ?_ | refine hx_far ?_ | refine hx_any ?_ | (apply ha_end; decide +kernel))
    refine hx_ret1 rfl rfl (fun w hm => ⟨?_, hm.none⟩)
    rw [decide_eq_true (p := margP b xss.length tot xss tot1 q ys) (fun u hu' => hdone u (by omega))]
set_option maxHeartbeats 2000000 in
theorem l04Ok_c (p p1 : Addr) (st tot : Int) (v : Value) (xss : List (List Int)) (row : Nat → Value) (st1 tot1 : Int) (v1 : Value) (yss : List (List Int)) (row1 : Nat → Value) (w : World) (hp : PtC w p st tot v xss row) (hp1 : PtC w p1 st1 tot1 v1 yss row1) :
    Ret Try.prog 95 [.pointer (some p), .pointer (some p1)] w (.bool (decide (ValidC st tot xss st1 tot1 yss))) := by
  refine calls_hw Try.func95 Try.ntmps95 rfl rfl ?_
  obtain ⟨h0, h1, h2, hr⟩ := id hp
  obtain ⟨g0, g1, g2, hr1⟩ := id hp1
  have hsl1 := hr1.sl
  have hle1 := hsl1.le
  repeat' (first | refine hl_a ?_ | refine hq_a ?_ | refine hl_nil ?_ | refine hq_nil ?_ | refine hq_ga ?_ | refine hq_sk ?_ | refine hq_su ?_ | refine hq_gT ?_ | refine hq_gF ?_ | refine hq_gd (fun h => ?_) (fun h => ?_) | refine hl_ga ?_ | refine hl_sk ?_ | refine hl_su ?_ | refine hl_gT ?_ | refine hl_gF ?_ | refine hl_gd (fun h => ?_) (fun h => ?_) | refine hx_next ?_ | refine hw_seq ?_ | refine hw_region ?_ | refine hw_dr ?_ | refine hw_block ?_ | refine hx_block ?_ | refine hw_tt ?_ | refine hw_ff ?_ | refine hw_iT ?_ | refine hw_iF ?_ | refine hw_skip ?_ | refine hw_ret ?_ | refine hw_exit ?_ | refine hx_then_ret ?_ | refine hx_block_ret ?_ | refine hx_then_exit ?_ | refine hx_block_here ?_ | refine hx_far ?_ | refine hx_any ?_ | (apply ha_end; decide +kernel) | (apply hl_q; decide; (exact q_mulW rfl rfl)) | (apply hq_q; decide; (exact q_mulW rfl rfl)) | (apply hq_g; rfl; rfl; decide; (exact q_mulW rfl rfl)) | (apply hl_g; rfl; rfl; decide; (exact q_mulW rfl rfl)))
  first | refine hl_q (by decide) (q_call (fun w hm => (hp.up hm.below).ok) rfl) ?_ | refine hq_q (by decide) (q_call (fun w hm => (hp.up hm.below).ok) rfl) ?_ | refine hl_g _ _ rfl rfl (by decide) (q_call (fun w hm => (hp.up hm.below).ok) rfl) ?_ | refine hq_g _ _ rfl rfl (by decide) (q_call (fun w hm => (hp.up hm.below).ok) rfl) ?_
  rcases (Classical.em (Valid st tot xss)).symm with hv | hv
  · repeat' (first | refine hl_a ?_ | refine hq_a ?_ | refine hl_nil ?_ | refine hq_nil ?_ | refine hq_ga ?_ | refine hq_sk ?_ | refine hq_su ?_ | refine hq_gT ?_ | refine hq_gF ?_ | refine hq_gd (fun h => ?_) (fun h => ?_) | refine hl_ga ?_ | refine hl_sk ?_ | refine hl_su ?_ | refine hl_gT ?_ | refine hl_gF ?_ | refine hl_gd (fun h => ?_) (fun h => ?_) | refine hx_next ?_ | refine hw_seq ?_ | refine hw_region ?_ | refine hw_dr ?_ | refine hw_block ?_ | refine hx_block ?_ | refine hw_tt ?_ | refine hw_ff ?_ | refine hw_iT ?_ | refine hw_iF ?_ | refine hw_skip ?_ | refine hw_ret ?_ | refine hw_exit ?_ | refine hx_then_ret ?_ | refine hx_block_ret ?_ | refine hx_then_exit ?_ | refine hx_block_here ?_ | refine hx_far ?_ | refine hx_any ?_ | (apply ha_end; decide +kernel))
    refine hx_ret1 rfl rfl (fun w hm => ⟨?_, hm.none⟩)
    rw [decide_eq_false (fun e => hv e.v)]
  have hv2 : ¬ ¬ Valid st tot xss := fun e => e hv
  rcases Classical.em ((4 : Int) < st) with h4 | h4
  · repeat' (first | refine hl_a ?_ | refine hq_a ?_ | refine hl_nil ?_ | refine hq_nil ?_ | refine hq_ga ?_ | refine hq_sk ?_ | refine hq_su ?_ | refine hq_gT ?_ | refine hq_gF ?_ | refine hq_gd (fun h => ?_) (fun h => ?_) | refine hl_ga ?_ | refine hl_sk ?_ | refine hl_su ?_ | refine hl_gT ?_ | refine hl_gF ?_ | refine hl_gd (fun h => ?_) (fun h => ?_) | refine hx_next ?_ | refine hw_seq ?_ | refine hw_region ?_ | refine hw_dr ?_ | refine hw_block ?_ | refine hx_block ?_ | refine hw_tt ?_ | refine hw_ff ?_ | refine hw_iT ?_ | refine hw_iF ?_ | refine hw_skip ?_ | refine hw_ret ?_ | refine hw_exit ?_ | refine hx_then_ret ?_ | refine hx_block_ret ?_ | refine hx_then_exit ?_ | refine hx_block_here ?_ | refine hx_far ?_ | refine hx_any ?_ | (apply ha_end; decide +kernel))
    refine hx_ret1 rfl rfl (fun w hm => ⟨?_, hm.none⟩)
    rw [decide_eq_false (fun e => by have := e.s4; omega)]
  rcases Classical.em (st1 ≠ st) with h5 | h5
  · repeat' (first | refine hl_a ?_ | refine hq_a ?_ | refine hl_nil ?_ | refine hq_nil ?_ | refine hq_ga ?_ | refine hq_sk ?_ | refine hq_su ?_ | refine hq_gT ?_ | refine hq_gF ?_ | refine hq_gd (fun h => ?_) (fun h => ?_) | refine hl_ga ?_ | refine hl_sk ?_ | refine hl_su ?_ | refine hl_gT ?_ | refine hl_gF ?_ | refine hl_gd (fun h => ?_) (fun h => ?_) | refine hx_next ?_ | refine hw_seq ?_ | refine hw_region ?_ | refine hw_dr ?_ | refine hw_block ?_ | refine hx_block ?_ | refine hw_tt ?_ | refine hw_ff ?_ | refine hw_iT ?_ | refine hw_iF ?_ | refine hw_skip ?_ | refine hw_ret ?_ | refine hw_exit ?_ | refine hx_then_ret ?_ | refine hx_block_ret ?_ | refine hx_then_exit ?_ | refine hx_block_here ?_ | refine hx_far ?_ | refine hx_any ?_ | (apply ha_end; decide +kernel))
    refine hx_ret1 rfl rfl (fun w hm => ⟨?_, hm.none⟩)
    rw [decide_eq_false (fun e => h5 e.e)]
  repeat' (first | refine hl_a ?_ | refine hq_a ?_ | refine hl_nil ?_ | refine hq_nil ?_ | refine hq_ga ?_ | refine hq_sk ?_ | refine hq_su ?_ | refine hq_gT ?_ | refine hq_gF ?_ | refine hq_gd (fun h => ?_) (fun h => ?_) | refine hl_ga ?_ | refine hl_sk ?_ | refine hl_su ?_ | refine hl_gT ?_ | refine hl_gF ?_ | refine hl_gd (fun h => ?_) (fun h => ?_) | refine hx_next ?_ | refine hw_seq ?_ | refine hw_region ?_ | refine hw_dr ?_ | refine hw_block ?_ | refine hx_block ?_ | refine hw_tt ?_ | refine hw_ff ?_ | refine hw_iT ?_ | refine hw_iF ?_ | refine hw_skip ?_ | refine hw_ret ?_ | refine hw_exit ?_ | refine hx_then_ret ?_ | refine hx_block_ret ?_ | refine hx_then_exit ?_ | refine hx_block_here ?_ | refine hx_far ?_ | refine hx_any ?_ | (apply ha_end; decide +kernel))
  first | refine hl_q (by decide) (q_call (fun w hm => l00In_c _ _ _ _) rfl) ?_ | refine hq_q (by decide) (q_call (fun w hm => l00In_c _ _ _ _) rfl) ?_ | refine hl_g _ _ rfl rfl (by decide) (q_call (fun w hm => l00In_c _ _ _ _) rfl) ?_ | refine hq_g _ _ rfl rfl (by decide) (q_call (fun w hm => l00In_c _ _ _ _) rfl) ?_
  rcases (Classical.em (1 ≤ tot1 ∧ tot1 ≤ 3600)).symm with h6 | h6
  · repeat' (first | refine hl_a ?_ | refine hq_a ?_ | refine hl_nil ?_ | refine hq_nil ?_ | refine hq_ga ?_ | refine hq_sk ?_ | refine hq_su ?_ | refine hq_gT ?_ | refine hq_gF ?_ | refine hq_gd (fun h => ?_) (fun h => ?_) | refine hl_ga ?_ | refine hl_sk ?_ | refine hl_su ?_ | refine hl_gT ?_ | refine hl_gF ?_ | refine hl_gd (fun h => ?_) (fun h => ?_) | refine hx_next ?_ | refine hw_seq ?_ | refine hw_region ?_ | refine hw_dr ?_ | refine hw_block ?_ | refine hx_block ?_ | refine hw_tt ?_ | refine hw_ff ?_ | refine hw_iT ?_ | refine hw_iF ?_ | refine hw_skip ?_ | refine hw_ret ?_ | refine hw_exit ?_ | refine hx_then_ret ?_ | refine hx_block_ret ?_ | refine hx_then_exit ?_ | refine hx_block_here ?_ | refine hx_far ?_ | refine hx_any ?_ | (apply ha_end; decide +kernel))
    refine hx_ret1 rfl rfl (fun w hm => ⟨?_, hm.none⟩)
    rw [decide_eq_false (fun e => h6 e.t)]
  have h7 : ¬ ¬ (1 ≤ tot1 ∧ tot1 ≤ 3600) := fun e => e h6
  obtain rfl := Classical.not_not.1 h5
  obtain ⟨rfl, hn1, hn2⟩ := hv.nat
  have hn4 : xss.length ≤ 4 := by omega
  have n36 : xss.length * xss.length ≤ 16 := Nat.mul_le_mul hn4 hn4
  have hwr : IntKind.i64.wrap ((xss.length : Int) * (xss.length : Int)) = ((xss.length * xss.length : Nat) : Int) := by
    rw [← Int.natCast_mul]
    exact IntWalk.i64_in _ (by omega)
  rw [hwr]
  repeat' (first | refine hl_a ?_ | refine hq_a ?_ | refine hl_nil ?_ | refine hq_nil ?_ | refine hq_ga ?_ | refine hq_sk ?_ | refine hq_su ?_ | refine hq_gT ?_ | refine hq_gF ?_ | refine hq_gd (fun h => ?_) (fun h => ?_) | refine hl_ga ?_ | refine hl_sk ?_ | refine hl_su ?_ | refine hl_gT ?_ | refine hl_gF ?_ | refine hl_gd (fun h => ?_) (fun h => ?_) | refine hx_next ?_ | refine hw_seq ?_ | refine hw_region ?_ | refine hw_dr ?_ | refine hw_block ?_ | refine hx_block ?_ | refine hw_tt ?_ | refine hw_ff ?_ | refine hw_iT ?_ | refine hw_iF ?_ | refine hw_skip ?_ | refine hw_ret ?_ | refine hw_exit ?_ | refine hx_then_ret ?_ | refine hx_block_ret ?_ | refine hx_then_exit ?_ | refine hx_block_here ?_ | refine hx_far ?_ | refine hx_any ?_ | (apply ha_end; decide +kernel))
  refine hw_if rfl (fun h8 => ?_) (fun h8 => ?_)
  · repeat' (first | refine hl_a ?_ | refine hq_a ?_ | refine hl_nil ?_ | refine hq_nil ?_ | refine hq_ga ?_ | refine hq_sk ?_ | refine hq_su ?_ | refine hq_gT ?_ | refine hq_gF ?_ | refine hq_gd (fun h => ?_) (fun h => ?_) | refine hl_ga ?_ | refine hl_sk ?_ | refine hl_su ?_ | refine hl_gT ?_ | refine hl_gF ?_ | refine hl_gd (fun h => ?_) (fun h => ?_) | refine hx_next ?_ | refine hw_seq ?_ | refine hw_region ?_ | refine hw_dr ?_ | refine hw_block ?_ | refine hx_block ?_ | refine hw_tt ?_ | refine hw_ff ?_ | refine hw_iT ?_ | refine hw_iF ?_ | refine hw_skip ?_ | refine hw_ret ?_ | refine hw_exit ?_ | refine hx_then_ret ?_ | refine hx_block_ret ?_ | refine hx_then_exit ?_ | refine hx_block_here ?_ | refine hx_far ?_ | refine hx_any ?_ | (apply ha_end; decide +kernel))
    refine hx_ret1 rfl rfl (fun w hm => ⟨?_, hm.none⟩)
    rw [decide_eq_false (fun e => h8 (by rw [e.len]))]
  have hlen : yss.length = xss.length * xss.length := by have := Classical.not_not.1 h8; omega
  repeat' (first | refine hl_a ?_ | refine hq_a ?_ | refine hl_nil ?_ | refine hq_nil ?_ | refine hq_ga ?_ | refine hq_sk ?_ | refine hq_su ?_ | refine hq_gT ?_ | refine hq_gF ?_ | refine hq_gd (fun h => ?_) (fun h => ?_) | refine hl_ga ?_ | refine hl_sk ?_ | refine hl_su ?_ | refine hl_gT ?_ | refine hl_gF ?_ | refine hl_gd (fun h => ?_) (fun h => ?_) | refine hx_next ?_ | refine hw_seq ?_ | refine hw_region ?_ | refine hw_dr ?_ | refine hw_block ?_ | refine hx_block ?_ | refine hw_tt ?_ | refine hw_ff ?_ | refine hw_iT ?_ | refine hw_iF ?_ | refine hw_skip ?_ | refine hw_ret ?_ | refine hw_exit ?_ | refine hx_then_ret ?_ | refine hx_block_ret ?_ | refine hx_then_exit ?_ | refine hx_block_here ?_ | refine hx_far ?_ | refine hx_any ?_ | (apply ha_end; decide +kernel))
  refine hw_loop (fun e r m => r = [] ∧ ∃ i : Nat, i ≤ xss.length * xss.length ∧ m = xss.length * xss.length - i ∧ e = [(0, .pointer (some p)), (1, .pointer (some p1)), (5, .int .i64 ((xss.length * xss.length : Nat) : Int)), (6, .int .i64 (i : Int))] ∧ ∀ j, j < i → RowC xss.length tot xss tot1 j (yss.getD j []))
    ⟨rfl, 0, Nat.zero_le _, rfl, rfl, by omega⟩ ⟨rfl, rfl, rfl, rfl, trivial⟩ ?_
  rintro _ _ _ ⟨rfl, i, hi, rfl, rfl, hdone⟩
  repeat' (first | refine hl_a ?_ | refine hq_a ?_ | refine hl_nil ?_ | refine hq_nil ?_ | refine hq_ga ?_ | refine hq_sk ?_ | refine hq_su ?_ | refine hq_gT ?_ | refine hq_gF ?_ | refine hq_gd (fun h => ?_) (fun h => ?_) | refine hl_ga ?_ | refine hl_sk ?_ | refine hl_su ?_ | refine hl_gT ?_ | refine hl_gF ?_ | refine hl_gd (fun h => ?_) (fun h => ?_) | refine hx_next ?_ | refine hw_seq ?_ | refine hw_region ?_ | refine hw_dr ?_ | refine hw_block ?_ | refine hx_block ?_ | refine hw_tt ?_ | refine hw_ff ?_ | refine hw_iT ?_ | refine hw_iF ?_ | refine hw_skip ?_ | refine hw_ret ?_ | refine hw_exit ?_ | refine hx_then_ret ?_ | refine hx_block_ret ?_ | refine hx_then_exit ?_ | refine hx_block_here ?_ | refine hx_far ?_ | refine hx_any ?_ | (apply ha_end; decide +kernel))
  refine hw_if rfl (fun hlt => ?_) (fun hge => ?_)
  · have hi2 : i < xss.length * xss.length := by omega
    have hi3 : i < yss.length := by omega
    have ci := hr1.get i hi3
    have hri := hr1.row i hi3
    have si := hri.sl
    have hd1 : i / xss.length < xss.length := (Nat.div_lt_iff_lt_mul (by omega)).2 hi2
    have hd2 : i % xss.length < xss.length := Nat.mod_lt _ (by omega)
    repeat' (first | refine hl_a ?_ | refine hq_a ?_ | refine hl_nil ?_ | refine hq_nil ?_ | refine hq_ga ?_ | refine hq_sk ?_ | refine hq_su ?_ | refine hq_gT ?_ | refine hq_gF ?_ | refine hq_gd (fun h => ?_) (fun h => ?_) | refine hl_ga ?_ | refine hl_sk ?_ | refine hl_su ?_ | refine hl_gT ?_ | refine hl_gF ?_ | refine hl_gd (fun h => ?_) (fun h => ?_) | refine hx_next ?_ | refine hw_seq ?_ | refine hw_region ?_ | refine hw_dr ?_ | refine hw_block ?_ | refine hx_block ?_ | refine hw_tt ?_ | refine hw_ff ?_ | refine hw_iT ?_ | refine hw_iF ?_ | refine hw_skip ?_ | refine hw_ret ?_ | refine hw_exit ?_ | refine hx_then_ret ?_ | refine hx_block_ret ?_ | refine hx_then_exit ?_ | refine hx_block_here ?_ | refine hx_far ?_ | refine hx_any ?_ | (apply ha_end; decide +kernel))
    refine hw_if rfl (fun h9 => ?_) (fun h9 => ?_)
    · repeat' (first | refine hl_a ?_ | refine hq_a ?_ | refine hl_nil ?_ | refine hq_nil ?_ | refine hq_ga ?_ | refine hq_sk ?_ | refine hq_su ?_ | refine hq_gT ?_ | refine hq_gF ?_ | refine hq_gd (fun h => ?_) (fun h => ?_) | refine hl_ga ?_ | refine hl_sk ?_ | refine hl_su ?_ | refine hl_gT ?_ | refine hl_gF ?_ | refine hl_gd (fun h => ?_) (fun h => ?_) | refine hx_next ?_ | refine hw_seq ?_ | refine hw_region ?_ | refine hw_dr ?_ | refine hw_block ?_ | refine hx_block ?_ | refine hw_tt ?_ | refine hw_ff ?_ | refine hw_iT ?_ | refine hw_iF ?_ | refine hw_skip ?_ | refine hw_ret ?_ | refine hw_exit ?_ | refine hx_then_ret ?_ | refine hx_block_ret ?_ | refine hx_then_exit ?_ | refine hx_block_here ?_ | refine hx_far ?_ | refine hx_any ?_ | (apply ha_end; decide +kernel))
      refine hx_ret1 rfl rfl (fun w hm => ⟨?_, hm.none⟩)
      rw [decide_eq_false (fun e => h9 (by rw [(e.row i hi2).len]))]
    have hrl : (yss.getD i []).length = xss.length * xss.length := by have := Classical.not_not.1 h9; omega
    repeat' (first | refine hl_a ?_ | refine hq_a ?_ | refine hl_nil ?_ | refine hq_nil ?_ | refine hq_ga ?_ | refine hq_sk ?_ | refine hq_su ?_ | refine hq_gT ?_ | refine hq_gF ?_ | refine hq_gd (fun h => ?_) (fun h => ?_) | refine hl_ga ?_ | refine hl_sk ?_ | refine hl_su ?_ | refine hl_gT ?_ | refine hl_gF ?_ | refine hl_gd (fun h => ?_) (fun h => ?_) | refine hx_next ?_ | refine hw_seq ?_ | refine hw_region ?_ | refine hw_dr ?_ | refine hw_block ?_ | refine hx_block ?_ | refine hw_tt ?_ | refine hw_ff ?_ | refine hw_iT ?_ | refine hw_iF ?_ | refine hw_skip ?_ | refine hw_ret ?_ | refine hw_exit ?_ | refine hx_then_ret ?_ | refine hx_block_ret ?_ | refine hx_then_exit ?_ | refine hx_block_here ?_ | refine hx_far ?_ | refine hx_any ?_ | (apply ha_end; decide +kernel))
    refine hw_loop (fun e r m => r = [] ∧ ∃ k : Nat, k ≤ xss.length * xss.length ∧ m = xss.length * xss.length - k ∧ e = [(0, .pointer (some p)), (1, .pointer (some p1)), (5, .int .i64 ((xss.length * xss.length : Nat) : Int)), (6, .int .i64 (i : Int)), (7, row1 i), (8, .int .i64 ((yss.getD i []).take k).sum), (9, .int .i64 (k : Int))] ∧ ∀ j, j < k → 0 ≤ (yss.getD i []).getD j 0 ∧ (yss.getD i []).getD j 0 ≤ tot1)
      ⟨rfl, 0, Nat.zero_le _, rfl, rfl, by omega⟩ ⟨rfl, rfl, rfl, rfl, rfl, rfl, rfl, trivial⟩ ?_
    rintro _ _ _ ⟨rfl, k, hk, rfl, rfl, hall⟩
    repeat' (first | refine hl_a ?_ | refine hq_a ?_ | refine hl_nil ?_ | refine hq_nil ?_ | refine hq_ga ?_ | refine hq_sk ?_ | refine hq_su ?_ | refine hq_gT ?_ | refine hq_gF ?_ | refine hq_gd (fun h => ?_) (fun h => ?_) | refine hl_ga ?_ | refine hl_sk ?_ | refine hl_su ?_ | refine hl_gT ?_ | refine hl_gF ?_ | refine hl_gd (fun h => ?_) (fun h => ?_) | refine hx_next ?_ | refine hw_seq ?_ | refine hw_region ?_ | refine hw_dr ?_ | refine hw_block ?_ | refine hx_block ?_ | refine hw_tt ?_ | refine hw_ff ?_ | refine hw_iT ?_ | refine hw_iF ?_ | refine hw_skip ?_ | refine hw_ret ?_ | refine hw_exit ?_ | refine hx_then_ret ?_ | refine hx_block_ret ?_ | refine hx_then_exit ?_ | refine hx_block_here ?_ | refine hx_far ?_ | refine hx_any ?_ | (apply ha_end; decide +kernel))
    refine hw_if rfl (fun hlt2 => ?_) (fun hge2 => ?_)
    · have hk2 : k < (yss.getD i []).length := by omega
      have ck := hri.get k hk2
      have hb := sum_take_le 3600 (yss.getD i []) k (by omega) (fun t ht => by have := hall t ht; omega)
      repeat' (first | refine hl_a ?_ | refine hq_a ?_ | refine hl_nil ?_ | refine hq_nil ?_ | refine hq_ga ?_ | refine hq_sk ?_ | refine hq_su ?_ | refine hq_gT ?_ | refine hq_gF ?_ | refine hq_gd (fun h => ?_) (fun h => ?_) | refine hl_ga ?_ | refine hl_sk ?_ | refine hl_su ?_ | refine hl_gT ?_ | refine hl_gF ?_ | refine hl_gd (fun h => ?_) (fun h => ?_) | refine hx_next ?_ | refine hw_seq ?_ | refine hw_region ?_ | refine hw_dr ?_ | refine hw_block ?_ | refine hx_block ?_ | refine hw_tt ?_ | refine hw_ff ?_ | refine hw_iT ?_ | refine hw_iF ?_ | refine hw_skip ?_ | refine hw_ret ?_ | refine hw_exit ?_ | refine hx_then_ret ?_ | refine hx_block_ret ?_ | refine hx_then_exit ?_ | refine hx_block_here ?_ | refine hx_far ?_ | refine hx_any ?_ | (apply ha_end; decide +kernel))
      first | refine hl_q (by decide) (q_call (fun w hm => l00In_c _ _ _ _) rfl) ?_ | refine hq_q (by decide) (q_call (fun w hm => l00In_c _ _ _ _) rfl) ?_ | refine hl_g _ _ rfl rfl (by decide) (q_call (fun w hm => l00In_c _ _ _ _) rfl) ?_ | refine hq_g _ _ rfl rfl (by decide) (q_call (fun w hm => l00In_c _ _ _ _) rfl) ?_
      repeat' (first | refine hl_a ?_ | refine hq_a ?_ | refine hl_nil ?_ | refine hq_nil ?_ | refine hq_ga ?_ | refine hq_sk ?_ | refine hq_su ?_ | refine hq_gT ?_ | refine hq_gF ?_ | refine hq_gd (fun h => ?_) (fun h => ?_) | refine hl_ga ?_ | refine hl_sk ?_ | refine hl_su ?_ | refine hl_gT ?_ | refine hl_gF ?_ | refine hl_gd (fun h => ?_) (fun h => ?_) | refine hx_next ?_ | refine hw_seq ?_ | refine hw_region ?_ | refine hw_dr ?_ | refine hw_block ?_ | refine hx_block ?_ | refine hw_tt ?_ | refine hw_ff ?_ | refine hw_iT ?_ | refine hw_iF ?_ | refine hw_skip ?_ | refine hw_ret ?_ | refine hw_exit ?_ | refine hx_then_ret ?_ | refine hx_block_ret ?_ | refine hx_then_exit ?_ | refine hx_block_here ?_ | refine hx_far ?_ | refine hx_any ?_ | (apply ha_end; decide +kernel))
      refine hw_if rfl (fun h10 => ?_) (fun h10 => ?_)
      · repeat' (first | refine hl_a ?_ | refine hq_a ?_ | refine hl_nil ?_ | refine hq_nil ?_ | refine hq_ga ?_ | refine hq_sk ?_ | refine hq_su ?_ | refine hq_gT ?_ | refine hq_gF ?_ | refine hq_gd (fun h => ?_) (fun h => ?_) | refine hl_ga ?_ | refine hl_sk ?_ | refine hl_su ?_ | refine hl_gT ?_ | refine hl_gF ?_ | refine hl_gd (fun h => ?_) (fun h => ?_) | refine hx_next ?_ | refine hw_seq ?_ | refine hw_region ?_ | refine hw_dr ?_ | refine hw_block ?_ | refine hx_block ?_ | refine hw_tt ?_ | refine hw_ff ?_ | refine hw_iT ?_ | refine hw_iF ?_ | refine hw_skip ?_ | refine hw_ret ?_ | refine hw_exit ?_ | refine hx_then_ret ?_ | refine hx_block_ret ?_ | refine hx_then_exit ?_ | refine hx_block_here ?_ | refine hx_far ?_ | refine hx_any ?_ | (apply ha_end; decide +kernel))
        refine hx_ret1 rfl rfl (fun w hm => ⟨?_, hm.none⟩)
        rw [decide_eq_false (fun e => h10 ((e.row i hi2).all k (by omega)))]
      have h11 := Classical.not_not.1 h10
      repeat' (first | refine hl_a ?_ | refine hq_a ?_ | refine hl_nil ?_ | refine hq_nil ?_ | refine hq_ga ?_ | refine hq_sk ?_ | refine hq_su ?_ | refine hq_gT ?_ | refine hq_gF ?_ | refine hq_gd (fun h => ?_) (fun h => ?_) | refine hl_ga ?_ | refine hl_sk ?_ | refine hl_su ?_ | refine hl_gT ?_ | refine hl_gF ?_ | refine hl_gd (fun h => ?_) (fun h => ?_) | refine hx_next ?_ | refine hw_seq ?_ | refine hw_region ?_ | refine hw_dr ?_ | refine hw_block ?_ | refine hx_block ?_ | refine hw_tt ?_ | refine hw_ff ?_ | refine hw_iT ?_ | refine hw_iF ?_ | refine hw_skip ?_ | refine hw_ret ?_ | refine hw_exit ?_ | refine hx_then_ret ?_ | refine hx_block_ret ?_ | refine hx_then_exit ?_ | refine hx_block_here ?_ | refine hx_far ?_ | refine hx_any ?_ | (apply ha_end; decide +kernel))
      refine hx_round ⟨rfl, k + 1, by omega, rfl, rfl, fun j hj => ?_⟩ (by omega) ⟨rfl, rfl, rfl, rfl, rfl, ?_, rfl, trivial⟩
      · by_cases e : j = k
        · subst e; exact h11
        · exact hall j (by omega)
      · rw [sum_take_succ _ _ hk2]; rfl
    · have e : k = xss.length * xss.length := by omega
      subst e
      have htk : (yss.getD i []).take (xss.length * xss.length) = yss.getD i [] := by rw [← hrl]; exact List.take_length
      rw [htk]
      rcases Classical.em ((yss.getD i []).sum ≠ tot1) with h12 | h12
      · repeat' (first | refine hl_a ?_ | refine hq_a ?_ | refine hl_nil ?_ | refine hq_nil ?_ | refine hq_ga ?_ | refine hq_sk ?_ | refine hq_su ?_ | refine hq_gT ?_ | refine hq_gF ?_ | refine hq_gd (fun h => ?_) (fun h => ?_) | refine hl_ga ?_ | refine hl_sk ?_ | refine hl_su ?_ | refine hl_gT ?_ | refine hl_gF ?_ | refine hl_gd (fun h => ?_) (fun h => ?_) | refine hx_next ?_ | refine hw_seq ?_ | refine hw_region ?_ | refine hw_dr ?_ | refine hw_block ?_ | refine hx_block ?_ | refine hw_tt ?_ | refine hw_ff ?_ | refine hw_iT ?_ | refine hw_iF ?_ | refine hw_skip ?_ | refine hw_ret ?_ | refine hw_exit ?_ | refine hx_then_ret ?_ | refine hx_block_ret ?_ | refine hx_then_exit ?_ | refine hx_block_here ?_ | refine hx_far ?_ | refine hx_any ?_ | (apply ha_end; decide +kernel))
        refine hx_ret1 rfl rfl (fun w hm => ⟨?_, hm.none⟩)
        rw [decide_eq_false (fun e => h12 (e.row i hi2).sum)]
      have hrow2 : ∀ b q, q < xss.length → ∀ w', Below w.heap.size w w' → Ret Try.prog 123 [.pointer (some p), .pointer (some p1), row1 i, .int .i64 (q : Int), .bool b] w' (.bool (decide (margP b xss.length tot xss tot1 q (yss.getD i [])))) := fun b q hq w' hb =>
        l04Marginal_c b p p1 _ tot v xss row _ tot1 v1 yss row1 (row1 i) _ q w' (hp.up hb) (hp1.up hb) hv h6 (hri.up hb) hq hrl hall
      repeat' (first | refine hl_a ?_ | refine hq_a ?_ | refine hl_nil ?_ | refine hq_nil ?_ | refine hq_ga ?_ | refine hq_sk ?_ | refine hq_su ?_ | refine hq_gT ?_ | refine hq_gF ?_ | refine hq_gd (fun h => ?_) (fun h => ?_) | refine hl_ga ?_ | refine hl_sk ?_ | refine hl_su ?_ | refine hl_gT ?_ | refine hl_gF ?_ | refine hl_gd (fun h => ?_) (fun h => ?_) | refine hx_next ?_ | refine hw_seq ?_ | refine hw_region ?_ | refine hw_dr ?_ | refine hw_block ?_ | refine hx_block ?_ | refine hw_tt ?_ | refine hw_ff ?_ | refine hw_iT ?_ | refine hw_iF ?_ | refine hw_skip ?_ | refine hw_ret ?_ | refine hw_exit ?_ | refine hx_then_ret ?_ | refine hx_block_ret ?_ | refine hx_then_exit ?_ | refine hx_block_here ?_ | refine hx_far ?_ | refine hx_any ?_ | (apply ha_end; decide +kernel))
      first | refine hl_q (by decide) (q_quoN (a := i) (b := xss.length) rfl rfl (by omega) (by omega)) ?_ | refine hq_q (by decide) (q_quoN (a := i) (b := xss.length) rfl rfl (by omega) (by omega)) ?_ | refine hl_g _ _ rfl rfl (by decide) (q_quoN (a := i) (b := xss.length) rfl rfl (by omega) (by omega)) ?_ | refine hq_g _ _ rfl rfl (by decide) (q_quoN (a := i) (b := xss.length) rfl rfl (by omega) (by omega)) ?_
      first | refine hl_q (by decide) (q_call (fun w hm => hrow2 true (i / xss.length) hd1 w hm.below) rfl) ?_ | refine hq_q (by decide) (q_call (fun w hm => hrow2 true (i / xss.length) hd1 w hm.below) rfl) ?_ | refine hl_g _ _ rfl rfl (by decide) (q_call (fun w hm => hrow2 true (i / xss.length) hd1 w hm.below) rfl) ?_ | refine hq_g _ _ rfl rfl (by decide) (q_call (fun w hm => hrow2 true (i / xss.length) hd1 w hm.below) rfl) ?_
      rcases (Classical.em (margP true xss.length tot xss tot1 (i / xss.length) (yss.getD i []))).symm with h13 | h13
      · repeat' (first | refine hl_a ?_ | refine hq_a ?_ | refine hl_nil ?_ | refine hq_nil ?_ | refine hq_ga ?_ | refine hq_sk ?_ | refine hq_su ?_ | refine hq_gT ?_ | refine hq_gF ?_ | refine hq_gd (fun h => ?_) (fun h => ?_) | refine hl_ga ?_ | refine hl_sk ?_ | refine hl_su ?_ | refine hl_gT ?_ | refine hl_gF ?_ | refine hl_gd (fun h => ?_) (fun h => ?_) | refine hx_next ?_ | refine hw_seq ?_ | refine hw_region ?_ | refine hw_dr ?_ | refine hw_block ?_ | refine hx_block ?_ | refine hw_tt ?_ | refine hw_ff ?_ | refine hw_iT ?_ | refine hw_iF ?_ | refine hw_skip ?_ | refine hw_ret ?_ | refine hw_exit ?_ | refine hx_then_ret ?_ | refine hx_block_ret ?_ | refine hx_then_exit ?_ | refine hx_block_here ?_ | refine hx_far ?_ | refine hx_any ?_ | (apply ha_end; decide +kernel))
        refine hx_ret1 rfl rfl (fun w hm => ⟨?_, hm.none⟩)
        rw [decide_eq_false (fun e => h13 (by have := (e.row i hi2).left; intro u hu; simpa using this u hu))]
      have h14 : ¬ ¬ margP true xss.length tot xss tot1 (i / xss.length) (yss.getD i []) := fun e => e h13
      repeat' (first | refine hl_a ?_ | refine hq_a ?_ | refine hl_nil ?_ | refine hq_nil ?_ | refine hq_ga ?_ | refine hq_sk ?_ | refine hq_su ?_ | refine hq_gT ?_ | refine hq_gF ?_ | refine hq_gd (fun h => ?_) (fun h => ?_) | refine hl_ga ?_ | refine hl_sk ?_ | refine hl_su ?_ | refine hl_gT ?_ | refine hl_gF ?_ | refine hl_gd (fun h => ?_) (fun h => ?_) | refine hx_next ?_ | refine hw_seq ?_ | refine hw_region ?_ | refine hw_dr ?_ | refine hw_block ?_ | refine hx_block ?_ | refine hw_tt ?_ | refine hw_ff ?_ | refine hw_iT ?_ | refine hw_iF ?_ | refine hw_skip ?_ | refine hw_ret ?_ | refine hw_exit ?_ | refine hx_then_ret ?_ | refine hx_block_ret ?_ | refine hx_then_exit ?_ | refine hx_block_here ?_ | refine hx_far ?_ | refine hx_any ?_ | (apply ha_end; decide +kernel))
      first | refine hl_q (by decide) (q_remN (a := i) (b := xss.length) rfl rfl (by omega) (by omega)) ?_ | refine hq_q (by decide) (q_remN (a := i) (b := xss.length) rfl rfl (by omega) (by omega)) ?_ | refine hl_g _ _ rfl rfl (by decide) (q_remN (a := i) (b := xss.length) rfl rfl (by omega) (by omega)) ?_ | refine hq_g _ _ rfl rfl (by decide) (q_remN (a := i) (b := xss.length) rfl rfl (by omega) (by omega)) ?_
      first | refine hl_q (by decide) (q_call (fun w hm => hrow2 false (i % xss.length) hd2 w hm.below) rfl) ?_ | refine hq_q (by decide) (q_call (fun w hm => hrow2 false (i % xss.length) hd2 w hm.below) rfl) ?_ | refine hl_g _ _ rfl rfl (by decide) (q_call (fun w hm => hrow2 false (i % xss.length) hd2 w hm.below) rfl) ?_ | refine hq_g _ _ rfl rfl (by decide) (q_call (fun w hm => hrow2 false (i % xss.length) hd2 w hm.below) rfl) ?_
      repeat' (first | refine hl_a ?_ | refine hq_a ?_ | refine hl_nil ?_ | refine hq_nil ?_ | refine hq_ga ?_ | refine hq_sk ?_ | refine hq_su ?_ | refine hq_gT ?_ | refine hq_gF ?_ | refine hq_gd (fun h => ?_) (fun h => ?_) | refine hl_ga ?_ | refine hl_sk ?_ | refine hl_su ?_ | refine hl_gT ?_ | refine hl_gF ?_ | refine hl_gd (fun h => ?_) (fun h => ?_) | refine hx_next ?_ | refine hw_seq ?_ | refine hw_region ?_ | refine hw_dr ?_ | refine hw_block ?_ | refine hx_block ?_ | refine hw_tt ?_ | refine hw_ff ?_ | refine hw_iT ?_ | refine hw_iF ?_ | refine hw_skip ?_ | refine hw_ret ?_ | refine hw_exit ?_ | refine hx_then_ret ?_ | refine hx_block_ret ?_ | refine hx_then_exit ?_ | refine hx_block_here ?_ | refine hx_far ?_ | refine hx_any ?_ | (apply ha_end; decide +kernel))
      refine hw_if rfl (fun h15 => ?_) (fun h15 => ?_)
      · repeat' (first | refine hl_a ?_ | refine hq_a ?_ | refine hl_nil ?_ | refine hq_nil ?_ | refine hq_ga ?_ | refine hq_sk ?_ | refine hq_su ?_ | refine hq_gT ?_ | refine hq_gF ?_ | refine hq_gd (fun h => ?_) (fun h => ?_) | refine hl_ga ?_ | refine hl_sk ?_ | refine hl_su ?_ | refine hl_gT ?_ | refine hl_gF ?_ | refine hl_gd (fun h => ?_) (fun h => ?_) | refine hx_next ?_ | refine hw_seq ?_ | refine hw_region ?_ | refine hw_dr ?_ | refine hw_block ?_ | refine hx_block ?_ | refine hw_tt ?_ | refine hw_ff ?_ | refine hw_iT ?_ | refine hw_iF ?_ | refine hw_skip ?_ | refine hw_ret ?_ | refine hw_exit ?_ | refine hx_then_ret ?_ | refine hx_block_ret ?_ | refine hx_then_exit ?_ | refine hx_block_here ?_ | refine hx_far ?_ | refine hx_any ?_ | (apply ha_end; decide +kernel))
        refine hx_ret1 rfl rfl (fun w hm => ⟨?_, hm.none⟩)
        rw [decide_eq_false (fun e => h15 (by have := (e.row i hi2).right; intro u hu; simpa using this u hu))]
      · repeat' (first | refine hl_a ?_ | refine hq_a ?_ | refine hl_nil ?_ | refine hq_nil ?_ | refine hq_ga ?_ | refine hq_sk ?_ | refine hq_su ?_ | refine hq_gT ?_ | refine hq_gF ?_ | refine hq_gd (fun h => ?_) (fun h => ?_) | refine hl_ga ?_ | refine hl_sk ?_ | refine hl_su ?_ | refine hl_gT ?_ | refine hl_gF ?_ | refine hl_gd (fun h => ?_) (fun h => ?_) | refine hx_next ?_ | refine hw_seq ?_ | refine hw_region ?_ | refine hw_dr ?_ | refine hw_block ?_ | refine hx_block ?_ | refine hw_tt ?_ | refine hw_ff ?_ | refine hw_iT ?_ | refine hw_iF ?_ | refine hw_skip ?_ | refine hw_ret ?_ | refine hw_exit ?_ | refine hx_then_ret ?_ | refine hx_block_ret ?_ | refine hx_then_exit ?_ | refine hx_block_here ?_ | refine hx_far ?_ | refine hx_any ?_ | (apply ha_end; decide +kernel))
        refine hx_round ⟨rfl, i + 1, hi2, rfl, rfl, fun j hj => ?_⟩ (by omega) ⟨rfl, rfl, rfl, rfl, trivial⟩
        by_cases e : j = i
        · subst e
          exact ⟨hrl, hall, Classical.not_not.1 h12, fun u hu => by simpa using h13 u hu, fun u hu => by simpa using (Classical.not_not.1 h15) u hu⟩
        · exact hdone j (by omega)
  · repeat' (first | refine hl_a ?_ | refine hq_a ?_ | refine hl_nil ?_ | refine hq_nil ?_ | refine hq_ga ?_ | refine hq_sk ?_ | refine hq_su ?_ | refine hq_gT ?_ | refine hq_gF ?_ | refine hq_gd (fun h => ?_) (fun h => ?_) | refine hl_ga ?_ | refine hl_sk ?_ | refine hl_su ?_ | refine hl_gT ?_ | refine hl_gF ?_ | refine hl_gd (fun h => ?_) (fun h => ?_) | refine hx_next ?_ | refine hw_seq ?_ | refine hw_region ?_ | refine hw_dr ?_ | refine hw_block ?_ | refine hx_block ?_ | refine hw_tt ?_ | refine hw_ff ?_ | refine hw_iT ?_ | refine hw_iF ?_ | refine hw_skip ?_ | refine hw_ret ?_ | refine hw_exit ?_ | refine hx_then_ret ?_ | refine hx_block_ret ?_ | refine hx_then_exit ?_ | refine hx_block_here ?_ | refine hx_far ?_ | refine hx_any ?_ | (apply ha_end; decide +kernel))
    refine hx_ret1 rfl rfl (fun w hm => ⟨?_, hm.none⟩)
    rw [decide_eq_true (p := ValidC xss.length tot xss xss.length tot1 yss) ⟨hv, by omega, rfl, h6, hlen, fun j hj => hdone j (by omega)⟩]
set_option maxHeartbeats 4000000 in
theorem implValidCoupled_c (st tot : Int) (v : Value) (xss : List (List Int)) (row : Nat → Value) (st1 tot1 : Int) (v1 : Value) (yss : List (List Int)) (row1 : Nat → Value) (w : World) (hr : RdS (Value.int .i64) 0 w v xss row) (hr1 : RdS (Value.int .i64) 0 w v1 yss row1) :
    Ret Try.prog 97 [chV st tot v, chV st1 tot1 v1] w (.bool (decide (ValidC st tot xss st1 tot1 yss))) := by
  refine calls_hw Try.func97 Try.ntmps97 rfl rfl ?_
  have hsl := hr.sl
  have hsl1 := hr1.sl
  have hle1 := hsl1.le
  repeat' (first | refine hl_a ?_ | refine hq_a ?_ | refine hl_nil ?_ | refine hq_nil ?_ | refine hq_ga ?_ | refine hq_sk ?_ | refine hq_su ?_ | refine hq_gT ?_ | refine hq_gF ?_ | refine hq_gd (fun h => ?_) (fun h => ?_) | refine hl_ga ?_ | refine hl_sk ?_ | refine hl_su ?_ | refine hl_gT ?_ | refine hl_gF ?_ | refine hl_gd (fun h => ?_) (fun h => ?_) | refine hx_next ?_ | refine hw_seq ?_ | refine hw_region ?_ | refine hw_dr ?_ | refine hw_block ?_ | refine hx_block ?_ | refine hw_tt ?_ | refine hw_ff ?_ | refine hw_iT ?_ | refine hw_iF ?_ | refine hw_skip ?_ | refine hw_ret ?_ | refine hw_exit ?_ | refine hx_then_ret ?_ | refine hx_block_ret ?_ | refine hx_then_exit ?_ | refine hx_block_here ?_ | refine hx_far ?_ | refine hx_any ?_ | (apply ha_end; decide +kernel))
  refine hl_box (by decide) rfl (fun b => ?_)
  refine hl_box (by decide) rfl (fun b' => ?_)
  repeat' (first | refine hl_a ?_ | refine hq_a ?_ | refine hl_nil ?_ | refine hq_nil ?_ | refine hq_ga ?_ | refine hq_sk ?_ | refine hq_su ?_ | refine hq_gT ?_ | refine hq_gF ?_ | refine hq_gd (fun h => ?_) (fun h => ?_) | refine hl_ga ?_ | refine hl_sk ?_ | refine hl_su ?_ | refine hl_gT ?_ | refine hl_gF ?_ | refine hl_gd (fun h => ?_) (fun h => ?_) | refine hx_next ?_ | refine hw_seq ?_ | refine hw_region ?_ | refine hw_dr ?_ | refine hw_block ?_ | refine hx_block ?_ | refine hw_tt ?_ | refine hw_ff ?_ | refine hw_iT ?_ | refine hw_iF ?_ | refine hw_skip ?_ | refine hw_ret ?_ | refine hw_exit ?_ | refine hx_then_ret ?_ | refine hx_block_ret ?_ | refine hx_then_exit ?_ | refine hx_block_here ?_ | refine hx_far ?_ | refine hx_any ?_ | (apply ha_end; decide +kernel))
  first | refine hl_q (by decide) (q_call (fun w hm => implValidChain_c st tot v xss row w (hr.up hm.below)) rfl) ?_ | refine hq_q (by decide) (q_call (fun w hm => implValidChain_c st tot v xss row w (hr.up hm.below)) rfl) ?_ | refine hl_g _ _ rfl rfl (by decide) (q_call (fun w hm => implValidChain_c st tot v xss row w (hr.up hm.below)) rfl) ?_ | refine hq_g _ _ rfl rfl (by decide) (q_call (fun w hm => implValidChain_c st tot v xss row w (hr.up hm.below)) rfl) ?_
  rcases (Classical.em (Valid st tot xss)).symm with hv | hv
  · repeat' (first | refine hl_a ?_ | refine hq_a ?_ | refine hl_nil ?_ | refine hq_nil ?_ | refine hq_ga ?_ | refine hq_sk ?_ | refine hq_su ?_ | refine hq_gT ?_ | refine hq_gF ?_ | refine hq_gd (fun h => ?_) (fun h => ?_) | refine hl_ga ?_ | refine hl_sk ?_ | refine hl_su ?_ | refine hl_gT ?_ | refine hl_gF ?_ | refine hl_gd (fun h => ?_) (fun h => ?_) | refine hx_next ?_ | refine hw_seq ?_ | refine hw_region ?_ | refine hw_dr ?_ | refine hw_block ?_ | refine hx_block ?_ | refine hw_tt ?_ | refine hw_ff ?_ | refine hw_iT ?_ | refine hw_iF ?_ | refine hw_skip ?_ | refine hw_ret ?_ | refine hw_exit ?_ | refine hx_then_ret ?_ | refine hx_block_ret ?_ | refine hx_then_exit ?_ | refine hx_block_here ?_ | refine hx_far ?_ | refine hx_any ?_ | (apply ha_end; decide +kernel))
    refine hx_ret1 rfl rfl (fun w hm => ⟨?_, hm.none⟩)
    rw [decide_eq_false (fun e => hv e.v)]
  have hv2 : ¬ ¬ Valid st tot xss := fun e => e hv
  rcases Classical.em ((4 : Int) < st) with h4 | h4
  · repeat' (first | refine hl_a ?_ | refine hq_a ?_ | refine hl_nil ?_ | refine hq_nil ?_ | refine hq_ga ?_ | refine hq_sk ?_ | refine hq_su ?_ | refine hq_gT ?_ | refine hq_gF ?_ | refine hq_gd (fun h => ?_) (fun h => ?_) | refine hl_ga ?_ | refine hl_sk ?_ | refine hl_su ?_ | refine hl_gT ?_ | refine hl_gF ?_ | refine hl_gd (fun h => ?_) (fun h => ?_) | refine hx_next ?_ | refine hw_seq ?_ | refine hw_region ?_ | refine hw_dr ?_ | refine hw_block ?_ | refine hx_block ?_ | refine hw_tt ?_ | refine hw_ff ?_ | refine hw_iT ?_ | refine hw_iF ?_ | refine hw_skip ?_ | refine hw_ret ?_ | refine hw_exit ?_ | refine hx_then_ret ?_ | refine hx_block_ret ?_ | refine hx_then_exit ?_ | refine hx_block_here ?_ | refine hx_far ?_ | refine hx_any ?_ | (apply ha_end; decide +kernel))
    refine hx_ret1 rfl rfl (fun w hm => ⟨?_, hm.none⟩)
    rw [decide_eq_false (fun e => by have := e.s4; omega)]
  rcases Classical.em (st1 ≠ st) with h5 | h5
  · repeat' (first | refine hl_a ?_ | refine hq_a ?_ | refine hl_nil ?_ | refine hq_nil ?_ | refine hq_ga ?_ | refine hq_sk ?_ | refine hq_su ?_ | refine hq_gT ?_ | refine hq_gF ?_ | refine hq_gd (fun h => ?_) (fun h => ?_) | refine hl_ga ?_ | refine hl_sk ?_ | refine hl_su ?_ | refine hl_gT ?_ | refine hl_gF ?_ | refine hl_gd (fun h => ?_) (fun h => ?_) | refine hx_next ?_ | refine hw_seq ?_ | refine hw_region ?_ | refine hw_dr ?_ | refine hw_block ?_ | refine hx_block ?_ | refine hw_tt ?_ | refine hw_ff ?_ | refine hw_iT ?_ | refine hw_iF ?_ | refine hw_skip ?_ | refine hw_ret ?_ | refine hw_exit ?_ | refine hx_then_ret ?_ | refine hx_block_ret ?_ | refine hx_then_exit ?_ | refine hx_block_here ?_ | refine hx_far ?_ | refine hx_any ?_ | (apply ha_end; decide +kernel))
    refine hx_ret1 rfl rfl (fun w hm => ⟨?_, hm.none⟩)
    rw [decide_eq_false (fun e => h5 e.e)]
  repeat' (first | refine hl_a ?_ | refine hq_a ?_ | refine hl_nil ?_ | refine hq_nil ?_ | refine hq_ga ?_ | refine hq_sk ?_ | refine hq_su ?_ | refine hq_gT ?_ | refine hq_gF ?_ | refine hq_gd (fun h => ?_) (fun h => ?_) | refine hl_ga ?_ | refine hl_sk ?_ | refine hl_su ?_ | refine hl_gT ?_ | refine hl_gF ?_ | refine hl_gd (fun h => ?_) (fun h => ?_) | refine hx_next ?_ | refine hw_seq ?_ | refine hw_region ?_ | refine hw_dr ?_ | refine hw_block ?_ | refine hx_block ?_ | refine hw_tt ?_ | refine hw_ff ?_ | refine hw_iT ?_ | refine hw_iF ?_ | refine hw_skip ?_ | refine hw_ret ?_ | refine hw_exit ?_ | refine hx_then_ret ?_ | refine hx_block_ret ?_ | refine hx_then_exit ?_ | refine hx_block_here ?_ | refine hx_far ?_ | refine hx_any ?_ | (apply ha_end; decide +kernel))
  first | refine hl_q (by decide) (q_call (fun w hm => inRange_c _ _ _ _) rfl) ?_ | refine hq_q (by decide) (q_call (fun w hm => inRange_c _ _ _ _) rfl) ?_ | refine hl_g _ _ rfl rfl (by decide) (q_call (fun w hm => inRange_c _ _ _ _) rfl) ?_ | refine hq_g _ _ rfl rfl (by decide) (q_call (fun w hm => inRange_c _ _ _ _) rfl) ?_
  rcases (Classical.em (1 ≤ tot1 ∧ tot1 ≤ 3600)).symm with h6 | h6
  · repeat' (first | refine hl_a ?_ | refine hq_a ?_ | refine hl_nil ?_ | refine hq_nil ?_ | refine hq_ga ?_ | refine hq_sk ?_ | refine hq_su ?_ | refine hq_gT ?_ | refine hq_gF ?_ | refine hq_gd (fun h => ?_) (fun h => ?_) | refine hl_ga ?_ | refine hl_sk ?_ | refine hl_su ?_ | refine hl_gT ?_ | refine hl_gF ?_ | refine hl_gd (fun h => ?_) (fun h => ?_) | refine hx_next ?_ | refine hw_seq ?_ | refine hw_region ?_ | refine hw_dr ?_ | refine hw_block ?_ | refine hx_block ?_ | refine hw_tt ?_ | refine hw_ff ?_ | refine hw_iT ?_ | refine hw_iF ?_ | refine hw_skip ?_ | refine hw_ret ?_ | refine hw_exit ?_ | refine hx_then_ret ?_ | refine hx_block_ret ?_ | refine hx_then_exit ?_ | refine hx_block_here ?_ | refine hx_far ?_ | refine hx_any ?_ | (apply ha_end; decide +kernel))
    refine hx_ret1 rfl rfl (fun w hm => ⟨?_, hm.none⟩)
    rw [decide_eq_false (fun e => h6 e.t)]
  have h7 : ¬ ¬ (1 ≤ tot1 ∧ tot1 ≤ 3600) := fun e => e h6
  obtain rfl := Classical.not_not.1 h5
  obtain ⟨rfl, hn1, hn2⟩ := hv.nat
  have htt := hv.t1
  have hn4 : xss.length ≤ 4 := by omega
  have n36 : xss.length * xss.length ≤ 16 := Nat.mul_le_mul hn4 hn4
  repeat' (first | refine hl_a ?_ | refine hq_a ?_ | refine hl_nil ?_ | refine hq_nil ?_ | refine hq_ga ?_ | refine hq_sk ?_ | refine hq_su ?_ | refine hq_gT ?_ | refine hq_gF ?_ | refine hq_gd (fun h => ?_) (fun h => ?_) | refine hl_ga ?_ | refine hl_sk ?_ | refine hl_su ?_ | refine hl_gT ?_ | refine hl_gF ?_ | refine hl_gd (fun h => ?_) (fun h => ?_) | refine hx_next ?_ | refine hw_seq ?_ | refine hw_region ?_ | refine hw_dr ?_ | refine hw_block ?_ | refine hx_block ?_ | refine hw_tt ?_ | refine hw_ff ?_ | refine hw_iT ?_ | refine hw_iF ?_ | refine hw_skip ?_ | refine hw_ret ?_ | refine hw_exit ?_ | refine hx_then_ret ?_ | refine hx_block_ret ?_ | refine hx_then_exit ?_ | refine hx_block_here ?_ | refine hx_far ?_ | refine hx_any ?_ | (apply ha_end; decide +kernel) | (apply hl_q; decide; (exact q_mulN (a := xss.length) (b := xss.length) rfl rfl (by omega))) | (apply hq_q; decide; (exact q_mulN (a := xss.length) (b := xss.length) rfl rfl (by omega))) | (apply hq_g; rfl; rfl; decide; (exact q_mulN (a := xss.length) (b := xss.length) rfl rfl (by omega))) | (apply hl_g; rfl; rfl; decide; (exact q_mulN (a := xss.length) (b := xss.length) rfl rfl (by omega))))
  refine hw_if rfl (fun h8 => ?_) (fun h8 => ?_)
  · repeat' (first | refine hl_a ?_ | refine hq_a ?_ | refine hl_nil ?_ | refine hq_nil ?_ | refine hq_ga ?_ | refine hq_sk ?_ | refine hq_su ?_ | refine hq_gT ?_ | refine hq_gF ?_ | refine hq_gd (fun h => ?_) (fun h => ?_) | refine hl_ga ?_ | refine hl_sk ?_ | refine hl_su ?_ | refine hl_gT ?_ | refine hl_gF ?_ | refine hl_gd (fun h => ?_) (fun h => ?_) | refine hx_next ?_ | refine hw_seq ?_ | refine hw_region ?_ | refine hw_dr ?_ | refine hw_block ?_ | refine hx_block ?_ | refine hw_tt ?_ | refine hw_ff ?_ | refine hw_iT ?_ | refine hw_iF ?_ | refine hw_skip ?_ | refine hw_ret ?_ | refine hw_exit ?_ | refine hx_then_ret ?_ | refine hx_block_ret ?_ | refine hx_then_exit ?_ | refine hx_block_here ?_ | refine hx_far ?_ | refine hx_any ?_ | (apply ha_end; decide +kernel))
    refine hx_ret1 rfl rfl (fun w hm => ⟨?_, hm.none⟩)
    rw [decide_eq_false (fun e => h8 (by rw [e.len]))]
  have hlen : yss.length = xss.length * xss.length := by have := Classical.not_not.1 h8; omega
  repeat' (first | refine hl_a ?_ | refine hq_a ?_ | refine hl_nil ?_ | refine hq_nil ?_ | refine hq_ga ?_ | refine hq_sk ?_ | refine hq_su ?_ | refine hq_gT ?_ | refine hq_gF ?_ | refine hq_gd (fun h => ?_) (fun h => ?_) | refine hl_ga ?_ | refine hl_sk ?_ | refine hl_su ?_ | refine hl_gT ?_ | refine hl_gF ?_ | refine hl_gd (fun h => ?_) (fun h => ?_) | refine hx_next ?_ | refine hw_seq ?_ | refine hw_region ?_ | refine hw_dr ?_ | refine hw_block ?_ | refine hx_block ?_ | refine hw_tt ?_ | refine hw_ff ?_ | refine hw_iT ?_ | refine hw_iF ?_ | refine hw_skip ?_ | refine hw_ret ?_ | refine hw_exit ?_ | refine hx_then_ret ?_ | refine hx_block_ret ?_ | refine hx_then_exit ?_ | refine hx_block_here ?_ | refine hx_far ?_ | refine hx_any ?_ | (apply ha_end; decide +kernel))
  refine hw_loop (fun e r m => r = [rBlk b #[.int .i64 (xss.length : Int), .int .i64 tot, v] 31, rBlk b' #[.int .i64 (xss.length : Int), .int .i64 tot1, v1] 69] ∧ ∃ i : Nat, i ≤ yss.length ∧ m = yss.length - i ∧ e = [(2, .pointer (some ⟨b, 0, none⟩)), (3, .pointer (some ⟨b', 0, none⟩)), (5, .int .i64 (xss.length : Int)), (47, v1), (48, .int .i64 (yss.length : Int)), (49, .int .i64 (i : Int))] ∧ ∀ j, j < i → RowC xss.length tot xss tot1 j (yss.getD j []))
    ⟨rfl, 0, Nat.zero_le _, rfl, rfl, by omega⟩ ⟨rfl, rfl, rfl, rfl, rfl, rfl, trivial⟩ ?_
  rintro _ _ _ ⟨rfl, i, hi, rfl, rfl, hdone⟩
  repeat' (first | refine hl_a ?_ | refine hq_a ?_ | refine hl_nil ?_ | refine hq_nil ?_ | refine hq_ga ?_ | refine hq_sk ?_ | refine hq_su ?_ | refine hq_gT ?_ | refine hq_gF ?_ | refine hq_gd (fun h => ?_) (fun h => ?_) | refine hl_ga ?_ | refine hl_sk ?_ | refine hl_su ?_ | refine hl_gT ?_ | refine hl_gF ?_ | refine hl_gd (fun h => ?_) (fun h => ?_) | refine hx_next ?_ | refine hw_seq ?_ | refine hw_region ?_ | refine hw_dr ?_ | refine hw_block ?_ | refine hx_block ?_ | refine hw_tt ?_ | refine hw_ff ?_ | refine hw_iT ?_ | refine hw_iF ?_ | refine hw_skip ?_ | refine hw_ret ?_ | refine hw_exit ?_ | refine hx_then_ret ?_ | refine hx_block_ret ?_ | refine hx_then_exit ?_ | refine hx_block_here ?_ | refine hx_far ?_ | refine hx_any ?_ | (apply ha_end; decide +kernel))
  refine hw_if rfl (fun hlt => ?_) (fun hge => ?_)
  · have hi2 : i < xss.length * xss.length := by omega
    have hi3 : i < yss.length := by omega
    have ci := hr1.get i hi3
    have hri := hr1.row i hi3
    have si := hri.sl
    have hd1 : i / xss.length < xss.length := (Nat.div_lt_iff_lt_mul (by omega)).2 hi2
    have hd2 : i % xss.length < xss.length := Nat.mod_lt _ (by omega)
    repeat' (first | refine hl_a ?_ | refine hq_a ?_ | refine hl_nil ?_ | refine hq_nil ?_ | refine hq_ga ?_ | refine hq_sk ?_ | refine hq_su ?_ | refine hq_gT ?_ | refine hq_gF ?_ | refine hq_gd (fun h => ?_) (fun h => ?_) | refine hl_ga ?_ | refine hl_sk ?_ | refine hl_su ?_ | refine hl_gT ?_ | refine hl_gF ?_ | refine hl_gd (fun h => ?_) (fun h => ?_) | refine hx_next ?_ | refine hw_seq ?_ | refine hw_region ?_ | refine hw_dr ?_ | refine hw_block ?_ | refine hx_block ?_ | refine hw_tt ?_ | refine hw_ff ?_ | refine hw_iT ?_ | refine hw_iF ?_ | refine hw_skip ?_ | refine hw_ret ?_ | refine hw_exit ?_ | refine hx_then_ret ?_ | refine hx_block_ret ?_ | refine hx_then_exit ?_ | refine hx_block_here ?_ | refine hx_far ?_ | refine hx_any ?_ | (apply ha_end; decide +kernel) | (apply hl_q; decide; (exact q_mulN (a := xss.length) (b := xss.length) rfl rfl (by omega))) | (apply hq_q; decide; (exact q_mulN (a := xss.length) (b := xss.length) rfl rfl (by omega))) | (apply hq_g; rfl; rfl; decide; (exact q_mulN (a := xss.length) (b := xss.length) rfl rfl (by omega))) | (apply hl_g; rfl; rfl; decide; (exact q_mulN (a := xss.length) (b := xss.length) rfl rfl (by omega))))
    refine hw_if rfl (fun h9 => ?_) (fun h9 => ?_)
    · repeat' (first | refine hl_a ?_ | refine hq_a ?_ | refine hl_nil ?_ | refine hq_nil ?_ | refine hq_ga ?_ | refine hq_sk ?_ | refine hq_su ?_ | refine hq_gT ?_ | refine hq_gF ?_ | refine hq_gd (fun h => ?_) (fun h => ?_) | refine hl_ga ?_ | refine hl_sk ?_ | refine hl_su ?_ | refine hl_gT ?_ | refine hl_gF ?_ | refine hl_gd (fun h => ?_) (fun h => ?_) | refine hx_next ?_ | refine hw_seq ?_ | refine hw_region ?_ | refine hw_dr ?_ | refine hw_block ?_ | refine hx_block ?_ | refine hw_tt ?_ | refine hw_ff ?_ | refine hw_iT ?_ | refine hw_iF ?_ | refine hw_skip ?_ | refine hw_ret ?_ | refine hw_exit ?_ | refine hx_then_ret ?_ | refine hx_block_ret ?_ | refine hx_then_exit ?_ | refine hx_block_here ?_ | refine hx_far ?_ | refine hx_any ?_ | (apply ha_end; decide +kernel))
      refine hx_ret1 rfl rfl (fun w hm => ⟨?_, hm.none⟩)
      rw [decide_eq_false (fun e => h9 (by rw [(e.row i hi2).len]))]
    have hrl : (yss.getD i []).length = xss.length * xss.length := by have := Classical.not_not.1 h9; omega
    repeat' (first | refine hl_a ?_ | refine hq_a ?_ | refine hl_nil ?_ | refine hq_nil ?_ | refine hq_ga ?_ | refine hq_sk ?_ | refine hq_su ?_ | refine hq_gT ?_ | refine hq_gF ?_ | refine hq_gd (fun h => ?_) (fun h => ?_) | refine hl_ga ?_ | refine hl_sk ?_ | refine hl_su ?_ | refine hl_gT ?_ | refine hl_gF ?_ | refine hl_gd (fun h => ?_) (fun h => ?_) | refine hx_next ?_ | refine hw_seq ?_ | refine hw_region ?_ | refine hw_block ?_ | refine hx_block ?_ | refine hw_tt ?_ | refine hw_ff ?_ | refine hw_iT ?_ | refine hw_iF ?_ | refine hw_skip ?_ | refine hw_ret ?_ | refine hw_exit ?_ | refine hx_then_ret ?_ | refine hx_block_ret ?_ | refine hx_then_exit ?_ | refine hx_block_here ?_ | refine hx_far ?_ | refine hx_any ?_ | (apply ha_end; decide +kernel))
    refine hw_heldE (σ := Value × Value) [rBlk b #[.int .i64 (xss.length : Int), .int .i64 tot, v] 31, rBlk b' #[.int .i64 (xss.length : Int), .int .i64 tot1, v1] 69] (fun s => [(2, .pointer (some ⟨b, 0, none⟩)), (3, .pointer (some ⟨b', 0, none⟩)), (5, .int .i64 (xss.length : Int)), (6, .int .i64 (i : Int)), (7, row1 i), (8, s.1), (9, s.2), (10, .int .i64 0), (47, v1), (48, .int .i64 (yss.length : Int)), (49, .int .i64 (i : Int))]) (fun s => [rBlk b #[.int .i64 (xss.length : Int), .int .i64 tot, v] 31, rBlk b' #[.int .i64 (xss.length : Int), .int .i64 tot1, v1] 69, rOwn 2 1 s.1 xss.length ((tab xss.length fun _ => (0 : Int)).map (Value.int .i64)), rOwn 2 1 s.2 xss.length ((tab xss.length fun _ => (0 : Int)).map (Value.int .i64))]) (fun s => SlOk s.1 xss.length ∧ SlOk s.2 xss.length) (by kernel_rfl) ?_ ?_
    · refine hb_take 0 rfl (by decide) (by decide +kernel) (by decide +kernel) (by decide +kernel) (fun _ _ _ h => h) (fun w hm => by first | exact hm | exact hm.none | exact Mem.keep _ hm) (qv_q rfl (q_move rfl)) ?_
      refine hb_take 2 rfl (by decide) (by decide +kernel) (by decide +kernel) (by decide +kernel) (fun _ _ _ h => h) (fun w hm => by first | exact hm | exact hm.none | exact Mem.keep _ hm) (qv_q rfl (q_move rfl)) ?_
      refine hb_2 1 3 (by decide +kernel) rfl rfl ?_ ?_
      · refine hl_make (by decide) rfl rfl (by omega) (by unfold maxLen; omega) (fun l hl => ?_)
        rw [toList_madeCells1 _ rfl, tab0]
        refine hl_nil ?_
        refine hx_hb (fun w hm => by first | exact hm | exact hm.none | exact Mem.keep _ hm) ?_
        refine hb_take 4 rfl (by decide) (by decide +kernel) (by decide +kernel) (by decide +kernel) (fun _ _ _ h => h) (fun w hm => by first | exact hm | exact hm.none | exact Mem.keep _ hm) (qv_q rfl (q_assign rfl)) ?_
        refine hb_1 3 (by decide +kernel) rfl ?_
        refine hl_make (by decide) rfl rfl (by omega) (by unfold maxLen; omega) (fun r hr' => ?_)
        rw [toList_madeCells1 _ rfl, tab0]
        refine hl_nil ?_
        refine hx_hb (fun w hm => by first | exact hm | exact hm.none | exact Mem.keep _ hm) ?_
        refine hb_take 5 rfl (by decide) (by decide +kernel) (by decide +kernel) (by decide +kernel) (fun _ _ _ h => h) (fun w hm => by first | exact hm | exact hm.none | exact Mem.keep _ hm) (qv_q rfl (q_assign rfl)) ?_
        refine hb_take 6 rfl (by decide) (by decide +kernel) (by decide +kernel) (by decide +kernel) (fun _ _ _ h => h) (fun w hm => by first | exact hm | exact hm.none | exact Mem.keep _ hm) (qv_q rfl (q_assign rfl)) ?_
        refine hb_end (by decide +kernel) ?_
        exact hx_joinE (l, r) ⟨hl, hr'⟩ (by (repeat' apply And.intro) <;> first | exact True.intro | rfl | (simp [Env.at, envOf]; done) | (simp [Env.at, envOf]; omega)) (fun w hm => hm)
      · refine hl_make (by decide) rfl rfl (by omega) (by unfold maxLen; omega) (fun r hr' => ?_)
        rw [toList_madeCells1 _ rfl, tab0]
        refine hl_nil ?_
        refine hx_hb (fun w hm => by first | exact hm | exact hm.none | exact Mem.keep _ hm) ?_
        refine hb_1 1 (by decide +kernel) rfl ?_
        refine hl_make (by decide) rfl rfl (by omega) (by unfold maxLen; omega) (fun l hl => ?_)
        rw [toList_madeCells1 _ rfl, tab0]
        refine hl_nil ?_
        refine hx_hb (fun w hm => by first | exact hm | exact hm.none | exact Mem.keep _ hm) ?_
        refine hb_take 4 rfl (by decide) (by decide +kernel) (by decide +kernel) (by decide +kernel) (fun _ _ _ h => h) (fun w hm => by first | exact hm | exact hm.none | exact Mem.keep _ hm) (qv_q rfl (q_assign rfl)) ?_
        refine hb_take 5 rfl (by decide) (by decide +kernel) (by decide +kernel) (by decide +kernel) (fun _ _ _ h => h) (fun w hm => by first | exact hm | exact hm.none | exact Mem.keep _ hm) (qv_q rfl (q_assign rfl)) ?_
        refine hb_take 6 rfl (by decide) (by decide +kernel) (by decide +kernel) (by decide +kernel) (fun _ _ _ h => h) (fun w hm => by first | exact hm | exact hm.none | exact Mem.keep _ hm) (qv_q rfl (q_assign rfl)) ?_
        refine hb_end (by decide +kernel) ?_
        exact hx_joinE (l, r) ⟨hl, hr'⟩ (by (repeat' apply And.intro) <;> first | exact True.intro | rfl | (simp [Env.at, envOf]; done) | (simp [Env.at, envOf]; omega)) (fun w hm => hm.pick (rs' := [_, _, _, _]) [0, 1, 3, 2] (by simp) rfl)
    rintro ⟨l, r⟩ ⟨hl, hr'⟩
    dsimp only at hl hr' ⊢
    repeat' (first | refine hl_a ?_ | refine hq_a ?_ | refine hl_nil ?_ | refine hq_nil ?_ | refine hq_ga ?_ | refine hq_sk ?_ | refine hq_su ?_ | refine hq_gT ?_ | refine hq_gF ?_ | refine hq_gd (fun h => ?_) (fun h => ?_) | refine hl_ga ?_ | refine hl_sk ?_ | refine hl_su ?_ | refine hl_gT ?_ | refine hl_gF ?_ | refine hl_gd (fun h => ?_) (fun h => ?_) | refine hx_next ?_ | refine hw_seq ?_ | refine hw_region ?_ | refine hw_dr ?_ | refine hw_block ?_ | refine hx_block ?_ | refine hw_tt ?_ | refine hw_ff ?_ | refine hw_iT ?_ | refine hw_iF ?_ | refine hw_skip ?_ | refine hw_ret ?_ | refine hw_exit ?_ | refine hx_then_ret ?_ | refine hx_block_ret ?_ | refine hx_then_exit ?_ | refine hx_block_here ?_ | refine hx_far ?_ | refine hx_any ?_ | (apply ha_end; decide +kernel))
    refine hw_loop (fun e r0 m => ∃ k : Nat, r0 = [rBlk b #[.int .i64 (xss.length : Int), .int .i64 tot, v] 31, rBlk b' #[.int .i64 (xss.length : Int), .int .i64 tot1, v1] 69, rOwn 2 1 l xss.length ((lefL (yss.getD i []) xss.length k).map (Value.int .i64)), rOwn 2 1 r xss.length ((rigL (yss.getD i []) xss.length k).map (Value.int .i64))] ∧ k ≤ (yss.getD i []).length ∧ m = (yss.getD i []).length - k ∧ e = [(2, .pointer (some ⟨b, 0, none⟩)), (3, .pointer (some ⟨b', 0, none⟩)), (5, .int .i64 (xss.length : Int)), (6, .int .i64 (i : Int)), (8, l), (9, r), (10, .int .i64 ((yss.getD i []).take k).sum), (47, v1), (48, .int .i64 (yss.length : Int)), (49, .int .i64 (i : Int)), (64, row1 i), (65, .int .i64 ((yss.getD i []).length : Int)), (66, .int .i64 (k : Int))] ∧ ∀ j, j < k → 0 ≤ (yss.getD i []).getD j 0 ∧ (yss.getD i []).getD j 0 ≤ tot1)
      ⟨0, by rw [lefL_0, rigL_0], Nat.zero_le _, rfl, rfl, by omega⟩ ⟨rfl, rfl, rfl, rfl, rfl, rfl, rfl, rfl, rfl, rfl, rfl, rfl, rfl, trivial⟩ ?_
    rintro _ _ _ ⟨k, rfl, hk, rfl, rfl, hall⟩
    repeat' (first | refine hl_a ?_ | refine hq_a ?_ | refine hl_nil ?_ | refine hq_nil ?_ | refine hq_ga ?_ | refine hq_sk ?_ | refine hq_su ?_ | refine hq_gT ?_ | refine hq_gF ?_ | refine hq_gd (fun h => ?_) (fun h => ?_) | refine hl_ga ?_ | refine hl_sk ?_ | refine hl_su ?_ | refine hl_gT ?_ | refine hl_gF ?_ | refine hl_gd (fun h => ?_) (fun h => ?_) | refine hx_next ?_ | refine hw_seq ?_ | refine hw_region ?_ | refine hw_dr ?_ | refine hw_block ?_ | refine hx_block ?_ | refine hw_tt ?_ | refine hw_ff ?_ | refine hw_iT ?_ | refine hw_iF ?_ | refine hw_skip ?_ | refine hw_ret ?_ | refine hw_exit ?_ | refine hx_then_ret ?_ | refine hx_block_ret ?_ | refine hx_then_exit ?_ | refine hx_block_here ?_ | refine hx_far ?_ | refine hx_any ?_ | (apply ha_end; decide +kernel))
    refine hw_if rfl (fun hlt2 => ?_) (fun hge2 => ?_)
    · have hk2 : k < (yss.getD i []).length := by omega
      have ck := hri.get k hk2
      have hb := sum_take_le 3600 (yss.getD i []) k (by omega) (fun t ht => by have := hall t ht; omega)
      have kd1 : k / xss.length < xss.length := (Nat.div_lt_iff_lt_mul (by omega)).2 (by omega)
      have kd2 : k % xss.length < xss.length := Nat.mod_lt _ (by omega)
      have hlb : 0 ≤ lefK (yss.getD i []) xss.length k (k / xss.length) ∧ lefK (yss.getD i []) xss.length k (k / xss.length) ≤ 3600 * k := bd_sum k _ 3600 (fun j hj => by have := hall j hj; split <;> omega)
      have hrb : 0 ≤ rigK (yss.getD i []) xss.length k (k % xss.length) ∧ rigK (yss.getD i []) xss.length k (k % xss.length) ≤ 3600 * k := bd_sum k _ 3600 (fun j hj => by have := hall j hj; split <;> omega)
      have hll : (lefL (yss.getD i []) xss.length k).length = xss.length := tab_length _ _
      have hrr : (rigL (yss.getD i []) xss.length k).length = xss.length := tab_length _ _
      have hset := lefL_set (yss.getD i []) xss.length k
      have hset2 := rigL_set (yss.getD i []) xss.length k
      have hld1 : Ld w [rBlk b #[.int .i64 (xss.length : Int), .int .i64 tot, v] 31, rBlk b' #[.int .i64 (xss.length : Int), .int .i64 tot1, v1] 69, rOwn 2 1 l xss.length ((lefL (yss.getD i []) xss.length k).map (Value.int .i64)), rOwn 2 1 r xss.length ((rigL (yss.getD i []) xss.length k).map (Value.int .i64))] (vAt l (k / xss.length)) (.int .i64 (lefK (yss.getD i []) xss.length k (k / xss.length))) := by
        refine ld_own 2 rfl ?_
        rw [List.getElem?_map, List.getElem?_eq_getElem (by omega), ← getD_lt _ _ 0 (by omega), lefL, tab_getD _ _ _ _ kd1]; rfl
      have hld2 : Ld w [rBlk b #[.int .i64 (xss.length : Int), .int .i64 tot, v] 31, rBlk b' #[.int .i64 (xss.length : Int), .int .i64 tot1, v1] 69, rOwn 2 1 l xss.length ((lefL (yss.getD i []) xss.length (k + 1)).map (Value.int .i64)), rOwn 2 1 r xss.length ((rigL (yss.getD i []) xss.length k).map (Value.int .i64))] (vAt r (k % xss.length)) (.int .i64 (rigK (yss.getD i []) xss.length k (k % xss.length))) := by
        refine ld_own 3 rfl ?_
        rw [List.getElem?_map, List.getElem?_eq_getElem (by omega), ← getD_lt _ _ 0 (by omega), rigL, tab_getD _ _ _ _ kd2]; rfl
      repeat' (first | refine hl_a ?_ | refine hq_a ?_ | refine hl_nil ?_ | refine hq_nil ?_ | refine hq_ga ?_ | refine hq_sk ?_ | refine hq_su ?_ | refine hq_gT ?_ | refine hq_gF ?_ | refine hq_gd (fun h => ?_) (fun h => ?_) | refine hl_ga ?_ | refine hl_sk ?_ | refine hl_su ?_ | refine hl_gT ?_ | refine hl_gF ?_ | refine hl_gd (fun h => ?_) (fun h => ?_) | refine hx_next ?_ | refine hw_seq ?_ | refine hw_region ?_ | refine hw_dr ?_ | refine hw_block ?_ | refine hx_block ?_ | refine hw_tt ?_ | refine hw_ff ?_ | refine hw_iT ?_ | refine hw_iF ?_ | refine hw_skip ?_ | refine hw_ret ?_ | refine hw_exit ?_ | refine hx_then_ret ?_ | refine hx_block_ret ?_ | refine hx_then_exit ?_ | refine hx_block_here ?_ | refine hx_far ?_ | refine hx_any ?_ | (apply ha_end; decide +kernel))
      first | refine hl_q (by decide) (q_call (fun w hm => inRange_c _ _ _ _) rfl) ?_ | refine hq_q (by decide) (q_call (fun w hm => inRange_c _ _ _ _) rfl) ?_ | refine hl_g _ _ rfl rfl (by decide) (q_call (fun w hm => inRange_c _ _ _ _) rfl) ?_ | refine hq_g _ _ rfl rfl (by decide) (q_call (fun w hm => inRange_c _ _ _ _) rfl) ?_
      repeat' (first | refine hl_a ?_ | refine hq_a ?_ | refine hl_nil ?_ | refine hq_nil ?_ | refine hq_ga ?_ | refine hq_sk ?_ | refine hq_su ?_ | refine hq_gT ?_ | refine hq_gF ?_ | refine hq_gd (fun h => ?_) (fun h => ?_) | refine hl_ga ?_ | refine hl_sk ?_ | refine hl_su ?_ | refine hl_gT ?_ | refine hl_gF ?_ | refine hl_gd (fun h => ?_) (fun h => ?_) | refine hx_next ?_ | refine hw_seq ?_ | refine hw_region ?_ | refine hw_dr ?_ | refine hw_block ?_ | refine hx_block ?_ | refine hw_tt ?_ | refine hw_ff ?_ | refine hw_iT ?_ | refine hw_iF ?_ | refine hw_skip ?_ | refine hw_ret ?_ | refine hw_exit ?_ | refine hx_then_ret ?_ | refine hx_block_ret ?_ | refine hx_then_exit ?_ | refine hx_block_here ?_ | refine hx_far ?_ | refine hx_any ?_ | (apply ha_end; decide +kernel))
      refine hw_if rfl (fun h10 => ?_) (fun h10 => ?_)
      · repeat' (first | refine hl_a ?_ | refine hq_a ?_ | refine hl_nil ?_ | refine hq_nil ?_ | refine hq_ga ?_ | refine hq_sk ?_ | refine hq_su ?_ | refine hq_gT ?_ | refine hq_gF ?_ | refine hq_gd (fun h => ?_) (fun h => ?_) | refine hl_ga ?_ | refine hl_sk ?_ | refine hl_su ?_ | refine hl_gT ?_ | refine hl_gF ?_ | refine hl_gd (fun h => ?_) (fun h => ?_) | refine hx_next ?_ | refine hw_seq ?_ | refine hw_region ?_ | refine hw_dr ?_ | refine hw_block ?_ | refine hx_block ?_ | refine hw_tt ?_ | refine hw_ff ?_ | refine hw_iT ?_ | refine hw_iF ?_ | refine hw_skip ?_ | refine hw_ret ?_ | refine hw_exit ?_ | refine hx_then_ret ?_ | refine hx_block_ret ?_ | refine hx_then_exit ?_ | refine hx_block_here ?_ | refine hx_far ?_ | refine hx_any ?_ | (apply ha_end; decide +kernel))
        refine hx_ret1 rfl rfl (fun w hm => ⟨?_, hm.none⟩)
        rw [decide_eq_false (fun e => h10 ((e.row i hi2).all k (by omega)))]
      have h11 := Classical.not_not.1 h10
      repeat' (first | refine hl_a ?_ | refine hq_a ?_ | refine hl_nil ?_ | refine hq_nil ?_ | refine hq_ga ?_ | refine hq_sk ?_ | refine hq_su ?_ | refine hq_gT ?_ | refine hq_gF ?_ | refine hq_gd (fun h => ?_) (fun h => ?_) | refine hl_ga ?_ | refine hl_sk ?_ | refine hl_su ?_ | refine hl_gT ?_ | refine hl_gF ?_ | refine hl_gd (fun h => ?_) (fun h => ?_) | refine hx_next ?_ | refine hw_seq ?_ | refine hw_region ?_ | refine hw_dr ?_ | refine hw_block ?_ | refine hx_block ?_ | refine hw_tt ?_ | refine hw_ff ?_ | refine hw_iT ?_ | refine hw_iF ?_ | refine hw_skip ?_ | refine hw_ret ?_ | refine hw_exit ?_ | refine hx_then_ret ?_ | refine hx_block_ret ?_ | refine hx_then_exit ?_ | refine hx_block_here ?_ | refine hx_far ?_ | refine hx_any ?_ | (apply ha_end; decide +kernel))
      first | refine hl_q (by decide) (q_quoN (a := k) (b := xss.length) rfl rfl (by omega) (by omega)) ?_ | refine hq_q (by decide) (q_quoN (a := k) (b := xss.length) rfl rfl (by omega) (by omega)) ?_ | refine hl_g _ _ rfl rfl (by decide) (q_quoN (a := k) (b := xss.length) rfl rfl (by omega) (by omega)) ?_ | refine hq_g _ _ rfl rfl (by decide) (q_quoN (a := k) (b := xss.length) rfl rfl (by omega) (by omega)) ?_
      repeat' (first | refine hl_a ?_ | refine hq_a ?_ | refine hl_nil ?_ | refine hq_nil ?_ | refine hq_ga ?_ | refine hq_sk ?_ | refine hq_su ?_ | refine hq_gT ?_ | refine hq_gF ?_ | refine hq_gd (fun h => ?_) (fun h => ?_) | refine hl_ga ?_ | refine hl_sk ?_ | refine hl_su ?_ | refine hl_gT ?_ | refine hl_gF ?_ | refine hl_gd (fun h => ?_) (fun h => ?_) | refine hx_next ?_ | refine hw_seq ?_ | refine hw_region ?_ | refine hw_dr ?_ | refine hw_block ?_ | refine hx_block ?_ | refine hw_tt ?_ | refine hw_ff ?_ | refine hw_iT ?_ | refine hw_iF ?_ | refine hw_skip ?_ | refine hw_ret ?_ | refine hw_exit ?_ | refine hx_then_ret ?_ | refine hx_block_ret ?_ | refine hx_then_exit ?_ | refine hx_block_here ?_ | refine hx_far ?_ | refine hx_any ?_ | (apply ha_end; decide +kernel))
      refine hl_storeO 2 rfl rfl kd1 rfl rfl ?_
      refine hl_mem (rs' := [rBlk b #[.int .i64 (xss.length : Int), .int .i64 tot, v] 31, rBlk b' #[.int .i64 (xss.length : Int), .int .i64 tot1, v1] 69, rOwn 2 1 l xss.length ((lefL (yss.getD i []) xss.length (k + 1)).map (Value.int .i64)), rOwn 2 1 r xss.length ((rigL (yss.getD i []) xss.length k).map (Value.int .i64))]) (fun w hm => ?_) ?_
      · rw [← hset, List.map_set]; exact hm
      repeat' (first | refine hl_a ?_ | refine hq_a ?_ | refine hl_nil ?_ | refine hq_nil ?_ | refine hq_ga ?_ | refine hq_sk ?_ | refine hq_su ?_ | refine hq_gT ?_ | refine hq_gF ?_ | refine hq_gd (fun h => ?_) (fun h => ?_) | refine hl_ga ?_ | refine hl_sk ?_ | refine hl_su ?_ | refine hl_gT ?_ | refine hl_gF ?_ | refine hl_gd (fun h => ?_) (fun h => ?_) | refine hx_next ?_ | refine hw_seq ?_ | refine hw_region ?_ | refine hw_dr ?_ | refine hw_block ?_ | refine hx_block ?_ | refine hw_tt ?_ | refine hw_ff ?_ | refine hw_iT ?_ | refine hw_iF ?_ | refine hw_skip ?_ | refine hw_ret ?_ | refine hw_exit ?_ | refine hx_then_ret ?_ | refine hx_block_ret ?_ | refine hx_then_exit ?_ | refine hx_block_here ?_ | refine hx_far ?_ | refine hx_any ?_ | (apply ha_end; decide +kernel))
      first | refine hl_q (by decide) (q_remN (a := k) (b := xss.length) rfl rfl (by omega) (by omega)) ?_ | refine hq_q (by decide) (q_remN (a := k) (b := xss.length) rfl rfl (by omega) (by omega)) ?_ | refine hl_g _ _ rfl rfl (by decide) (q_remN (a := k) (b := xss.length) rfl rfl (by omega) (by omega)) ?_ | refine hq_g _ _ rfl rfl (by decide) (q_remN (a := k) (b := xss.length) rfl rfl (by omega) (by omega)) ?_
      repeat' (first | refine hl_a ?_ | refine hq_a ?_ | refine hl_nil ?_ | refine hq_nil ?_ | refine hq_ga ?_ | refine hq_sk ?_ | refine hq_su ?_ | refine hq_gT ?_ | refine hq_gF ?_ | refine hq_gd (fun h => ?_) (fun h => ?_) | refine hl_ga ?_ | refine hl_sk ?_ | refine hl_su ?_ | refine hl_gT ?_ | refine hl_gF ?_ | refine hl_gd (fun h => ?_) (fun h => ?_) | refine hx_next ?_ | refine hw_seq ?_ | refine hw_region ?_ | refine hw_dr ?_ | refine hw_block ?_ | refine hx_block ?_ | refine hw_tt ?_ | refine hw_ff ?_ | refine hw_iT ?_ | refine hw_iF ?_ | refine hw_skip ?_ | refine hw_ret ?_ | refine hw_exit ?_ | refine hx_then_ret ?_ | refine hx_block_ret ?_ | refine hx_then_exit ?_ | refine hx_block_here ?_ | refine hx_far ?_ | refine hx_any ?_ | (apply ha_end; decide +kernel))
      refine hl_storeO 3 rfl rfl kd2 rfl rfl ?_
      refine hl_mem (rs' := [rBlk b #[.int .i64 (xss.length : Int), .int .i64 tot, v] 31, rBlk b' #[.int .i64 (xss.length : Int), .int .i64 tot1, v1] 69, rOwn 2 1 l xss.length ((lefL (yss.getD i []) xss.length (k + 1)).map (Value.int .i64)), rOwn 2 1 r xss.length ((rigL (yss.getD i []) xss.length (k + 1)).map (Value.int .i64))]) (fun w hm => ?_) ?_
      · rw [← hset2, List.map_set]; exact hm
      repeat' (first | refine hl_a ?_ | refine hq_a ?_ | refine hl_nil ?_ | refine hq_nil ?_ | refine hq_ga ?_ | refine hq_sk ?_ | refine hq_su ?_ | refine hq_gT ?_ | refine hq_gF ?_ | refine hq_gd (fun h => ?_) (fun h => ?_) | refine hl_ga ?_ | refine hl_sk ?_ | refine hl_su ?_ | refine hl_gT ?_ | refine hl_gF ?_ | refine hl_gd (fun h => ?_) (fun h => ?_) | refine hx_next ?_ | refine hw_seq ?_ | refine hw_region ?_ | refine hw_dr ?_ | refine hw_block ?_ | refine hx_block ?_ | refine hw_tt ?_ | refine hw_ff ?_ | refine hw_iT ?_ | refine hw_iF ?_ | refine hw_skip ?_ | refine hw_ret ?_ | refine hw_exit ?_ | refine hx_then_ret ?_ | refine hx_block_ret ?_ | refine hx_then_exit ?_ | refine hx_block_here ?_ | refine hx_far ?_ | refine hx_any ?_ | (apply ha_end; decide +kernel))
      refine hx_round ⟨k + 1, rfl, by omega, rfl, rfl, fun j hj => ?_⟩ (by omega) ⟨rfl, rfl, rfl, rfl, rfl, rfl, ?_, rfl, rfl, rfl, rfl, rfl, rfl, trivial⟩
      · by_cases e : j = k
        · subst e; exact h11
        · exact hall j (by omega)
      · rw [sum_take_succ _ _ hk2]; rfl
    · have e : k = xss.length * xss.length := by omega
      subst e
      have htk : (yss.getD i []).take (xss.length * xss.length) = yss.getD i [] := by rw [← hrl]; exact List.take_length
      rw [htk]
      repeat' (first | refine hl_a ?_ | refine hq_a ?_ | refine hl_nil ?_ | refine hq_nil ?_ | refine hq_ga ?_ | refine hq_sk ?_ | refine hq_su ?_ | refine hq_gT ?_ | refine hq_gF ?_ | refine hq_gd (fun h => ?_) (fun h => ?_) | refine hl_ga ?_ | refine hl_sk ?_ | refine hl_su ?_ | refine hl_gT ?_ | refine hl_gF ?_ | refine hl_gd (fun h => ?_) (fun h => ?_) | refine hx_next ?_ | refine hw_seq ?_ | refine hw_region ?_ | refine hw_dr ?_ | refine hw_block ?_ | refine hx_block ?_ | refine hw_tt ?_ | refine hw_ff ?_ | refine hw_iT ?_ | refine hw_iF ?_ | refine hw_skip ?_ | refine hw_ret ?_ | refine hw_exit ?_ | refine hx_then_ret ?_ | refine hx_block_ret ?_ | refine hx_then_exit ?_ | refine hx_block_here ?_ | refine hx_far ?_ | refine hx_any ?_ | (apply ha_end; decide +kernel))
      refine hw_if rfl (fun h12 => ?_) (fun h12 => ?_)
      · repeat' (first | refine hl_a ?_ | refine hq_a ?_ | refine hl_nil ?_ | refine hq_nil ?_ | refine hq_ga ?_ | refine hq_sk ?_ | refine hq_su ?_ | refine hq_gT ?_ | refine hq_gF ?_ | refine hq_gd (fun h => ?_) (fun h => ?_) | refine hl_ga ?_ | refine hl_sk ?_ | refine hl_su ?_ | refine hl_gT ?_ | refine hl_gF ?_ | refine hl_gd (fun h => ?_) (fun h => ?_) | refine hx_next ?_ | refine hw_seq ?_ | refine hw_region ?_ | refine hw_dr ?_ | refine hw_block ?_ | refine hx_block ?_ | refine hw_tt ?_ | refine hw_ff ?_ | refine hw_iT ?_ | refine hw_iF ?_ | refine hw_skip ?_ | refine hw_ret ?_ | refine hw_exit ?_ | refine hx_then_ret ?_ | refine hx_block_ret ?_ | refine hx_then_exit ?_ | refine hx_block_here ?_ | refine hx_far ?_ | refine hx_any ?_ | (apply ha_end; decide +kernel))
        refine hx_ret1 rfl rfl (fun w hm => ⟨?_, hm.none⟩)
        rw [decide_eq_false (fun e => h12 (e.row i hi2).sum)]
      repeat' (first | refine hl_a ?_ | refine hq_a ?_ | refine hl_nil ?_ | refine hq_nil ?_ | refine hq_ga ?_ | refine hq_sk ?_ | refine hq_su ?_ | refine hq_gT ?_ | refine hq_gF ?_ | refine hq_gd (fun h => ?_) (fun h => ?_) | refine hl_ga ?_ | refine hl_sk ?_ | refine hl_su ?_ | refine hl_gT ?_ | refine hl_gF ?_ | refine hl_gd (fun h => ?_) (fun h => ?_) | refine hx_next ?_ | refine hw_seq ?_ | refine hw_region ?_ | refine hw_dr ?_ | refine hw_block ?_ | refine hx_block ?_ | refine hw_tt ?_ | refine hw_ff ?_ | refine hw_iT ?_ | refine hw_iF ?_ | refine hw_skip ?_ | refine hw_ret ?_ | refine hw_exit ?_ | refine hx_then_ret ?_ | refine hx_block_ret ?_ | refine hx_then_exit ?_ | refine hx_block_here ?_ | refine hx_far ?_ | refine hx_any ?_ | (apply ha_end; decide +kernel) | (apply hl_q; decide; (first | exact q_quoN (a := i) (b := xss.length) rfl rfl (by omega) (by omega) | exact q_remN (a := i) (b := xss.length) rfl rfl (by omega) (by omega))) | (apply hq_q; decide; (first | exact q_quoN (a := i) (b := xss.length) rfl rfl (by omega) (by omega) | exact q_remN (a := i) (b := xss.length) rfl rfl (by omega) (by omega))) | (apply hq_g; rfl; rfl; decide; (first | exact q_quoN (a := i) (b := xss.length) rfl rfl (by omega) (by omega) | exact q_remN (a := i) (b := xss.length) rfl rfl (by omega) (by omega))) | (apply hl_g; rfl; rfl; decide; (first | exact q_quoN (a := i) (b := xss.length) rfl rfl (by omega) (by omega) | exact q_remN (a := i) (b := xss.length) rfl rfl (by omega) (by omega))))
      have c1 := hr.get _ hd1
      have c2 := hr.get _ hd2
      have s1 := (hr.row _ hd1).sl
      have s2 := (hr.row _ hd2).sl
      have r1 := hv.rlen _ hd1
      have r2 := hv.rlen _ hd2
      refine hw_loop (fun e r0 m => r0 = [rBlk b #[.int .i64 (xss.length : Int), .int .i64 tot, v] 31, rBlk b' #[.int .i64 (xss.length : Int), .int .i64 tot1, v1] 69, rOwn 2 1 l xss.length ((lefL (yss.getD i []) xss.length (xss.length * xss.length)).map (Value.int .i64)), rOwn 2 1 r xss.length ((rigL (yss.getD i []) xss.length (xss.length * xss.length)).map (Value.int .i64))] ∧ ∃ u : Nat, u ≤ xss.length ∧ m = xss.length - u ∧ e = [(2, .pointer (some ⟨b, 0, none⟩)), (3, .pointer (some ⟨b', 0, none⟩)), (5, .int .i64 (xss.length : Int)), (8, l), (9, r), (13, .int .i64 ((i / xss.length : Nat) : Int)), (14, .int .i64 ((i % xss.length : Nat) : Int)), (47, v1), (48, .int .i64 (yss.length : Int)), (49, .int .i64 (i : Int)), (108, .int .i64 (xss.length : Int)), (109, .int .i64 (u : Int))] ∧ ∀ u', u' < u → lefS (yss.getD i []) xss.length xss.length u' * tot = cAt xss (i / xss.length) u' * tot1 ∧ rigS (yss.getD i []) xss.length xss.length u' * tot = cAt xss (i % xss.length) u' * tot1)
        ⟨rfl, 0, Nat.zero_le _, rfl, rfl, by omega⟩ ⟨rfl, rfl, rfl, rfl, rfl, rfl, rfl, rfl, rfl, rfl, rfl, rfl, trivial⟩ ?_
      rintro _ _ _ ⟨rfl, u, hu, rfl, rfl, hsides⟩
      repeat' (first | refine hl_a ?_ | refine hq_a ?_ | refine hl_nil ?_ | refine hq_nil ?_ | refine hq_ga ?_ | refine hq_sk ?_ | refine hq_su ?_ | refine hq_gT ?_ | refine hq_gF ?_ | refine hq_gd (fun h => ?_) (fun h => ?_) | refine hl_ga ?_ | refine hl_sk ?_ | refine hl_su ?_ | refine hl_gT ?_ | refine hl_gF ?_ | refine hl_gd (fun h => ?_) (fun h => ?_) | refine hx_next ?_ | refine hw_seq ?_ | refine hw_region ?_ | refine hw_dr ?_ | refine hw_block ?_ | refine hx_block ?_ | refine hw_tt ?_ | refine hw_ff ?_ | refine hw_iT ?_ | refine hw_iF ?_ | refine hw_skip ?_ | refine hw_ret ?_ | refine hw_exit ?_ | refine hx_then_ret ?_ | refine hx_block_ret ?_ | refine hx_then_exit ?_ | refine hx_block_here ?_ | refine hx_far ?_ | refine hx_any ?_ | (apply ha_end; decide +kernel))
      refine hw_if rfl (fun hlt3 => ?_) (fun hge3 => ?_)
      · have hu2 : u < xss.length := by omega
        have hu3 : u < (xss.getD (i / xss.length) []).length := by omega
        have hu4 : u < (xss.getD (i % xss.length) []).length := by omega
        have d1 : w.cell? (vAt (row (i / xss.length)) u) = some (.int .i64 (cAt xss (i / xss.length) u)) := (hr.row _ hd1).get u hu3
        have d2 : w.cell? (vAt (row (i % xss.length)) u) = some (.int .i64 (cAt xss (i % xss.length) u)) := (hr.row _ hd2).get u hu4
        have a1 := hv.at _ u hd1 hu2
        have a2 := hv.at _ u hd2 hu2
        have b1 : 0 ≤ lefS (yss.getD i []) xss.length xss.length u ∧ lefS (yss.getD i []) xss.length xss.length u ≤ 3600 * xss.length := bd_sum _ _ 3600 (fun j hj => by have := hall _ (idx_lt hu2 hj); omega)
        have b2 : 0 ≤ rigS (yss.getD i []) xss.length xss.length u ∧ rigS (yss.getD i []) xss.length xss.length u ≤ 3600 * xss.length := bd_sum _ _ 3600 (fun j hj => by have := hall _ (idx_lt hj hu2); omega)
        have m1 := mul_bd (A := 14400) (B := 60) (a := lefS (yss.getD i []) xss.length xss.length u) (b := tot) (by omega) (by omega)
        have m2 := mul_bd (A := 14400) (B := 60) (a := rigS (yss.getD i []) xss.length xss.length u) (b := tot) (by omega) (by omega)
        have m3 := mul_bd (A := 60) (B := 3600) (a := cAt xss (i / xss.length) u) (b := tot1) (by omega) (by omega)
        have m4 := mul_bd (A := 60) (B := 3600) (a := cAt xss (i % xss.length) u) (b := tot1) (by omega) (by omega)
        have hld1 : Ld w [rBlk b #[.int .i64 (xss.length : Int), .int .i64 tot, v] 31, rBlk b' #[.int .i64 (xss.length : Int), .int .i64 tot1, v1] 69, rOwn 2 1 l xss.length ((lefL (yss.getD i []) xss.length (xss.length * xss.length)).map (Value.int .i64)), rOwn 2 1 r xss.length ((rigL (yss.getD i []) xss.length (xss.length * xss.length)).map (Value.int .i64))] (vAt l u) (.int .i64 (lefS (yss.getD i []) xss.length xss.length u)) := by
          refine ld_own 2 rfl ?_
          have hll : (lefL (yss.getD i []) xss.length (xss.length * xss.length)).length = xss.length := tab_length _ _
          rw [List.getElem?_map, List.getElem?_eq_getElem (by omega), ← getD_lt _ _ 0 (by omega), lefL, tab_getD _ _ _ _ hu2, lefK_eq _ _ _ hu2]; rfl
        have hld2 : Ld w [rBlk b #[.int .i64 (xss.length : Int), .int .i64 tot, v] 31, rBlk b' #[.int .i64 (xss.length : Int), .int .i64 tot1, v1] 69, rOwn 2 1 l xss.length ((lefL (yss.getD i []) xss.length (xss.length * xss.length)).map (Value.int .i64)), rOwn 2 1 r xss.length ((rigL (yss.getD i []) xss.length (xss.length * xss.length)).map (Value.int .i64))] (vAt r u) (.int .i64 (rigS (yss.getD i []) xss.length xss.length u)) := by
          refine ld_own 3 rfl ?_
          have hll : (rigL (yss.getD i []) xss.length (xss.length * xss.length)).length = xss.length := tab_length _ _
          rw [List.getElem?_map, List.getElem?_eq_getElem (by omega), ← getD_lt _ _ 0 (by omega), rigL, tab_getD _ _ _ _ hu2, rigK_eq _ _ _ hu2]; rfl
        rcases Classical.em (lefS (yss.getD i []) xss.length xss.length u * tot ≠ cAt xss (i / xss.length) u * tot1) with h13 | h13
        · repeat' (first | refine hl_a ?_ | refine hq_a ?_ | refine hl_nil ?_ | refine hq_nil ?_ | refine hq_ga ?_ | refine hq_sk ?_ | refine hq_su ?_ | refine hq_gT ?_ | refine hq_gF ?_ | refine hq_gd (fun h => ?_) (fun h => ?_) | refine hl_ga ?_ | refine hl_sk ?_ | refine hl_su ?_ | refine hl_gT ?_ | refine hl_gF ?_ | refine hl_gd (fun h => ?_) (fun h => ?_) | refine hx_next ?_ | refine hw_seq ?_ | refine hw_region ?_ | refine hw_dr ?_ | refine hw_block ?_ | refine hx_block ?_ | refine hw_tt ?_ | refine hw_ff ?_ | refine hw_iT ?_ | refine hw_iF ?_ | refine hw_skip ?_ | refine hw_ret ?_ | refine hw_exit ?_ | refine hx_then_ret ?_ | refine hx_block_ret ?_ | refine hx_then_exit ?_ | refine hx_block_here ?_ | refine hx_far ?_ | refine hx_any ?_ | (apply ha_end; decide +kernel) | (apply hl_q; decide; (exact q_mul rfl rfl (by omega))) | (apply hq_q; decide; (exact q_mul rfl rfl (by omega))) | (apply hq_g; rfl; rfl; decide; (exact q_mul rfl rfl (by omega))) | (apply hl_g; rfl; rfl; decide; (exact q_mul rfl rfl (by omega))))
          refine hx_ret1 rfl rfl (fun w hm => ⟨?_, hm.none⟩)
          rw [decide_eq_false (fun e => h13 ((e.row i hi2).left u hu2))]
        · repeat' (first | refine hl_a ?_ | refine hq_a ?_ | refine hl_nil ?_ | refine hq_nil ?_ | refine hq_ga ?_ | refine hq_sk ?_ | refine hq_su ?_ | refine hq_gT ?_ | refine hq_gF ?_ | refine hq_gd (fun h => ?_) (fun h => ?_) | refine hl_ga ?_ | refine hl_sk ?_ | refine hl_su ?_ | refine hl_gT ?_ | refine hl_gF ?_ | refine hl_gd (fun h => ?_) (fun h => ?_) | refine hx_next ?_ | refine hw_seq ?_ | refine hw_region ?_ | refine hw_dr ?_ | refine hw_block ?_ | refine hx_block ?_ | refine hw_tt ?_ | refine hw_ff ?_ | refine hw_iT ?_ | refine hw_iF ?_ | refine hw_skip ?_ | refine hw_ret ?_ | refine hw_exit ?_ | refine hx_then_ret ?_ | refine hx_block_ret ?_ | refine hx_then_exit ?_ | refine hx_block_here ?_ | refine hx_far ?_ | refine hx_any ?_ | (apply ha_end; decide +kernel) | (apply hl_q; decide; (exact q_mul rfl rfl (by omega))) | (apply hq_q; decide; (exact q_mul rfl rfl (by omega))) | (apply hq_g; rfl; rfl; decide; (exact q_mul rfl rfl (by omega))) | (apply hl_g; rfl; rfl; decide; (exact q_mul rfl rfl (by omega))))
          refine hw_if rfl (fun h14 => ?_) (fun h14 => ?_)
          · repeat' (first | refine hl_a ?_ | refine hq_a ?_ | refine hl_nil ?_ | refine hq_nil ?_ | refine hq_ga ?_ | refine hq_sk ?_ | refine hq_su ?_ | refine hq_gT ?_ | refine hq_gF ?_ | refine hq_gd (fun h => ?_) (fun h => ?_) | refine hl_ga ?_ | refine hl_sk ?_ | refine hl_su ?_ | refine hl_gT ?_ | refine hl_gF ?_ | refine hl_gd (fun h => ?_) (fun h => ?_) | refine hx_next ?_ | refine hw_seq ?_ | refine hw_region ?_ | refine hw_dr ?_ | refine hw_block ?_ | refine hx_block ?_ | refine hw_tt ?_ | refine hw_ff ?_ | refine hw_iT ?_ | refine hw_iF ?_ | refine hw_skip ?_ | refine hw_ret ?_ | refine hw_exit ?_ | refine hx_then_ret ?_ | refine hx_block_ret ?_ | refine hx_then_exit ?_ | refine hx_block_here ?_ | refine hx_far ?_ | refine hx_any ?_ | (apply ha_end; decide +kernel))
            refine hx_ret1 rfl rfl (fun w hm => ⟨?_, hm.none⟩)
            rw [decide_eq_false (fun e => h14 ((e.row i hi2).right u hu2))]
          · repeat' (first | refine hl_a ?_ | refine hq_a ?_ | refine hl_nil ?_ | refine hq_nil ?_ | refine hq_ga ?_ | refine hq_sk ?_ | refine hq_su ?_ | refine hq_gT ?_ | refine hq_gF ?_ | refine hq_gd (fun h => ?_) (fun h => ?_) | refine hl_ga ?_ | refine hl_sk ?_ | refine hl_su ?_ | refine hl_gT ?_ | refine hl_gF ?_ | refine hl_gd (fun h => ?_) (fun h => ?_) | refine hx_next ?_ | refine hw_seq ?_ | refine hw_region ?_ | refine hw_dr ?_ | refine hw_block ?_ | refine hx_block ?_ | refine hw_tt ?_ | refine hw_ff ?_ | refine hw_iT ?_ | refine hw_iF ?_ | refine hw_skip ?_ | refine hw_ret ?_ | refine hw_exit ?_ | refine hx_then_ret ?_ | refine hx_block_ret ?_ | refine hx_then_exit ?_ | refine hx_block_here ?_ | refine hx_far ?_ | refine hx_any ?_ | (apply ha_end; decide +kernel))
            refine hx_round ⟨rfl, u + 1, hu2, rfl, rfl, fun u' hu' => ?_⟩ (by omega) ⟨rfl, rfl, rfl, rfl, rfl, rfl, rfl, rfl, rfl, rfl, rfl, rfl, trivial⟩
            by_cases e : u' = u
            · subst e; exact ⟨Classical.not_not.1 h13, Classical.not_not.1 h14⟩
            · exact hsides u' (by omega)
      · repeat' (first | refine hl_a ?_ | refine hq_a ?_ | refine hl_nil ?_ | refine hq_nil ?_ | refine hq_ga ?_ | refine hq_sk ?_ | refine hq_su ?_ | refine hq_gT ?_ | refine hq_gF ?_ | refine hq_gd (fun h => ?_) (fun h => ?_) | refine hl_ga ?_ | refine hl_sk ?_ | refine hl_su ?_ | refine hl_gT ?_ | refine hl_gF ?_ | refine hl_gd (fun h => ?_) (fun h => ?_) | refine hx_next ?_ | refine hw_seq ?_ | refine hw_region ?_ | refine hw_dr ?_ | refine hw_block ?_ | refine hx_block ?_ | refine hw_tt ?_ | refine hw_ff ?_ | refine hw_iT ?_ | refine hw_iF ?_ | refine hw_skip ?_ | refine hw_ret ?_ | refine hw_exit ?_ | refine hx_then_ret ?_ | refine hx_block_ret ?_ | refine hx_then_exit ?_ | refine hx_block_here ?_ | refine hx_far ?_ | refine hx_any ?_ | (apply ha_end; decide +kernel))
        refine hx_mem (fun w hm => Mem.keep [_, _] hm) ?_
        refine hx_round ⟨rfl, i + 1, by omega, rfl, rfl, fun j hj => ?_⟩ (by omega) ⟨rfl, rfl, rfl, rfl, rfl, rfl, trivial⟩
        by_cases e : j = i
        · subst e
          exact ⟨hrl, hall, Classical.not_not.1 h12, fun u hu => (hsides u (by omega)).1, fun u hu => (hsides u (by omega)).2⟩
        · exact hdone j (by omega)
  · repeat' (first | refine hl_a ?_ | refine hq_a ?_ | refine hl_nil ?_ | refine hq_nil ?_ | refine hq_ga ?_ | refine hq_sk ?_ | refine hq_su ?_ | refine hq_gT ?_ | refine hq_gF ?_ | refine hq_gd (fun h => ?_) (fun h => ?_) | refine hl_ga ?_ | refine hl_sk ?_ | refine hl_su ?_ | refine hl_gT ?_ | refine hl_gF ?_ | refine hl_gd (fun h => ?_) (fun h => ?_) | refine hx_next ?_ | refine hw_seq ?_ | refine hw_region ?_ | refine hw_dr ?_ | refine hw_block ?_ | refine hx_block ?_ | refine hw_tt ?_ | refine hw_ff ?_ | refine hw_iT ?_ | refine hw_iF ?_ | refine hw_skip ?_ | refine hw_ret ?_ | refine hw_exit ?_ | refine hx_then_ret ?_ | refine hx_block_ret ?_ | refine hx_then_exit ?_ | refine hx_block_here ?_ | refine hx_far ?_ | refine hx_any ?_ | (apply ha_end; decide +kernel))
    refine hx_ret1 rfl rfl (fun w hm => ⟨?_, hm.none⟩)
    rw [decide_eq_true (p := ValidC xss.length tot xss xss.length tot1 yss) ⟨hv, by omega, rfl, h6, hlen, fun j hj => hdone j (by omega)⟩]
end Go.Proofs.Ytgeidbjcphjbiaa
