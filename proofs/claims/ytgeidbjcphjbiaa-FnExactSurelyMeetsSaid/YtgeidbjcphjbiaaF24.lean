/- Contracts: round trips. -/
import Derived.Test.YtgeidbjcphjbiaaF23
import Derived.Test.YtgeidbjcphjbiaaF22
namespace Go.Eng
open Go.RowKit
set_option linter.unusedVariables false
section
variable {P : Program} {N : Nat} {env : Env} {w0 : World} {rs : List Res} {Q : Exit → Act → World → Prop} {ops : Array Oper} {l : List Oper} {d : Nat} {dst : Option Nat} {gd : Option (Nat × Bool)} {ty : TypeId} {pos : String} {after : Array Edge} {x y : Operand} {v : Value}
theorem run_eqNil {t e bb sz : Nat} {z : Value} [hT : Slc P t e sz bb z] (a : Option Addr) (n c : Nat) (w : World) : (Op.equal t (.slice a n c) (.slice none 0 0)).run P w = .ok a.isNone w := by
  have h : ∀ d : Nat, (Op.equalIn (d + 1) t (.slice a n c) (.slice none 0 0)).run P w = .ok a.isNone w := fun d => by cases a <;> simp [Op.equalIn, run_underlying hT.und]
  simp [Op.equal, Op.maxDepth, h 9999]
theorem q_isNil {t t' e bb sz : Nat} {z : Value} [hT : Slc P t e sz bb z] {a : Option Addr} {n c : Nat} (hx : env.ev x = some (.slice a n c)) (hy : env.ev y = some (.slice none 0 0)) : QO P N env w0 rs ⟨dst, .binOp .eql t x y t', ty, pos, after, gd⟩ (.bool a.isNone) :=
  qo_bin hx hy (by simp [go_sem]) fun w => by
    have h := run_eqNil (P := P) (t := t) a n c w
    simp [binOp, h]
theorem q_notNil {t t' e bb sz : Nat} {z : Value} [hT : Slc P t e sz bb z] {a : Option Addr} {n c : Nat} (hx : env.ev x = some (.slice a n c)) (hy : env.ev y = some (.slice none 0 0)) : QO P N env w0 rs ⟨dst, .binOp .neq t x y t', ty, pos, after, gd⟩ (.bool (!a.isNone)) :=
  qo_bin hx hy (by simp [go_sem]) fun w => by
    have h := run_eqNil (P := P) (t := t) a n c w
    simp [binOp, h]
theorem q_notNilF {t t' e bb sz n c : Nat} {z : Value} [hT : Slc P t e sz bb z] (hx : env.ev x = some (.slice none n c)) (hy : env.ev y = some (.slice none 0 0)) : QO P N env w0 rs ⟨dst, .binOp .neq t x y t', ty, pos, after, gd⟩ (.bool false) := q_notNil (a := none) hx hy
theorem q_isNilF {t t' e bb sz n : Nat} {z : Value} [hT : Slc P t e sz bb z] (hs : SlOk v n) (hn : n ≠ 0) (hx : env.ev x = some v) (hy : env.ev y = some (.slice none 0 0)) : QO P N env w0 rs ⟨dst, .binOp .eql t x y t', ty, pos, after, gd⟩ (.bool false) := by
  unfold SlOk at hs
  obtain ⟨a, c, rfl, _, _, h3⟩ := hs
  obtain ⟨a, rfl⟩ := Option.isSome_iff_exists.1 (h3 hn)
  exact q_isNil hx hy
theorem q_notNilT {t t' e bb sz n : Nat} {z : Value} [hT : Slc P t e sz bb z] (hs : SlOk v n) (hn : n ≠ 0) (hx : env.ev x = some v) (hy : env.ev y = some (.slice none 0 0)) : QO P N env w0 rs ⟨dst, .binOp .neq t x y t', ty, pos, after, gd⟩ (.bool true) := by
  unfold SlOk at hs
  obtain ⟨a, c, rfl, _, _, h3⟩ := hs
  obtain ⟨a, rfl⟩ := Option.isSome_iff_exists.1 (h3 hn)
  exact q_notNil hx hy
/-- 'append(own and empty, list...)'. -/
theorem hl_copy {t e bb b : Nat} {z : Value} [hT : Slc P t e 1 bb z] {xs : List Int} {a : Addr} {c : Nat} (i : Nat) (hi : rs[i]? = some (rOwn e 1 (.slice (some ⟨b, 0, none⟩) 0 0) 0 [])) (hd : d < N)
    (hx : env.ev x = some (.slice (some ⟨b, 0, none⟩) 0 0)) (hy : env.ev y = some (.slice (some a) xs.length c)) (hrd : RdE (Value.int .i64) 0 w0 (.slice (some a) xs.length c) xs) (hn : xs.length ≤ 1000) (hbb : bb ≤ 64)
    (K : ∀ v', SlOk v' xs.length → HL P N ((d, v') :: env) w0 (rs.set i (rE e (Value.int .i64) v' xs)) ops Q l) :
    HL P N env w0 rs ops Q (⟨some d, .call { callee := .builtin .append, args := #[x, y], argTypes := #[t, t] }, ty, pos, after, none⟩ :: l) := by
  refine hl_append (m := xs.length) (c := c) (news := xs.map (Value.int .i64)) (ad := a) i hi hd hx hy (by simp) (fun j u hu => ?_) (fun u hu => ?_) (by decide) (by unfold maxLen; omega) ?_ (fun v' hv' => ?_)
  · rw [List.getElem?_map] at hu
    cases hj : xs[j]? with
    | none => rw [hj] at hu; simp at hu
    | some q =>
      rw [hj] at hu
      simp at hu
      subst hu
      have hlt := (List.getElem?_eq_some_iff.1 hj).1
      have h := hrd.get j hlt
      rw [List.getD_eq_getElem?_getD, hj] at h
      exact ld_base h
  · obtain ⟨q, _, rfl⟩ := List.mem_map.1 hu; rfl
  · have := Nat.mul_le_mul (show 0 + xs.length ≤ 1000 by omega) hbb
    omega
  · have h2 := K v' (by simpa using hv')
    unfold rE at h2
    simpa using h2
end
end Go.Eng
namespace Go.Proofs.Ytgeidbjcphjbiaa
open Go.Eng Go.RowKit
set_option linter.unusedVariables false

theorem l00Own_c (a : Addr) (c : Nat) (xs : List Int) (hn : xs.length ≤ 1000) (w : World) (hx : RdE (Value.int .i64) 0 w (.slice (some a) xs.length c) xs) : Gives Try.prog 96 [.slice (some a) xs.length c] w (OutE 2 (Value.int .i64) xs) := by
  refine calls_hw Try.func96 Try.ntmps96 rfl rfl ?_
  repeat' (first | refine hl_a ?_ | refine hq_a ?_ | refine hl_nil ?_ | refine hq_nil ?_ | refine hq_ga ?_ | refine hq_sk ?_ | refine hq_su ?_ | refine hq_gT ?_ | refine hq_gF ?_ | refine hq_gd (fun h => ?_) (fun h => ?_) | refine hl_ga ?_ | refine hl_sk ?_ | refine hl_su ?_ | refine hl_gT ?_ | refine hl_gF ?_ | refine hl_gd (fun h => ?_) (fun h => ?_) | refine hx_next ?_ | refine hw_seq ?_ | refine hw_region ?_ | refine hw_dr ?_ | refine hw_block ?_ | refine hx_block ?_ | refine hw_tt ?_ | refine hw_ff ?_ | refine hw_iT ?_ | refine hw_iF ?_ | refine hw_skip ?_ | refine hw_ret ?_ | refine hw_exit ?_ | refine hx_then_ret ?_ | refine hx_block_ret ?_ | refine hx_then_exit ?_ | refine hx_block_here ?_ | refine hx_far ?_ | refine hx_any ?_ | (apply ha_end; decide +kernel))
  refine hl_build0 (by decide) (fun b1 => ?_)
  repeat' (first | refine hl_a ?_ | refine hq_a ?_ | refine hl_nil ?_ | refine hq_nil ?_ | refine hq_ga ?_ | refine hq_sk ?_ | refine hq_su ?_ | refine hq_gT ?_ | refine hq_gF ?_ | refine hq_gd (fun h => ?_) (fun h => ?_) | refine hl_ga ?_ | refine hl_sk ?_ | refine hl_su ?_ | refine hl_gT ?_ | refine hl_gF ?_ | refine hl_gd (fun h => ?_) (fun h => ?_) | refine hx_next ?_ | refine hw_seq ?_ | refine hw_region ?_ | refine hw_dr ?_ | refine hw_block ?_ | refine hx_block ?_ | refine hw_tt ?_ | refine hw_ff ?_ | refine hw_iT ?_ | refine hw_iF ?_ | refine hw_skip ?_ | refine hw_ret ?_ | refine hw_exit ?_ | refine hx_then_ret ?_ | refine hx_block_ret ?_ | refine hx_then_exit ?_ | refine hx_block_here ?_ | refine hx_far ?_ | refine hx_any ?_ | (apply ha_end; decide +kernel))
  refine hl_copy 0 rfl (by decide) rfl rfl hx hn (by decide) (fun v' hv' => ?_)
  repeat' (first | refine hl_a ?_ | refine hq_a ?_ | refine hl_nil ?_ | refine hq_nil ?_ | refine hq_ga ?_ | refine hq_sk ?_ | refine hq_su ?_ | refine hq_gT ?_ | refine hq_gF ?_ | refine hq_gd (fun h => ?_) (fun h => ?_) | refine hl_ga ?_ | refine hl_sk ?_ | refine hl_su ?_ | refine hl_gT ?_ | refine hl_gF ?_ | refine hl_gd (fun h => ?_) (fun h => ?_) | refine hx_next ?_ | refine hw_seq ?_ | refine hw_region ?_ | refine hw_dr ?_ | refine hw_block ?_ | refine hx_block ?_ | refine hw_tt ?_ | refine hw_ff ?_ | refine hw_iT ?_ | refine hw_iF ?_ | refine hw_skip ?_ | refine hw_ret ?_ | refine hw_exit ?_ | refine hx_then_ret ?_ | refine hx_block_ret ?_ | refine hx_then_exit ?_ | refine hx_block_here ?_ | refine hx_far ?_ | refine hx_any ?_ | (apply ha_end; decide +kernel))
  exact hx_ret1 rfl rfl (fun w hm => ⟨_, _, rfl, hm, rfl, hv'⟩)
/-! ### The model -/
def nx (ps : List Int) (k : Nat) : Nat := (ps.getD ((k + 1) % ps.length) 0).toNat
def thr (xss : List (List Int)) (ps : List Int) : Nat → Int
  | 0 => 1
  | k + 1 => thr xss ps k * cAt xss (ps.getD k 0).toNat (nx ps k)
def bck (xss : List (List Int)) (ps : List Int) : Nat → Int
  | 0 => 1
  | k + 1 => bck xss ps k * cAt xss (nx ps k) (ps.getD k 0).toNat
def unf (xss : List (List Int)) (ps : List Int) : Prop := thr xss ps ps.length ≠ bck xss ps ps.length
instance (xss : List (List Int)) (ps : List Int) : Decidable (unf xss ps) := by unfold unf; infer_instance
def misS (g : List Int → Option (List Int)) (ps : List Int) : Nat → Nat → Option (List Int)
  | 0, _ => none
  | c + 1, s => if (ps.length ≠ 0 ∧ (s : Int) ≤ ps.getD 0 0) ∨ (s : Int) ∈ ps then misS g ps c (s + 1) else match g (ps ++ [(s : Int)]) with
    | some r => some r
    | none => misS g ps c (s + 1)
def misF (xss : List (List Int)) : Nat → List Int → Option (List Int)
  | 0, ps => if unf xss ps then some ps else none
  | f + 1, ps => misS (misF xss f) ps xss.length 0
theorem misS_step {g : List Int → Option (List Int)} {ps : List Int} {n s : Nat} (h : s < n) : misS g ps (n - s) s = if (ps.length ≠ 0 ∧ (s : Int) ≤ ps.getD 0 0) ∨ (s : Int) ∈ ps then misS g ps (n - (s + 1)) (s + 1) else match g (ps ++ [(s : Int)]) with
    | some r => some r
    | none => misS g ps (n - (s + 1)) (s + 1) := by
  rw [show n - s = (n - (s + 1)) + 1 by omega]; rfl
theorem misS_skip {g : List Int → Option (List Int)} {ps : List Int} {n : Nat} (h0 : ps.length ≠ 0) : ∀ s, s ≤ n → (s : Int) ≤ ps.getD 0 0 + 1 → misS g ps (n - s) s = misS g ps n 0
  | 0, _, _ => rfl
  | s + 1, hs, h => by
    rw [← misS_skip h0 s (by omega) (by omega), misS_step (show s < n by omega), if_pos (.inl ⟨h0, by omega⟩)]
theorem misS_len {g : List Int → Option (List Int)} {ps : List Int} {m : Nat} (hg : ∀ s xs, g (ps ++ [s]) = some xs → xs.length = m) : ∀ (c s : Nat) (xs : List Int), misS g ps c s = some xs → xs.length = m
  | 0, _, _, h => by simp [misS] at h
  | c + 1, s, xs, h => by
    unfold misS at h
    split at h
    · exact misS_len hg c (s + 1) xs h
    · split at h
      · rename_i r hr; simp at h; subst h; exact hg _ _ hr
      · exact misS_len hg c (s + 1) xs h
theorem misF_len {xss : List (List Int)} : ∀ (f : Nat) (ps xs : List Int), misF xss f ps = some xs → xs.length = ps.length + f
  | 0, ps, xs, h => by
    unfold misF at h
    split at h
    · simp at h; subst h; rfl
    · cases h
  | f + 1, ps, xs, h => misS_len (m := ps.length + (f + 1)) (fun s ys hy => by have := misF_len f _ _ hy; simp at this; omega) _ _ _ h
theorem mulBd {a b A B : Int} (ha : 0 ≤ a ∧ a ≤ A) (hb : 0 ≤ b ∧ b ≤ B) : 0 ≤ a * b ∧ a * b ≤ A * B :=
  ⟨Int.mul_nonneg ha.1 hb.1, Int.mul_le_mul ha.2 hb.2 hb.1 (by omega)⟩
/-- Every place of the trip is a state. -/
def Sts (xss : List (List Int)) (ps : List Int) : Prop := ∀ k, k < ps.length → ∃ a : Nat, a < xss.length ∧ ps.getD k 0 = (a : Int)
theorem thr_bd {st tot : Int} {xss : List (List Int)} {ps : List Int} (hv : Valid st tot xss) (hp : Sts xss ps) : ∀ k, k ≤ ps.length → (0 ≤ thr xss ps k ∧ thr xss ps k ≤ 60 ^ k) ∧ (0 ≤ bck xss ps k ∧ bck xss ps k ≤ 60 ^ k)
  | 0, _ => by simp [thr, bck]
  | k + 1, hk => by
    obtain ⟨h1, h2⟩ := thr_bd hv hp k (by omega)
    obtain ⟨a, ha, e1⟩ := hp k (by omega)
    obtain ⟨b, hb, e2⟩ := hp ((k + 1) % ps.length) (Nat.mod_lt _ (by omega))
    have h3 := hv.at a b ha hb
    have h4 := hv.at b a hb ha
    unfold thr bck nx
    rw [e1, e2, Int.toNat_natCast, Int.toNat_natCast, Int.pow_succ]
    exact ⟨mulBd h1 ⟨h3.1, h3.2.2⟩, mulBd h2 ⟨h4.1, h4.2.2⟩⟩
theorem pow60 {k : Nat} (hk : k ≤ 6) : (60 : Int) ^ k ≤ 46656000000 := by
  have : k = 0 ∨ k = 1 ∨ k = 2 ∨ k = 3 ∨ k = 4 ∨ k = 5 ∨ k = 6 := by omega
  rcases this with rfl | rfl | rfl | rfl | rfl | rfl | rfl <;> decide
theorem Sts.snoc {xss : List (List Int)} {ps : List Int} (h : Sts xss ps) {s : Nat} (hs : s < xss.length) : Sts xss (ps ++ [(s : Int)]) := fun k hk => by
  simp at hk
  by_cases e : k = ps.length
  · subst e; exact ⟨s, hs, by simp⟩
  · obtain ⟨a, ha, he⟩ := h k (by omega)
    refine ⟨a, ha, ?_⟩
    rw [← he, List.getD_eq_getElem?_getD, List.getD_eq_getElem?_getD, List.getElem?_append_left (by omega)]
def MisOut (e : TypeId) (vo : Value) (ps : List Int) (f : Nat) (o : Option (List Int)) (v : Value) (rs : List Res) : Prop :=
  (o = none ∧ v = .slice none 0 0 ∧ rs = []) ∨ (f = 0 ∧ o = some ps ∧ v = vo ∧ rs = []) ∨ (f ≠ 0 ∧ ∃ xs, o = some xs ∧ rs = [rE e (Value.int .i64) v xs] ∧ SlOk v xs.length ∧ xs.length ≠ 0)
end Go.Proofs.Ytgeidbjcphjbiaa
