/- Levels of a search, and what divides all rounds: plain law. -/
import Derived.Test.YtgeidbjcphjbiaaF20
namespace Go.Proofs.Ytgeidbjcphjbiaa
open Go.Eng Go.RowKit
set_option linter.unusedVariables false

structure Bs where
  L : List Nat
  D : Nat → Nat
def bstep (xss : List (List Int)) (q : Nat) (S : Bs) (k : Nat) : Bs := if 0 < cAt xss q k ∧ k ∉ S.L then ⟨S.L ++ [k], fun j => if j = k then S.D q + 1 else S.D j⟩ else S
def binn (xss : List (List Int)) (q : Nat) (S : Bs) : Nat → Bs
  | 0 => S
  | k + 1 => bstep xss q (binn xss q S k) k
def bout (xss : List (List Int)) : Nat → Bs
  | 0 => ⟨[0], fun _ => 0⟩
  | i + 1 => if i < (bout xss i).L.length then binn xss ((bout xss i).L.getD i 0) (bout xss i) xss.length else bout xss i
structure Outt (xss : List (List Int)) (i : Nat) (S : Bs) : Prop where
  F : Found xss 0 S.L i
  bd : ∀ j, S.D j < S.L.length
structure Inn (xss : List (List Int)) (i q k : Nat) (S : Bs) : Prop where
  F : Found xss 0 S.L i
  bd : ∀ j, S.D j < S.L.length
  hi : i < S.L.length
  hq : S.L.getD i 0 = q
  cov : ∀ t, t < k → edge xss q t → t ∈ S.L
theorem bstep_yes {xss : List (List Int)} {q k : Nat} {S : Bs} (h1 : 0 < cAt xss q k) (h2 : k ∉ S.L) : bstep xss q S k = ⟨S.L ++ [k], fun j => if j = k then S.D q + 1 else S.D j⟩ := by rw [bstep, if_pos ⟨h1, h2⟩]
theorem bstep_no {xss : List (List Int)} {q k : Nat} {S : Bs} (h : ¬ (0 < cAt xss q k ∧ k ∉ S.L)) : bstep xss q S k = S := by rw [bstep, if_neg h]
theorem Outt.init (xss : List (List Int)) : Outt xss 0 (bout xss 0) := ⟨Found.init, fun j => by simp [bout]⟩
theorem Outt.inn {xss : List (List Int)} {i : Nat} {S : Bs} (h : Outt xss i S) (hi : i < S.L.length) : Inn xss i (S.L.getD i 0) 0 S := ⟨h.F, h.bd, hi, rfl, by omega⟩
theorem Inn.out {xss : List (List Int)} {i q : Nat} {S : Bs} (h : Inn xss i q xss.length S) : Outt xss (i + 1) S :=
  ⟨h.F.next h.hi (fun t ht => by rw [h.hq] at ht; exact h.cov t ht.2.1 ht), h.bd⟩
theorem Inn.step {xss : List (List Int)} {i q k : Nat} {S : Bs} (h : Inn xss i q k S) (hk : k < xss.length) (hq : q < xss.length) : Inn xss i q (k + 1) (bstep xss q S k) := by
  by_cases h1 : 0 < cAt xss q k
  · by_cases h2 : k ∈ S.L
    · rw [bstep_no (fun e => e.2 h2)]
      refine ⟨h.F, h.bd, h.hi, h.hq, fun t ht he => ?_⟩
      by_cases e : t = k
      · rw [e]; exact h2
      · exact h.cov t (by omega) he
    · rw [bstep_yes h1 h2]
      refine ⟨h.F.add h.hi (by rw [h.hq]; exact ⟨hq, hk, h1⟩) h2, fun j => ?_, by simp; have := h.hi; omega, by rw [getD_append h.hi]; exact h.hq, fun t ht he => ?_⟩
      · have h3 := h.bd j
        have h4 := h.bd q
        simp only [List.length_append, List.length_cons, List.length_nil]
        split <;> omega
      · by_cases e : t = k
        · simp [e]
        · exact List.mem_append.2 (.inl (h.cov t (by omega) he))
  · rw [bstep_no (fun e => h1 e.1)]
    refine ⟨h.F, h.bd, h.hi, h.hq, fun t ht he => ?_⟩
    by_cases e : t = k
    · rw [e] at he; exact absurd he.2.2 h1
    · exact h.cov t (by omega) he
theorem bout_step {xss : List (List Int)} {i : Nat} (h : i < (bout xss i).L.length) : bout xss (i + 1) = binn xss ((bout xss i).L.getD i 0) (bout xss i) xss.length := by rw [bout, if_pos h]
theorem bout_fix {xss : List (List Int)} {i : Nat} (h : (bout xss i).L.length ≤ i) : ∀ m, bout xss (i + m) = bout xss i
  | 0 => rfl
  | m + 1 => by
    have ih := bout_fix h m
    rw [← Nat.add_assoc, bout, ih, if_neg (by omega)]
def bfin (xss : List (List Int)) : Bs := bout xss xss.length
theorem bfin_eq {xss : List (List Int)} {i : Nat} (h : Outt xss i (bout xss i)) (hi : (bout xss i).L.length ≤ i) (hn : 0 < xss.length) : bout xss i = bfin xss := by
  have h1 := h.F.len hn
  have h2 := h.F.le
  have := bout_fix hi (xss.length - i)
  rw [show i + (xss.length - i) = xss.length by omega] at this
  exact this.symm

/-- In a connected chain all is reached from all. -/
theorem clL_mem {xss : List (List Int)} : ∀ {m : Nat} {ys : List Int}, ys ∈ clL xss m → ∃ k, k < m ∧ clP xss k ∧ ys = rS xss k
  | 0, _, h => by simp [clL] at h
  | m + 1, ys, h => by
    by_cases hc : clP xss m
    · rw [clL_yes hc] at h
      rcases List.mem_append.1 h with e | e
      · obtain ⟨k, h1, h2, h3⟩ := clL_mem e; exact ⟨k, by omega, h2, h3⟩
      · simp at e; exact ⟨m, by omega, hc, e⟩
    · rw [clL_no hc] at h
      obtain ⟨k, h1, h2, h3⟩ := clL_mem h; exact ⟨k, by omega, h2, h3⟩
theorem asc_nodup {xs : List Int} (h : xs.Pairwise (· < ·)) : xs.Nodup := h.imp fun h => by omega
theorem filt_full {n : Nat} {p : Nat → Bool} (h : (filt n p).length = n) : ∀ t, t < n → p t = true := by
  have h1 := (pigeon (filt n p) (tab n fun s => (s : Int)) (asc_nodup (filt_asc n p)) (fun x hx => by obtain ⟨k, hk, _, rfl⟩ := mem_filt.1 hx; exact nums_mem.2 (by omega)) (by rw [tab_length, h]; exact Nat.le_refl _)).1
  intro t ht
  exact (nat_mem_filt.1 (h1 (t : Int) (nums_mem.2 (by omega)))).2
theorem conB_all {xss : List (List Int)} (h : conB xss) : ∀ s t, s < xss.length → t < xss.length → rB xss s t = true := by
  obtain ⟨h1, h2⟩ := h
  have h3 : (clL xss xss.length).getD 0 [] ∈ clL xss xss.length := by rw [getD_lt _ _ _ (by omega)]; exact List.getElem_mem _
  obtain ⟨k, hk, hc, he⟩ := clL_mem h3
  rw [he] at h2
  have h4 := filt_full h2
  intro s t hs ht
  have h5 := hc.2 (s : Int) (nat_mem_filt.2 ⟨hs, h4 s hs⟩)
  rw [Int.toNat_natCast] at h5
  exact rB_iff.2 ((rB_iff.1 h5).trans (rB_iff.1 (h4 t ht)))

/-! ### The period -/
def gI (xss : List (List Int)) (D : Nat → Nat) (s : Nat) (g : Nat) : Nat → Nat
  | 0 => g
  | t + 1 => if 0 < cAt xss s t then Nat.gcd (gI xss D s g t) ((D s : Int) + 1 - (D t : Int)).natAbs else gI xss D s g t
def gO (xss : List (List Int)) (D : Nat → Nat) : Nat → Nat
  | 0 => 0
  | s + 1 => gI xss D s (gO xss D s) xss.length
theorem gcd_bd {a b B : Nat} (ha : a ≤ B) (hb : b ≤ B) : Nat.gcd a b ≤ B := by
  by_cases h : a = 0
  · subst h; simpa using hb
  · exact Nat.le_trans (Nat.gcd_le_left b (by omega)) ha
theorem gI_bd {xss : List (List Int)} {D : Nat → Nat} (hD : ∀ j, D j ≤ 10) {s g : Nat} (hg : g ≤ 11) : ∀ t, gI xss D s g t ≤ 11
  | 0 => hg
  | t + 1 => by
    unfold gI
    have h1 := hD s
    have h2 := hD t
    split
    · exact gcd_bd (gI_bd hD hg t) (by omega)
    · exact gI_bd hD hg t
theorem gO_bd {xss : List (List Int)} {D : Nat → Nat} (hD : ∀ j, D j ≤ 10) : ∀ s, gO xss D s ≤ 11
  | 0 => by simp [gO]
  | s + 1 => gI_bd hD (gO_bd hD s) _
noncomputable def conC (st tot : Int) (xss : List (List Int)) : Int := if Valid st tot xss then if conB xss then 0 else 4 else 1
noncomputable def perV (st tot : Int) (xss : List (List Int)) : Int := if Valid st tot xss then if conB xss then (gO xss (bfin xss).D xss.length : Nat) else 0 else 0
end Go.Proofs.Ytgeidbjcphjbiaa
namespace Go.Eng
open Go.RowKit
section
variable {P : Program} {N : Nat} {env : Env} {w0 : World} {rs : List Res} {dst : Option Nat} {ty : TypeId} {pos : String} {after : Array Edge} {gd : Option (Nat × Bool)} {x y : Operand} {m n : Int}
theorem q_neg {t : TypeId} (hx : env.ev x = some (.int .i64 n)) (hr : -9223372036854775808 ≤ 0 - n ∧ 0 - n ≤ 9223372036854775807) : QO P N env w0 rs ⟨dst, .unOp .neg t x, ty, pos, after, gd⟩ (.int .i64 (0 - n)) := qo_val fun a hs w _ => by
  have := IntWalk.i64_in _ hr
  have h1 : (Op.unary .neg (.int .i64 n)).run P w = .ok (.int .i64 (0 - n)) w := by
    rw [unary_neg]
    simp only [Int.zero_sub] at this
    simp [go_sem, this]
  simp only [Int.zero_sub] at h1
  simp [execOp, hs.ev hx, h1]
theorem q_max {ts : Array TypeId} (r : Int) (hx : env.ev x = some (.int .i64 m)) (hy : env.ev y = some (.int .i64 n)) (hr : (if n > m then n else m) = r) : QO P N env w0 rs ⟨dst, .call { callee := .builtin .max, args := #[x, y], argTypes := ts }, ty, pos, after, gd⟩ (.int .i64 r) := qo_val fun a hs w _ => by
  simp [execOp, resolve, invoke, builtin, hs.ev hx, hs.ev hy, run_max_int2, ← hr]
end
end Go.Eng
