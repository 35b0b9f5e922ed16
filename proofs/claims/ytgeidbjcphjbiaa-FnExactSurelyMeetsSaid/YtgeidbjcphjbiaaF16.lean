/- Contracts: states renamed. -/
import Derived.Test.YtgeidbjcphjbiaaF13
namespace Go.Proofs.Ytgeidbjcphjbiaa
open Go.Eng Go.RowKit
set_option linter.unusedVariables false

/-- A list that has each number below n once. -/
structure OrdL (n : Nat) (xs : List Int) : Prop where
  len : xs.length = n
  rng : ∀ i, i < xs.length → 0 ≤ xs.getD i 0 ∧ xs.getD i 0 ≤ (n : Int) - 1
  nd : xs.Nodup
noncomputable instance (n : Nat) (xs : List Int) : Decidable (OrdL n xs) := Classical.propDecidable _
theorem mem_getD {xs : List Int} {x : Int} (h : x ∈ xs) : ∃ i, i < xs.length ∧ xs.getD i 0 = x := by
  obtain ⟨i, hi, he⟩ := List.mem_iff_getElem.1 h
  exact ⟨i, hi, by rw [getD_lt _ _ _ hi]; exact he⟩
theorem getD_mem {xs : List Int} {i : Nat} (h : i < xs.length) : xs.getD i 0 ∈ xs := by rw [getD_lt _ _ _ h]; exact List.getElem_mem h
theorem pigeon : ∀ (L xs : List Int), L.Nodup → (∀ x ∈ L, x ∈ xs) → xs.length ≤ L.length → (∀ x ∈ xs, x ∈ L) ∧ xs.Nodup
  | [], xs, _, _, hl => by
    have : xs = [] := List.eq_nil_of_length_eq_zero (by simpa using hl)
    subst this; simp
  | a :: L, xs, hn, hs, hl => by
    have ha := hs a (by simp)
    have hn' := List.nodup_cons.1 hn
    have hle := List.length_erase_of_mem ha
    have ih := pigeon L (xs.erase a) hn'.2 (fun x hx => (List.mem_erase_of_ne (fun e => hn'.1 (by rw [← e]; exact hx))).2 (hs x (by simp [hx]))) (by simp at hl; omega)
    refine ⟨fun x hx => ?_, ?_⟩
    · by_cases e : x = a
      · simp [e]
      · simp [ih.1 x ((List.mem_erase_of_ne e).2 hx)]
    · have hp := List.perm_cons_erase ha
      refine hp.nodup_iff.2 (List.nodup_cons.2 ⟨fun h => hn'.1 (ih.1 a h), ih.2⟩)
theorem nums_nodup (n : Nat) : (tab n fun s => (s : Int)).Nodup := by
  induction n with
  | zero => simp [tab]
  | succ n ih =>
    rw [tab_succ, List.nodup_append]
    refine ⟨ih, by simp, fun a ha b hb => ?_⟩
    simp [tab] at ha hb
    obtain ⟨i, hi, rfl⟩ := ha
    subst hb
    omega
theorem nums_mem {n : Nat} {x : Int} : x ∈ (tab n fun s => (s : Int)) ↔ 0 ≤ x ∧ x ≤ (n : Int) - 1 := by
  simp only [tab, List.mem_map, List.mem_range]
  constructor
  · rintro ⟨i, hi, rfl⟩; omega
  · intro h; exact ⟨x.toNat, by omega, by omega⟩
/-- All numbers below n occur: then each of them once. -/
theorem ordL_iff (n : Nat) (xs : List Int) : OrdL n xs ↔ (xs.length = n ∧ ∀ s : Nat, s < n → (s : Int) ∈ xs) := by
  constructor
  · intro h
    refine ⟨h.len, fun s hs => ?_⟩
    have h1 := (pigeon xs (tab n fun s => (s : Int)) h.nd (fun x hx => ?_) (by rw [tab_length, h.len]; exact Nat.le_refl _)).1 (s : Int) (nums_mem.2 (by omega))
    · exact h1
    · obtain ⟨i, hi, rfl⟩ := mem_getD hx
      exact nums_mem.2 (h.rng i hi)
  · rintro ⟨hl, hall⟩
    have h1 := pigeon (tab n fun s => (s : Int)) xs (nums_nodup n) (fun x hx => by
      have := nums_mem.1 hx
      have h2 := hall x.toNat (by omega)
      rwa [Int.toNat_of_nonneg this.1] at h2) (by rw [tab_length]; omega)
    exact ⟨hl, fun i hi => nums_mem.1 (h1.1 _ (getD_mem hi)), h1.2⟩

def renF (xss : List (List Int)) (xs : List Int) (s t : Nat) : Int := cAt xss (xs.getD s 0).toNat (xs.getD t 0).toNat
noncomputable def renM (st tot : Int) (xss : List (List Int)) (xs : List Int) : ChM := if Valid st tot xss then if OrdL xss.length xs then ⟨st, tot, mat xss.length (renF xss xs), 0⟩ else mErr 2 else mErr 1
theorem renM_small (st tot : Int) (xss : List (List Int)) (xs : List Int) : Small (renM st tot xss xs).xss := by
  unfold renM
  split
  · rename_i hv
    have := hv.nat
    split
    · exact mat_small _ (by omega) _
    · exact mErr_small _
  · exact mErr_small _
theorem dec_congr {p q : Prop} {dp : Decidable p} {dq : Decidable q} (h : p ↔ q) : some (Value.bool (@decide p dp)) = some (Value.bool (@decide q dq)) := by
  by_cases hp : p
  · rw [decide_eq_true hp, decide_eq_true (h.1 hp)]
  · rw [decide_eq_false hp, decide_eq_false (fun e => hp (h.2 e))]
theorem mem_take_succ {xs : List Int} {k : Nat} (hk : k < xs.length) (x : Int) : x ∈ xs.take (k + 1) ↔ x ∈ xs.take k ∨ x = xs.getD k 0 := by
  rw [take_succ_getD 0 _ _ hk]; simp

theorem l00Has_c (v : Value) (xs : List Int) (x : Int) (w : World) (hx : RdE (Value.int .i64) 0 w v xs) : Ret Try.prog 118 [v, .int .i64 x] w (.bool (decide (x ∈ xs))) := by
  refine calls_hw Try.func118 Try.ntmps118 rfl rfl ?_
  have hs := hx.sl
  have hle := hs.le
  repeat' (first | refine hl_a ?_ | refine hq_a ?_ | refine hl_nil ?_ | refine hq_nil ?_ | refine hq_ga ?_ | refine hq_sk ?_ | refine hq_su ?_ | refine hq_gT ?_ | refine hq_gF ?_ | refine hq_gd (fun h => ?_) (fun h => ?_) | refine hl_ga ?_ | refine hl_sk ?_ | refine hl_su ?_ | refine hl_gT ?_ | refine hl_gF ?_ | refine hl_gd (fun h => ?_) (fun h => ?_) | refine hx_next ?_ | refine hw_seq ?_ | refine hw_region ?_ | refine hw_dr ?_ | refine hw_block ?_ | refine hx_block ?_ | refine hw_tt ?_ | refine hw_ff ?_ | refine hw_iT ?_ | refine hw_iF ?_ | refine hw_skip ?_ | refine hw_ret ?_ | refine hw_exit ?_ | refine hx_then_ret ?_ | refine hx_block_ret ?_ | refine hx_then_exit ?_ | refine hx_block_here ?_ | refine hx_far ?_ | refine hx_any ?_ | (apply ha_end; decide +kernel))
  refine hw_loop (fun e r m => r = [] ∧ ∃ k : Nat, k ≤ xs.length ∧ m = xs.length - k ∧ e = [(0, v), (1, .int .i64 x), (5, .int .i64 k)] ∧ ∀ i, i < k → xs.getD i 0 ≠ x)
    ⟨rfl, 0, Nat.zero_le _, rfl, rfl, by omega⟩ ⟨rfl, rfl, rfl, trivial⟩ ?_
  rintro _ _ _ ⟨rfl, k, hk, rfl, rfl, hall⟩
  repeat' (first | refine hl_a ?_ | refine hq_a ?_ | refine hl_nil ?_ | refine hq_nil ?_ | refine hq_ga ?_ | refine hq_sk ?_ | refine hq_su ?_ | refine hq_gT ?_ | refine hq_gF ?_ | refine hq_gd (fun h => ?_) (fun h => ?_) | refine hl_ga ?_ | refine hl_sk ?_ | refine hl_su ?_ | refine hl_gT ?_ | refine hl_gF ?_ | refine hl_gd (fun h => ?_) (fun h => ?_) | refine hx_next ?_ | refine hw_seq ?_ | refine hw_region ?_ | refine hw_dr ?_ | refine hw_block ?_ | refine hx_block ?_ | refine hw_tt ?_ | refine hw_ff ?_ | refine hw_iT ?_ | refine hw_iF ?_ | refine hw_skip ?_ | refine hw_ret ?_ | refine hw_exit ?_ | refine hx_then_ret ?_ | refine hx_block_ret ?_ | refine hx_then_exit ?_ | refine hx_block_here ?_ | refine hx_far ?_ | refine hx_any ?_ | (apply ha_end; decide +kernel))
  refine hw_if rfl (fun hlt => ?_) (fun hge => ?_)
  · have hk2 : k < xs.length := by omega
    have hc := hx.get k hk2
    repeat' (first | refine hl_a ?_ | refine hq_a ?_ | refine hl_nil ?_ | refine hq_nil ?_ | refine hq_ga ?_ | refine hq_sk ?_ | refine hq_su ?_ | refine hq_gT ?_ | refine hq_gF ?_ | refine hq_gd (fun h => ?_) (fun h => ?_) | refine hl_ga ?_ | refine hl_sk ?_ | refine hl_su ?_ | refine hl_gT ?_ | refine hl_gF ?_ | refine hl_gd (fun h => ?_) (fun h => ?_) | refine hx_next ?_ | refine hw_seq ?_ | refine hw_region ?_ | refine hw_dr ?_ | refine hw_block ?_ | refine hx_block ?_ | refine hw_tt ?_ | refine hw_ff ?_ | refine hw_iT ?_ | refine hw_iF ?_ | refine hw_skip ?_ | refine hw_ret ?_ | refine hw_exit ?_ | refine hx_then_ret ?_ | refine hx_block_ret ?_ | refine hx_then_exit ?_ | refine hx_block_here ?_ | refine hx_far ?_ | refine hx_any ?_ | (apply ha_end; decide +kernel))
    refine hw_if rfl (fun h => ?_) (fun h => ?_)
    · repeat' (first | refine hl_a ?_ | refine hq_a ?_ | refine hl_nil ?_ | refine hq_nil ?_ | refine hq_ga ?_ | refine hq_sk ?_ | refine hq_su ?_ | refine hq_gT ?_ | refine hq_gF ?_ | refine hq_gd (fun h => ?_) (fun h => ?_) | refine hl_ga ?_ | refine hl_sk ?_ | refine hl_su ?_ | refine hl_gT ?_ | refine hl_gF ?_ | refine hl_gd (fun h => ?_) (fun h => ?_) | refine hx_next ?_ | refine hw_seq ?_ | refine hw_region ?_ | refine hw_dr ?_ | refine hw_block ?_ | refine hx_block ?_ | refine hw_tt ?_ | refine hw_ff ?_ | refine hw_iT ?_ | refine hw_iF ?_ | refine hw_skip ?_ | refine hw_ret ?_ | refine hw_exit ?_ | refine hx_then_ret ?_ | refine hx_block_ret ?_ | refine hx_then_exit ?_ | refine hx_block_here ?_ | refine hx_far ?_ | refine hx_any ?_ | (apply ha_end; decide +kernel))
      refine hx_ret1 rfl rfl (fun w hm => ⟨?_, hm.none⟩)
      rw [decide_eq_true (h ▸ getD_mem hk2)]
    · repeat' (first | refine hl_a ?_ | refine hq_a ?_ | refine hl_nil ?_ | refine hq_nil ?_ | refine hq_ga ?_ | refine hq_sk ?_ | refine hq_su ?_ | refine hq_gT ?_ | refine hq_gF ?_ | refine hq_gd (fun h => ?_) (fun h => ?_) | refine hl_ga ?_ | refine hl_sk ?_ | refine hl_su ?_ | refine hl_gT ?_ | refine hl_gF ?_ | refine hl_gd (fun h => ?_) (fun h => ?_) | refine hx_next ?_ | refine hw_seq ?_ | refine hw_region ?_ | refine hw_dr ?_ | refine hw_block ?_ | refine hx_block ?_ | refine hw_tt ?_ | refine hw_ff ?_ | refine hw_iT ?_ | refine hw_iF ?_ | refine hw_skip ?_ | refine hw_ret ?_ | refine hw_exit ?_ | refine hx_then_ret ?_ | refine hx_block_ret ?_ | refine hx_then_exit ?_ | refine hx_block_here ?_ | refine hx_far ?_ | refine hx_any ?_ | (apply ha_end; decide +kernel))
      refine hx_round ⟨rfl, k + 1, hk2, rfl, rfl, ?_⟩ (by omega) ⟨rfl, rfl, rfl, trivial⟩
      intro i hi
      by_cases e : i = k
      · subst e; exact h
      · exact hall i (by omega)
  · repeat' (first | refine hl_a ?_ | refine hq_a ?_ | refine hl_nil ?_ | refine hq_nil ?_ | refine hq_ga ?_ | refine hq_sk ?_ | refine hq_su ?_ | refine hq_gT ?_ | refine hq_gF ?_ | refine hq_gd (fun h => ?_) (fun h => ?_) | refine hl_ga ?_ | refine hl_sk ?_ | refine hl_su ?_ | refine hl_gT ?_ | refine hl_gF ?_ | refine hl_gd (fun h => ?_) (fun h => ?_) | refine hx_next ?_ | refine hw_seq ?_ | refine hw_region ?_ | refine hw_dr ?_ | refine hw_block ?_ | refine hx_block ?_ | refine hw_tt ?_ | refine hw_ff ?_ | refine hw_iT ?_ | refine hw_iF ?_ | refine hw_skip ?_ | refine hw_ret ?_ | refine hw_exit ?_ | refine hx_then_ret ?_ | refine hx_block_ret ?_ | refine hx_then_exit ?_ | refine hx_block_here ?_ | refine hx_far ?_ | refine hx_any ?_ | (apply ha_end; decide +kernel))
    refine hx_ret1 rfl rfl (fun w hm => ⟨?_, hm.none⟩)
    rw [decide_eq_false (fun e => by obtain ⟨i, hi, he⟩ := mem_getD e; exact hall i (by omega) he)]
end Go.Proofs.Ytgeidbjcphjbiaa
