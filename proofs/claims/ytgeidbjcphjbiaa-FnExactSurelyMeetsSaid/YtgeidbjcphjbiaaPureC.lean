/- Plain laws: sums of tables, squares that are valid chains. -/
import Derived.Test.YtgeidbjcphjbiaaF10
namespace Go.Proofs.Ytgeidbjcphjbiaa
open Go.Eng Go.RowKit
set_option linter.unusedVariables false

theorem tsum_succ (n : Nat) (f : Nat → Int) : (tab (n + 1) f).sum = (tab n f).sum + f n := by rw [tab_succ, List.sum_append]; simp
theorem tsum_zero (n : Nat) : (tab n fun _ => (0 : Int)).sum = 0 := by
  induction n with
  | zero => rfl
  | succ n ih => rw [tsum_succ, ih]; rfl
theorem tsum_add (n : Nat) (f g : Nat → Int) : (tab n fun t => f t + g t).sum = (tab n f).sum + (tab n g).sum := by
  induction n with
  | zero => rfl
  | succ n ih => rw [tsum_succ, tsum_succ, tsum_succ, ih]; omega
theorem tsum_mul (n : Nat) (f : Nat → Int) (c : Int) : (tab n fun t => f t * c).sum = (tab n f).sum * c := by
  induction n with
  | zero => simp [tab]
  | succ n ih => rw [tsum_succ, tsum_succ, ih, Int.add_mul]
theorem tsum_mul' (n : Nat) (f : Nat → Int) (c : Int) : (tab n fun t => c * f t).sum = c * (tab n f).sum := by
  induction n with
  | zero => simp [tab]
  | succ n ih => rw [tsum_succ, tsum_succ, ih, Int.mul_add]
theorem tsum_congr (n : Nat) (f g : Nat → Int) (h : ∀ i, i < n → f i = g i) : (tab n f).sum = (tab n g).sum := by rw [tab_congr n f g h]
theorem tsum_swap (n m : Nat) (f : Nat → Nat → Int) : (tab n fun t => (tab m fun k => f k t).sum).sum = (tab m fun k => (tab n fun t => f k t).sum).sum := by
  induction n with
  | zero =>
    rw [show (tab 0 fun t => (tab m fun k => f k t).sum).sum = 0 from rfl, show (tab m fun k => (tab 0 fun t => f k t).sum).sum = (tab m fun _ => (0 : Int)).sum from rfl, tsum_zero]
  | succ n ih =>
    rw [tsum_succ, ih, ← tsum_add]
    exact tsum_congr _ _ _ fun k _ => (tsum_succ n _).symm
theorem tsum_one (n s : Nat) (c : Int) (hs : s < n) : (tab n fun t => if s = t then c else 0).sum = c := by
  induction n with
  | zero => omega
  | succ n ih =>
    rw [tsum_succ]
    by_cases e : s = n
    · subst e
      rw [if_pos rfl, tsum_congr s _ (fun _ => 0) (fun i hi => by rw [if_neg (by omega)]), tsum_zero]; omega
    · rw [ih (by omega), if_neg e]; omega
theorem tsum_nonneg (n : Nat) (f : Nat → Int) (h : ∀ t, t < n → 0 ≤ f t) : 0 ≤ (tab n f).sum := by
  induction n with
  | zero => simp [tab]
  | succ n ih => rw [tsum_succ]; have := ih (fun t ht => h t (by omega)); have := h n (by omega); omega
theorem tsum_ge (n : Nat) (f : Nat → Int) (h : ∀ t, t < n → 0 ≤ f t) : ∀ t, t < n → f t ≤ (tab n f).sum := by
  induction n with
  | zero => intro t ht; omega
  | succ n ih =>
    intro t ht
    rw [tsum_succ]
    have h0 := tsum_nonneg n f (fun t ht => h t (by omega))
    by_cases e : t = n
    · subst e; omega
    · have := ih (fun t ht => h t (by omega)) t (by omega); have := h n (by omega); omega
theorem tsum_le (n : Nat) (f : Nat → Int) (B : Int) (h : ∀ t, t < n → f t ≤ B) : (tab n f).sum ≤ B * n := by
  induction n with
  | zero => simp [tab]
  | succ n ih => rw [tsum_succ]; have := ih (fun t ht => h t (by omega)); have := h n (by omega); have e : B * ((n + 1 : Nat) : Int) = B * n + B := by rw [Int.natCast_add, Int.mul_add]; simp
                 omega
theorem row_tab (xs : List Int) : tab xs.length (fun t => xs.getD t 0) = xs :=
  ext_getD 0 (tab_length _ _) fun i hi => by rw [tab_length] at hi; rw [tab_getD _ _ _ _ hi]
theorem mul_bd {a b A B : Int} (ha : 0 ≤ a ∧ a ≤ A) (hb : 0 ≤ b ∧ b ≤ B) : 0 ≤ a * b ∧ a * b ≤ A * B :=
  ⟨Int.mul_nonneg ha.1 hb.1, Int.mul_le_mul ha.2 hb.2 hb.1 (by omega)⟩

def cAt (xss : List (List Int)) (s t : Nat) : Int := (xss.getD s []).getD t 0
theorem cAt_mat (n : Nat) (f : Nat → Nat → Int) (s t : Nat) (hs : s < n) (ht : t < n) : cAt (mat n f) s t = f s t := by
  unfold cAt; rw [mat_row _ _ _ hs, tab_getD _ _ _ _ ht]
theorem Valid.nat {st tot : Int} {xss : List (List Int)} (h : Valid st tot xss) : st = (xss.length : Int) ∧ 1 ≤ xss.length ∧ xss.length ≤ 6 := by
  have := h.len; have := h.s1; omega
theorem Valid.rlen {st tot : Int} {xss : List (List Int)} (h : Valid st tot xss) (s : Nat) (hs : s < xss.length) : (xss.getD s []).length = xss.length := by
  have := (h.rows s hs).len; have := h.len; omega
theorem Valid.at {st tot : Int} {xss : List (List Int)} (h : Valid st tot xss) (s t : Nat) (hs : s < xss.length) (ht : t < xss.length) : 0 ≤ cAt xss s t ∧ cAt xss s t ≤ tot ∧ cAt xss s t ≤ 60 := by
  have := (h.rows s hs).all t (by rw [h.rlen s hs]; exact ht); have := h.t1
  unfold cAt; omega
theorem Valid.rsum {st tot : Int} {xss : List (List Int)} (h : Valid st tot xss) (s : Nat) (hs : s < xss.length) : (tab xss.length fun t => cAt xss s t).sum = tot := by
  have h1 := row_tab (xss.getD s [])
  rw [h.rlen s hs] at h1
  have : (tab xss.length fun t => cAt xss s t) = xss.getD s [] := h1
  rw [this]; exact (h.rows s hs).sum
theorem valid_mat (n : Nat) (tot : Int) (f : Nat → Nat → Int) (hn : 1 ≤ n ∧ n ≤ 6) (ht : 1 ≤ tot ∧ tot ≤ 60) (h0 : ∀ s t, s < n → t < n → 0 ≤ f s t) (hs : ∀ s, s < n → (tab n (f s)).sum = tot) : Valid n tot (mat n f) := by
  refine ⟨by omega, ht, by rw [mat_length], fun r hr => ?_⟩
  rw [mat_length] at hr
  rw [mat_row _ _ _ hr]
  refine ⟨by rw [tab_length], fun t ht' => ?_, hs r hr⟩
  rw [tab_length] at ht'
  rw [tab_getD _ _ _ _ ht']
  have := tsum_ge n (f r) (fun t ht => h0 r t hr ht) t ht'
  rw [hs r hr] at this
  exact ⟨h0 r t hr ht', this⟩
theorem Valid.mat_eq {st tot : Int} {xss : List (List Int)} (h : Valid st tot xss) : mat xss.length (cAt xss) = xss :=
  ext_getD [] (mat_length _ _) fun s hs => by
    rw [mat_length] at hs
    rw [mat_row _ _ _ hs]
    have h1 := row_tab (xss.getD s [])
    rw [h.rlen s hs] at h1
    exact h1

/-- One of two chains. -/
def mixF (xss yss : List (List Int)) (tot tot' : Int) (s t : Nat) : Int := cAt xss s t * tot' + cAt yss s t * tot
/-- One behind the other. -/
def thenF (n : Nat) (xss yss : List (List Int)) (s t : Nat) : Int := (tab n fun k => cAt xss s k * cAt yss k t).sum
def stayF (c : Int) (s t : Nat) : Int := if s = t then c else 0

section
variable {st tot st' tot' : Int} {xss yss : List (List Int)}
theorem mix_valid (h : Valid st tot xss) (h' : Valid st' tot' yss) (hl : yss.length = xss.length) : Valid st (2 * tot * tot') (mat xss.length (mixF xss yss tot tot')) ↔ 2 * tot * tot' ≤ 60 := by
  refine ⟨fun hv => hv.t1.2, fun hle => ?_⟩
  obtain ⟨e, h1, h2⟩ := h.nat
  rw [e]
  have ht := h.t1
  have ht' := h'.t1
  have hm := Int.mul_le_mul (show (1 : Int) ≤ 2 * tot by omega) (show (1 : Int) ≤ tot' by omega) (by omega) (by omega)
  refine valid_mat _ _ _ ⟨h1, h2⟩ ⟨by omega, hle⟩ (fun s t hs ht => ?_) (fun s hs => ?_)
  · have a := h.at s t hs ht
    have b := h'.at s t (by omega) (by omega)
    have := mul_bd (A := 60) (B := 60) (a := cAt xss s t) (b := tot') (by omega) (by omega)
    have := mul_bd (A := 60) (B := 60) (a := cAt yss s t) (b := tot) (by omega) (by omega)
    unfold mixF; omega
  · have e1 := h.rsum s hs
    have e2 := h'.rsum s (by omega)
    rw [hl] at e2
    rw [show mixF xss yss tot tot' s = fun t => cAt xss s t * tot' + cAt yss s t * tot from rfl, tsum_add, tsum_mul, tsum_mul, e1, e2, Int.mul_comm tot' tot, Int.mul_assoc]; omega
theorem then_sum (h : Valid st tot xss) (h' : Valid st' tot' yss) (hl : yss.length = xss.length) (s : Nat) (hs : s < xss.length) : (tab xss.length (thenF xss.length xss yss s)).sum = tot * tot' := by
  rw [show thenF xss.length xss yss s = fun t => (tab xss.length fun k => cAt xss s k * cAt yss k t).sum from rfl, tsum_swap, tsum_congr _ _ (fun k => cAt xss s k * tot') (fun k hk => ?_), tsum_mul, h.rsum s hs]
  rw [tsum_mul' _ (fun t => cAt yss k t), ← hl, h'.rsum k (by omega)]
theorem then_nonneg (h : Valid st tot xss) (h' : Valid st' tot' yss) (hl : yss.length = xss.length) (s t : Nat) (hs : s < xss.length) (ht : t < xss.length) : 0 ≤ thenF xss.length xss yss s t :=
  tsum_nonneg _ _ fun k hk => Int.mul_nonneg (h.at s k hs hk).1 (h'.at k t (by omega) (by omega)).1
theorem then_valid (h : Valid st tot xss) (h' : Valid st' tot' yss) (hl : yss.length = xss.length) : Valid st (tot * tot') (mat xss.length (thenF xss.length xss yss)) ↔ tot * tot' ≤ 60 := by
  refine ⟨fun hv => hv.t1.2, fun hle => ?_⟩
  obtain ⟨e, h1, h2⟩ := h.nat
  rw [e]
  have ht := h.t1
  have ht' := h'.t1
  have hm := Int.mul_le_mul (show (1 : Int) ≤ tot by omega) (show (1 : Int) ≤ tot' by omega) (by omega) (by omega)
  exact valid_mat _ _ _ ⟨h1, h2⟩ ⟨by omega, hle⟩ (fun s t hs ht => then_nonneg h h' hl s t hs ht) (fun s hs => then_sum h h' hl s hs)
theorem stay_valid (n : Nat) (hn : 1 ≤ n ∧ n ≤ 6) : Valid n 1 (mat n (stayF 1)) :=
  valid_mat n 1 _ hn ⟨by omega, by omega⟩ (fun s t _ _ => by unfold stayF; split <;> omega) (fun s hs => tsum_one n s 1 hs)
end
end Go.Proofs.Ytgeidbjcphjbiaa
