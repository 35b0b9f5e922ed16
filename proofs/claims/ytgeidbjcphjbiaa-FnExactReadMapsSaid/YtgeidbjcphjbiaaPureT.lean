/- Texts of numbers: decimals, words, lines; what is read back from them. -/
import Derived.Test.YtgeidbjcphjbiaaPureM
import Derived.Test.YtgeidbjcphjbiaaF2
namespace Go.Proofs.Ytgeidbjcphjbiaa
open Go.Eng
set_option linter.unusedVariables false

/-- A digit. -/
def dig (d : Nat) : UInt8 := UInt8.ofNat (48 + d)
theorem dig_toNat {d : Nat} (h : d < 10) : (dig d).toNat = 48 + d := by
  unfold dig; simp; omega
/-- A number in decimal. -/
def dec (n : Nat) : List UInt8 := if h : n < 10 then [dig n] else dec (n / 10) ++ [dig (n % 10)]
termination_by n
theorem dec_lt {n : Nat} (h : n < 10) : dec n = [dig n] := by rw [dec]; simp [h]
theorem dec_ge {n : Nat} (h : 10 ≤ n) : dec n = dec (n / 10) ++ [dig (n % 10)] := by rw [dec]; simp [show ¬ n < 10 by omega]
def decI (n : Int) : List UInt8 := if n < 0 then 45 :: dec n.natAbs else dec n.natAbs
theorem decI_nat (n : Nat) : decI (n : Int) = dec n := by
  unfold decI; rw [if_neg (by omega)]; simp
def isDig (c : UInt8) : Prop := 48 ≤ c.toNat ∧ c.toNat ≤ 57
instance (c : UInt8) : Decidable (isDig c) := by unfold isDig; infer_instance
theorem dig_is {d : Nat} (h : d < 10) : isDig (dig d) := by unfold isDig; rw [dig_toNat h]; omega
theorem dec_pos : ∀ n, 0 < (dec n).length := fun n => by
  by_cases h : n < 10
  · rw [dec_lt h]; simp
  · rw [dec_ge (by omega)]; simp
theorem dec_dig : ∀ n, ∀ c ∈ dec n, isDig c := by
  intro n
  induction n using Nat.strongRecOn with
  | ind n ih =>
    intro c hc
    by_cases h : n < 10
    · rw [dec_lt h] at hc; simp at hc; subst hc; exact dig_is h
    · rw [dec_ge (by omega), List.mem_append] at hc
      rcases hc with hc | hc
      · exact ih _ (by omega) c hc
      · simp at hc; subst hc; exact dig_is (by omega)
theorem dec_len : ∀ k n, n < 10 ^ (k + 1) → (dec n).length ≤ k + 1
  | 0, n, h => by rw [dec_lt (by simpa using h)]; simp
  | k + 1, n, h => by
    by_cases h1 : n < 10
    · rw [dec_lt h1]; simp
    · rw [dec_ge (by omega)]
      have := dec_len k (n / 10) (by rw [Nat.pow_succ] at h; omega)
      simp; omega
/-- The number of digits. -/
def valD (s : List UInt8) : Nat := s.foldl (fun n c => 10 * n + (c.toNat - 48)) 0
theorem valD_snoc (s : List UInt8) (c : UInt8) : valD (s ++ [c]) = 10 * valD s + (c.toNat - 48) := by simp [valD]
theorem valD_dec : ∀ n, valD (dec n) = n := by
  intro n
  induction n using Nat.strongRecOn with
  | ind n ih =>
    by_cases h : n < 10
    · rw [dec_lt h]; simp [valD, dig_toNat h]
    · rw [dec_ge (by omega), valD_snoc, ih _ (by omega), dig_toNat (by omega)]; omega
theorem valD_lt : ∀ (s : List UInt8), (∀ c ∈ s, isDig c) → valD s < 10 ^ s.length := by
  intro s
  have key : ∀ (r : List UInt8), (∀ c ∈ r, isDig c) → valD r.reverse < 10 ^ r.length := by
    intro r
    induction r with
    | nil => intro _; simp [valD]
    | cons c r ih =>
      intro h
      have h1 := ih (fun c hc => h c (by simp [hc]))
      have h2 := h c (by simp)
      unfold isDig at h2
      rw [List.reverse_cons, valD_snoc, List.length_cons, Nat.pow_succ]
      omega
  intro h
  have := key s.reverse (by simpa using h)
  simpa using this

/-- The words of a text. -/
def splitL (by' : UInt8) : List UInt8 → List (List UInt8)
  | [] => [[]]
  | c :: s => if c = by' then [] :: splitL by' s else match splitL by' s with
    | h :: t => (c :: h) :: t
    | [] => [[c]]
theorem splitL_ne (b : UInt8) : ∀ s, splitL b s ≠ []
  | [] => by simp [splitL]
  | c :: s => by
    unfold splitL
    split
    · simp
    · split <;> simp
theorem splitL_cut (b : UInt8) : ∀ (s r : List UInt8), b ∉ s → splitL b (s ++ b :: r) = s :: splitL b r
  | [], r, _ => by simp [splitL]
  | c :: s, r, h => by
    have h1 : c ≠ b := fun e => h (by simp [e])
    have h2 := splitL_cut b s r (fun e => h (by simp [e]))
    simp [splitL, h1, h2]
theorem splitL_last (b : UInt8) : ∀ (s : List UInt8), b ∉ s → splitL b s = [s]
  | [], _ => by simp [splitL]
  | c :: s, h => by
    have h1 : c ≠ b := fun e => h (by simp [e])
    have h2 := splitL_last b s (fun e => h (by simp [e]))
    simp [splitL, h1, h2]
theorem splitL_len (b : UInt8) : ∀ s, (splitL b s).length ≤ s.length + 1
  | [] => by simp [splitL]
  | c :: s => by
    have := splitL_len b s
    unfold splitL
    split
    · simp; omega
    · split
      · rename_i h t e; rw [e] at this; simp at this ⊢; omega
      · simp
theorem splitL_lens (b : UInt8) : ∀ s, ∀ w ∈ splitL b s, w.length ≤ s.length
  | [], w, h => by simp [splitL] at h; simp [h]
  | c :: s, w, h => by
    have ih := splitL_lens b s
    unfold splitL at h
    split at h
    · rcases List.mem_cons.1 h with h | h
      · simp [h]
      · have := ih w h; simp; omega
    · split at h
      · rename_i hd t e
        rw [e] at ih
        rcases List.mem_cons.1 h with h | h
        · have := ih hd (by simp); simp [h]; exact this
        · have := ih w (by simp [h]); simp; omega
      · simp at h; simp [h]
/-- Pieces, each with the byte behind it. -/
theorem splitL_rows (b : UInt8) : ∀ (ls : List (List UInt8)) (r : List UInt8), (∀ s ∈ ls, b ∉ s) → splitL b ((ls.map fun s => s ++ [b]).flatten ++ r) = ls ++ splitL b r
  | [], r, _ => by simp
  | s :: ls, r, h => by
    have h1 := splitL_rows b ls r (fun s hs => h s (by simp [hs]))
    have h2 := splitL_cut b s ((ls.map fun s => s ++ [b]).flatten ++ r) (h s (by simp))
    simp only [List.map_cons, List.flatten_cons, List.append_assoc, List.cons_append, List.nil_append] at h1 h2 ⊢
    rw [h2, h1]
/-- Pieces, each with the byte ahead of it. -/
theorem splitL_words (b : UInt8) : ∀ (ls : List (List UInt8)) (s : List UInt8), b ∉ s → (∀ s ∈ ls, b ∉ s) → splitL b (s ++ (ls.map fun s => b :: s).flatten) = s :: ls
  | [], s, h, _ => by simp [splitL_last b s h]
  | w :: ls, s, h, hl => by
    have h1 := splitL_words b ls w (hl w (by simp)) (fun s hs => hl s (by simp [hs]))
    have h2 := splitL_cut b s (w ++ (ls.map fun s => b :: s).flatten) h
    simp only [List.map_cons, List.flatten_cons, List.cons_append] at h1 h2 ⊢
    rw [h2, h1]

/-! impl's reading of a number -/
def neg45 (s : List UInt8) : Prop := s.head? = some 45
instance (s : List UInt8) : Decidable (neg45 s) := by unfold neg45; infer_instance
def bodyD (s : List UInt8) : List UInt8 := if neg45 s then s.drop 1 else s
def sgnD (s : List UInt8) : Int := if neg45 s then -(valD (bodyD s) : Int) else (valD (bodyD s) : Int)
def OkD (s : List UInt8) : Prop := 1 ≤ (bodyD s).length ∧ (bodyD s).length ≤ 18 ∧ (∀ c ∈ bodyD s, isDig c) ∧ decI (sgnD s) = s
noncomputable instance (s : List UInt8) : Decidable (OkD s) := Classical.propDecidable _
/-- spec's reading: one or two digits, or -1. -/
def OkN (s : List UInt8) : Prop := 1 ≤ s.length ∧ s.length ≤ 2 ∧ ∀ c ∈ s, isDig c
noncomputable instance (s : List UInt8) : Decidable (OkN s) := Classical.propDecidable _
noncomputable def numN (s : List UInt8) : Int := if OkN s then (valD s : Int) else -1
theorem dec_not45 (n : Nat) : ¬ neg45 (dec n) := by
  intro h
  unfold neg45 at h
  have h1 : (45 : UInt8) ∈ dec n := List.mem_of_mem_head? h
  have := dec_dig n _ h1
  revert this; decide
theorem okD_dec {n : Nat} (h : n < 100) : OkD (dec n) ∧ sgnD (dec n) = (n : Int) := by
  have h1 := dec_not45 n
  have hb : bodyD (dec n) = dec n := by unfold bodyD; rw [if_neg h1]
  have hs : sgnD (dec n) = (n : Int) := by unfold sgnD; rw [if_neg h1, hb, valD_dec]
  refine ⟨⟨?_, ?_, ?_, ?_⟩, hs⟩
  · rw [hb]; exact dec_pos n
  · rw [hb]; have := dec_len 1 n (by omega); omega
  · rw [hb]; exact dec_dig n
  · rw [hs, decI_nat]
theorem numN_dec {n : Nat} (h : n < 100) : numN (dec n) = (n : Int) := by
  unfold numN
  rw [if_pos ⟨dec_pos n, dec_len 1 n (by omega), dec_dig n⟩, valD_dec]
theorem dec_no {b : UInt8} (hb : ¬ isDig b) (n : Nat) : b ∉ dec n := fun h => hb (dec_dig n b h)

/-- All numbers of some words. -/
noncomputable def rdAll : List (List UInt8) → Option (List Int)
  | [] => some []
  | w :: ws => if OkD w then (rdAll ws).map (sgnD w :: ·) else none
theorem rdAll_some : ∀ (ws : List (List UInt8)), (∀ w ∈ ws, OkD w) → rdAll ws = some (ws.map sgnD)
  | [], _ => rfl
  | w :: ws, h => by
    rw [rdAll, if_pos (h w (by simp)), rdAll_some ws (fun w hw => h w (by simp [hw]))]; rfl
theorem rdAll_none : ∀ (ws : List (List UInt8)) (w : List UInt8), w ∈ ws → ¬ OkD w → rdAll ws = none
  | v :: ws, w, hw, hn => by
    rw [rdAll]
    rcases List.mem_cons.1 hw with rfl | hw
    · rw [if_neg hn]
    · rw [rdAll_none ws w hw hn]; split <;> rfl
/-- The numbers of a line behind a word. -/
noncomputable def behind (line word : List UInt8) : Option (List Int) := if (splitL 32 line).getD 0 [] ≠ word then none else rdAll ((splitL 32 line).drop 1)
/-- The text of numbers, each with a blank ahead. -/
def numsT (xs : List Int) : List UInt8 := (xs.map fun x => 32 :: decI x).flatten
def Small2 (xs : List Int) : Prop := ∀ x ∈ xs, 0 ≤ x ∧ x < 100
theorem decI_small {x : Int} (h : 0 ≤ x) : decI x = dec x.natAbs := by unfold decI; rw [if_neg (by omega)]
theorem split_nums {word : List UInt8} {xs : List Int} (hw : 32 ∉ word) (hx : Small2 xs) : splitL 32 (word ++ numsT xs) = word :: xs.map decI := by
  have h := splitL_words 32 (xs.map decI) word hw (fun s hs => by
    obtain ⟨x, hx1, rfl⟩ := List.mem_map.1 hs
    rw [decI_small (hx x hx1).1]; exact dec_no (by decide) _)
  rw [List.map_map] at h
  exact h
theorem okD_small {x : Int} (h : 0 ≤ x ∧ x < 100) : OkD (decI x) ∧ sgnD (decI x) = x := by
  rw [decI_small h.1]
  have := okD_dec (n := x.natAbs) (by omega)
  exact ⟨this.1, by rw [this.2]; omega⟩
theorem numN_small {x : Int} (h : 0 ≤ x ∧ x < 100) : numN (decI x) = x := by
  rw [decI_small h.1, numN_dec (by omega)]; omega
theorem behind_nums {word : List UInt8} {xs : List Int} (hw : 32 ∉ word) (hx : Small2 xs) : behind (word ++ numsT xs) word = some xs := by
  unfold behind
  rw [split_nums hw hx]
  simp only [List.getD_cons_zero, ne_eq, not_true, if_false, List.drop_succ_cons, List.drop_zero]
  rw [rdAll_some _ (fun w h => by obtain ⟨x, hx1, rfl⟩ := List.mem_map.1 h; exact (okD_small (hx x hx1)).1), List.map_map]
  congr 1
  have h : ∀ x ∈ xs, (sgnD ∘ decI) x = id x := fun x hx1 => (okD_small (hx x hx1)).2
  rw [List.map_congr_left h, List.map_id]
theorem nums_no10 (word : List UInt8) (hw : 10 ∉ word) (xs : List Int) (hx : Small2 xs) : 10 ∉ word ++ numsT xs := by
  intro h
  rcases List.mem_append.1 h with h | h
  · exact hw h
  · obtain ⟨s, hs, h1⟩ := List.mem_flatten.1 h
    obtain ⟨x, hx1, rfl⟩ := List.mem_map.1 hs
    rcases List.mem_cons.1 h1 with h1 | h1
    · revert h1; decide
    · rw [decI_small (hx x hx1).1] at h1; exact dec_no (by decide) _ h1

/-! the text of a chain -/
def wChain : List UInt8 := [99, 104, 97, 105, 110]
def wFrom : List UInt8 := [102, 114, 111, 109]
def wMaps : List UInt8 := [109, 97, 112, 115]
def wMap : List UInt8 := [109, 97, 112]
def textOf (ls : List (List UInt8)) : List UInt8 := (ls.map fun s => s ++ [10]).flatten
theorem textOf_snoc (ls : List (List UInt8)) (s : List UInt8) : textOf (ls ++ [s]) = textOf ls ++ s ++ [10] := by simp [textOf]
theorem textOf_split {ls : List (List UInt8)} (h : ∀ s ∈ ls, 10 ∉ s) : splitL 10 (textOf ls) = ls ++ [[]] := by
  have := splitL_rows 10 ls [] h
  rw [List.append_nil] at this
  rw [textOf, this]; rfl
theorem textOf_drop (ls : List (List UInt8)) (s : List UInt8) (h : ∀ t ∈ ls ++ [s], 10 ∉ t) : splitL 10 (textOf (ls ++ [s])).dropLast = ls ++ [s] := by
  rw [textOf_snoc, List.dropLast_concat]
  have h1 := splitL_rows 10 ls s (fun t ht => h t (by simp [ht]))
  rw [textOf, h1, splitL_last 10 s (h s (by simp))]
/-- Parts with a text between them. -/
def joinL (sep : List UInt8) : List (List UInt8) → List UInt8
  | [] => []
  | p :: ps => p ++ (ps.map fun q => sep ++ q).flatten
theorem joinL_one (sep p : List UInt8) : joinL sep [p] = p := by simp [joinL]
theorem joinL_snoc (sep : List UInt8) : ∀ (l : List (List UInt8)) (p : List UInt8), l ≠ [] → joinL sep (l ++ [p]) = (joinL sep l ++ sep) ++ p
  | [], p, h => absurd rfl h
  | q :: l, p, _ => by simp [joinL]
theorem joinL_len (sep : List UInt8) (B : Nat) (hs : sep.length ≤ B) : ∀ (l : List (List UInt8)), (∀ p ∈ l, p.length ≤ B) → (joinL sep l).length ≤ l.length * (2 * B)
  | [], _ => by simp [joinL]
  | p :: l, h => by
    have h1 := h p (by simp)
    have key : ∀ (l : List (List UInt8)), (∀ p ∈ l, p.length ≤ B) → ((l.map fun q => sep ++ q).flatten).length ≤ l.length * (2 * B) := by
      intro l
      induction l with
      | nil => intro _; simp
      | cons q l ih =>
        intro hl
        have h2 := hl q (by simp)
        have h3 := ih (fun p hp => hl p (by simp [hp]))
        rw [List.map_cons, List.flatten_cons, List.length_append, List.length_append, List.length_cons, Nat.succ_mul]
        omega
    have h2 := key l (fun p hp => h p (by simp [hp]))
    rw [joinL, List.length_append, List.length_cons, Nat.succ_mul]
    omega
theorem join_blank (word : List UInt8) {xs : List Int} (h : xs ≠ []) : (word ++ [32]) ++ joinL [32] (xs.map decI) = word ++ numsT xs := by
  cases xs with
  | nil => exact absurd rfl h
  | cons x xs => simp [joinL, numsT, List.map_map, Function.comp_def]
theorem decI_len {x : Int} (h : 0 ≤ x ∧ x < 100) : (decI x).length ≤ 2 := by
  rw [decI_small h.1]; exact dec_len 1 _ (by omega)
theorem numsT_len : ∀ {xs : List Int}, Small2 xs → (numsT xs).length ≤ 3 * xs.length
  | [], _ => by simp [numsT]
  | x :: xs, h => by
    have h1 := decI_len (h x (by simp))
    have h2 := numsT_len (xs := xs) (fun y hy => h y (by simp [hy]))
    unfold numsT at h2 ⊢
    rw [List.map_cons, List.flatten_cons, List.length_append, List.length_cons, List.length_cons]
    omega
theorem numsT_snoc (xs : List Int) (x : Int) : numsT (xs ++ [x]) = numsT xs ++ (32 :: decI x) := by simp [numsT]

/-! the digits from the right -/
def digs (r : Nat) : List UInt8 := if r = 0 then [] else dec r
theorem digs_step {r : Nat} (h : 0 < r) : digs r = digs (r / 10) ++ [dig (r % 10)] := by
  unfold digs
  rw [if_neg (by omega)]
  by_cases h1 : r < 10
  · rw [dec_lt h1, if_pos (by omega), Nat.mod_eq_of_lt h1]; rfl
  · rw [dec_ge (by omega), if_neg (by omega)]
theorem digs_pos {r : Nat} (h : 0 < r) : dec r = digs r := by unfold digs; rw [if_neg (by omega)]
end Go.Proofs.Ytgeidbjcphjbiaa
namespace Go.Proofs.Ytgeidbjcphjbiaa
open Go.Eng
set_option linter.unusedVariables false

theorem Valid.small2 {st tot : Int} {xss : List (List Int)} (hv : Valid st tot xss) {i : Nat} (hi : i < xss.length) : Small2 (xss.getD i []) := by
  intro x hx
  obtain ⟨j, hj, rfl⟩ := List.mem_iff_getElem.1 hx
  have h1 := (hv.rows i hi).all j hj
  have h2 := hv.t1
  rw [getD_lt _ _ _ hj] at h1
  omega
theorem Valid.head2 {st tot : Int} {xss : List (List Int)} (hv : Valid st tot xss) : Small2 [st, tot] := by
  have h1 := hv.s1; have h2 := hv.t1
  intro x hx
  simp at hx
  omega
theorem ValidM.small2 {st tot : Int} {ks : List Int} {xss : List (List Int)} (hv : ValidM st tot ks xss) {i : Nat} (hi : i < xss.length) : Small2 (xss.getD i []) := by
  intro x hx
  obtain ⟨j, hj, rfl⟩ := List.mem_iff_getElem.1 hx
  have h1 := (hv.row i hi).all j hj
  have h2 := hv.s1
  rw [getD_lt _ _ _ hj] at h1
  omega
theorem ValidM.head2 {st tot : Int} {ks : List Int} {xss : List (List Int)} (hv : ValidM st tot ks xss) : Small2 [st, tot] := by
  have h1 := hv.s1; have h2 := hv.t1
  intro x hx
  simp at hx
  omega
theorem ValidM.key2 {st tot : Int} {ks : List Int} {xss : List (List Int)} (hv : ValidM st tot ks xss) {i : Nat} (hi : i < xss.length) : 0 ≤ ks.getD i 0 ∧ ks.getD i 0 < 100 := by
  have h1 := hv.key i hi; have h2 := hv.t1
  omega
def lineC (xs : List Int) : List UInt8 := wFrom ++ numsT xs
def linesC (st tot : Int) (xss : List (List Int)) (k : Nat) : List (List UInt8) := (wChain ++ numsT [st, tot]) :: tab k fun i => lineC (xss.getD i [])
def textC (st tot : Int) (xss : List (List Int)) (k : Nat) : List UInt8 := textOf (linesC st tot xss k)
theorem textC_0 (st tot : Int) (xss : List (List Int)) : textC st tot xss 0 = (wChain ++ numsT [st, tot]) ++ [10] := by simp [textC, linesC, tab, textOf]
theorem textC_succ (st tot : Int) (xss : List (List Int)) (k : Nat) : textC st tot xss (k + 1) = textC st tot xss k ++ (lineC (xss.getD k []) ++ [10]) := by
  unfold textC linesC
  rw [tab_succ, ← List.cons_append, textOf_snoc, List.append_assoc]
theorem textC_len {st tot : Int} {xss : List (List Int)} (hv : Valid st tot xss) : ∀ k, k ≤ xss.length → (textC st tot xss k).length ≤ 12 + k * 23
  | 0, _ => by
    have := numsT_len hv.head2
    rw [textC_0]; simp [wChain] at this ⊢; omega
  | k + 1, hk => by
    have h1 := textC_len hv k (by omega)
    have h2 := numsT_len (hv.small2 (i := k) (by omega))
    have h3 := (hv.rows k (by omega)).len
    have h4 := hv.s1
    rw [textC_succ, List.length_append, List.length_append, lineC, List.length_append, Nat.succ_mul]
    simp only [wFrom, List.length_cons, List.length_nil] at h2 ⊢
    omega
def lineM (k : Int) (xs : List Int) : List UInt8 := (wMap ++ numsT [k]) ++ ([32, 58] ++ numsT xs)
def linesM (st tot : Int) (ks : List Int) (xss : List (List Int)) (k : Nat) : List (List UInt8) := (wMaps ++ numsT [st, tot]) :: tab k fun i => lineM (ks.getD i 0) (xss.getD i [])
def textM (st tot : Int) (ks : List Int) (xss : List (List Int)) (k : Nat) : List UInt8 := textOf (linesM st tot ks xss k)
theorem textM_0 (st tot : Int) (ks : List Int) (xss : List (List Int)) : textM st tot ks xss 0 = (wMaps ++ numsT [st, tot]) ++ [10] := by simp [textM, linesM, tab, textOf]
theorem textM_succ (st tot : Int) (ks : List Int) (xss : List (List Int)) (k : Nat) : textM st tot ks xss (k + 1) = textM st tot ks xss k ++ (lineM (ks.getD k 0) (xss.getD k []) ++ [10]) := by
  unfold textM linesM
  rw [tab_succ, ← List.cons_append, textOf_snoc, List.append_assoc]
theorem small2_one {x : Int} (h : 0 ≤ x ∧ x < 100) : Small2 [x] := by
  intro y hy; simp at hy; subst hy; exact h
theorem textM_len {st tot : Int} {ks : List Int} {xss : List (List Int)} (hv : ValidM st tot ks xss) : ∀ k, k ≤ xss.length → (textM st tot ks xss k).length ≤ 12 + k * 28
  | 0, _ => by
    have := numsT_len hv.head2
    rw [textM_0]; simp [wMaps] at this ⊢; omega
  | k + 1, hk => by
    have h1 := textM_len hv k (by omega)
    have h2 := numsT_len (hv.small2 (i := k) (by omega))
    have h3 := hv.rlen k (by omega)
    have h4 := hv.s1
    have h5 := numsT_len (small2_one (hv.key2 (i := k) (by omega)))
    rw [textM_succ, List.length_append, List.length_append, lineM, List.length_append, List.length_append, List.length_append, Nat.succ_mul]
    simp only [wMap, List.length_cons, List.length_nil] at h2 h5 ⊢
    omega
end Go.Proofs.Ytgeidbjcphjbiaa
