/- What is read from the text of a chain or of maps. -/
import Derived.Test.YtgeidbjcphjbiaaPureT
import Derived.Test.YtgeidbjcphjbiaaF54
import Derived.Test.YtgeidbjcphjbiaaH5
import Derived.Test.YtgeidbjcphjbiaaH6
namespace Go.Proofs.Ytgeidbjcphjbiaa
open Go.Eng
set_option linter.unusedVariables false

theorem getLast_snoc {α : Type} (l : List α) (x d : α) : (l ++ [x]).getD ((l ++ [x]).length - 1) d = x := by
  simp [List.getD_eq_getElem?_getD]
theorem splitL_mem_drop {b : UInt8} {s : List UInt8} : (splitL b s).drop 1 = (splitL b s).tail := by simp

/-! chains -/
theorem linesC_len (st tot : Int) (xss : List (List Int)) (k : Nat) : (linesC st tot xss k).length = k + 1 := by simp [linesC, tab]
theorem linesC_no10 {st tot : Int} {xss : List (List Int)} (hv : Valid st tot xss) {k : Nat} (hk : k ≤ xss.length) : ∀ s ∈ linesC st tot xss k, 10 ∉ s := by
  intro s hs
  rcases List.mem_cons.1 hs with rfl | hs
  · exact nums_no10 wChain (by decide) _ hv.head2
  · obtain ⟨i, hi, rfl⟩ := List.mem_map.1 hs
    exact nums_no10 wFrom (by decide) _ (hv.small2 (by have := List.mem_range.1 hi; omega))
theorem linesC_0 (st tot : Int) (xss : List (List Int)) (k : Nat) : (linesC st tot xss k).getD 0 [] = wChain ++ numsT [st, tot] := rfl
theorem linesC_s (st tot : Int) (xss : List (List Int)) {k i : Nat} (hi : i < k) : (linesC st tot xss k).getD (i + 1) [] = lineC (xss.getD i []) := by
  unfold linesC
  rw [List.getD_cons_succ, tab_getD _ _ _ _ hi]
theorem behind_C0 {st tot : Int} {xss : List (List Int)} (hv : Valid st tot xss) (k : Nat) : behind ((linesC st tot xss k).getD 0 []) wChain = some [st, tot] := by
  rw [linesC_0]; exact behind_nums (by decide) hv.head2
theorem behind_Cs {st tot : Int} {xss : List (List Int)} (hv : Valid st tot xss) {k i : Nat} (hi : i < k) (hk : k ≤ xss.length) : behind ((linesC st tot xss k).getD (i + 1) []) wFrom = some (xss.getD i []) := by
  rw [linesC_s _ _ _ hi]; exact behind_nums (by decide) (hv.small2 (by omega))
/-- s is the text of this chain. -/
def IsC (s : List UInt8) (st tot : Int) (xss : List (List Int)) : Prop := Valid st tot xss ∧ textC st tot xss xss.length = s
theorem IsC.split {s : List UInt8} {st tot : Int} {xss : List (List Int)} (h : IsC s st tot xss) : splitL 10 s = linesC st tot xss xss.length ++ [[]] := by
  rw [← h.2, textC, textOf_split (linesC_no10 h.1 (Nat.le_refl _))]
theorem IsC.lines {s : List UInt8} {st tot : Int} {xss : List (List Int)} (h : IsC s st tot xss) : linesR s = some (linesC st tot xss xss.length) := by
  have hs1 := h.1.s1
  have hl := h.1.len
  obtain ⟨n, hn⟩ : ∃ n, xss.length = n + 1 := ⟨xss.length - 1, by omega⟩
  have h2 := h.2
  rw [hn, textC_succ, ← List.append_assoc] at h2
  have hno := linesC_no10 h.1 (k := xss.length) (Nat.le_refl _)
  have hne : s ≠ [] := by rw [← h2]; simp
  have hlast : s.getD (s.length - 1) 0 = 10 := by rw [← h2]; exact getLast_snoc _ _ _
  have htake : s.take (s.length - 1) = textC st tot xss n ++ lineC (xss.getD n []) := by
    rw [← h2, ← List.dropLast_eq_take, List.dropLast_concat]
  have hln : linesC st tot xss (n + 1) = linesC st tot xss n ++ [lineC (xss.getD n [])] := by
    unfold linesC; rw [tab_succ]; rfl
  rw [linesR, if_neg hne, if_pos hlast, htake, hn, hln]
  rw [hn, hln] at hno
  have h3 := splitL_rows 10 (linesC st tot xss n) (lineC (xss.getD n [])) (fun t ht => hno t (by simp [ht]))
  have h4 := splitL_last 10 (lineC (xss.getD n [])) (hno _ (by simp))
  rw [h4] at h3
  exact congrArg some h3
theorem IsC.uniq {s : List UInt8} {st tot st' tot' : Int} {xss xss' : List (List Int)} (h : IsC s st tot xss) (h' : IsC s st' tot' xss') : st = st' ∧ tot = tot' ∧ xss = xss' := by
  have e := h.lines.symm.trans h'.lines
  simp only [Option.some.injEq] at e
  have el := congrArg List.length e
  rw [linesC_len, linesC_len] at el
  have el2 : xss.length = xss'.length := by omega
  have e0 := behind_C0 h.1 xss.length
  rw [e, behind_C0 h'.1] at e0
  simp only [Option.some.injEq, List.cons.injEq, and_true] at e0
  refine ⟨e0.1.symm, e0.2.symm, ext_getD [] el2 fun i hi => ?_⟩
  have ei := behind_Cs h.1 hi (Nat.le_refl _)
  rw [e, behind_Cs h'.1 (by omega) (Nat.le_refl _)] at ei
  simp only [Option.some.injEq] at ei
  exact ei.symm
/-- The chain with a text. -/
noncomputable def rcM (s : List UInt8) : ChM :=
  open Classical in if 4000 < s.length then ⟨0, 0, [], 2⟩ else if h : ∃ c : Int × Int × List (List Int), IsC s c.1 c.2.1 c.2.2 then ⟨h.choose.1, h.choose.2.1, h.choose.2.2, 0⟩ else ⟨0, 0, [], 5⟩
theorem rcM_long {s : List UInt8} (h : 4000 < s.length) : rcM s = ⟨0, 0, [], 2⟩ := by rw [rcM, if_pos h]
theorem rcM_ok {s : List UInt8} {st tot : Int} {xss : List (List Int)} (hl : ¬ 4000 < s.length) (h : IsC s st tot xss) : rcM s = ⟨st, tot, xss, 0⟩ := by
  have hex : ∃ c : Int × Int × List (List Int), IsC s c.1 c.2.1 c.2.2 := ⟨(st, tot, xss), h⟩
  rw [rcM, if_neg hl, dif_pos hex]
  obtain ⟨e1, e2, e3⟩ := hex.choose_spec.uniq h
  rw [e1, e2, e3]
theorem rcM_no {s : List UInt8} (hl : ¬ 4000 < s.length) (h : ∀ st tot xss, IsC s st tot xss → False) : rcM s = ⟨0, 0, [], 5⟩ := by
  rw [rcM, if_neg hl, dif_neg (fun ⟨c, hc⟩ => h _ _ _ hc)]
theorem rcM_small (s : List UInt8) : Small (rcM s).xss := by
  by_cases hl : 4000 < s.length
  · rw [rcM_long hl]; exact ⟨by simp, fun i hi => absurd hi (by simp)⟩
  · by_cases h : ∃ c : Int × Int × List (List Int), IsC s c.1 c.2.1 c.2.2
    · obtain ⟨c, hc⟩ := h
      rw [rcM_ok hl hc]
      have h1 := hc.1.s1; have h2 := hc.1.len
      refine ⟨by show c.2.2.length ≤ _; omega, fun i hi => ?_⟩
      have := (hc.1.rows i hi).len
      show (c.2.2.getD i []).length ≤ _
      omega
    · rw [rcM_no hl (fun st tot xss hc => h ⟨(st, tot, xss), hc⟩)]; exact ⟨by simp, fun i hi => absurd hi (by simp)⟩

/-! spec's way to read a chain -/
noncomputable def wordN (line : List UInt8) (i : Nat) : Int := numN ((splitL 32 line ++ [[], []]).getD i [])
noncomputable def rowN (line : List UInt8) : List Int := ((splitL 32 line).drop 1).map numN
def cntC (s : List UInt8) : Nat := min ((splitL 10 s).length - 2) 7
noncomputable def rowsN (s : List UInt8) (k : Nat) : List (List Int) := tab k fun i => rowN ((splitL 10 s).getD (i + 1) [])
theorem map_numN {xs : List Int} (h : Small2 xs) : (xs.map decI).map numN = xs := by
  rw [List.map_map]
  have h1 : ∀ x ∈ xs, (numN ∘ decI) x = id x := fun x hx => numN_small (h x hx)
  rw [List.map_congr_left h1, List.map_id]
theorem rowN_nums {word : List UInt8} {xs : List Int} (hw : 32 ∉ word) (hx : Small2 xs) : rowN (word ++ numsT xs) = xs := by
  unfold rowN
  rw [split_nums hw hx, List.drop_succ_cons, List.drop_zero, map_numN hx]
theorem wordN_1 {word : List UInt8} {a b : Int} (hw : 32 ∉ word) (hx : Small2 [a, b]) : wordN (word ++ numsT [a, b]) 1 = a := by
  unfold wordN
  rw [split_nums hw hx]
  exact numN_small (hx a (by simp))
theorem wordN_2 {word : List UInt8} {a b : Int} (hw : 32 ∉ word) (hx : Small2 [a, b]) : wordN (word ++ numsT [a, b]) 2 = b := by
  unfold wordN
  rw [split_nums hw hx]
  exact numN_small (hx b (by simp))
theorem getD_app_left {α : Type} (l r : List α) (i : Nat) (d : α) (h : i < l.length) : (l ++ r).getD i d = l.getD i d := by
  rw [List.getD_eq_getElem?_getD, List.getD_eq_getElem?_getD, List.getElem?_append_left h]
theorem IsC.cnt {s : List UInt8} {st tot : Int} {xss : List (List Int)} (h : IsC s st tot xss) : cntC s = xss.length := by
  have h1 := h.1.s1; have h2 := h.1.len
  unfold cntC
  rw [h.split, List.length_append, linesC_len]
  simp; omega
theorem IsC.spec {s : List UInt8} {st tot : Int} {xss : List (List Int)} (h : IsC s st tot xss) : wordN ((splitL 10 s).getD 0 []) 1 = st ∧ wordN ((splitL 10 s).getD 0 []) 2 = tot ∧ rowsN s (cntC s) = xss := by
  have hsp := h.split
  have h0 : (splitL 10 s).getD 0 [] = wChain ++ numsT [st, tot] := by
    rw [hsp, getD_app_left _ _ _ _ (by rw [linesC_len]; omega), linesC_0]
  refine ⟨by rw [h0]; exact wordN_1 (by decide) h.1.head2, by rw [h0]; exact wordN_2 (by decide) h.1.head2, ?_⟩
  rw [h.cnt]
  refine ext_getD [] (tab_length _ _) fun i hi => ?_
  have hi2 : i < xss.length := by rwa [rowsN, tab_length] at hi
  unfold rowsN
  rw [tab_getD _ _ _ _ hi2, hsp, getD_app_left _ _ _ _ (by rw [linesC_len]; omega), linesC_s _ _ _ hi2, lineC, rowN_nums (by decide) (h.1.small2 hi2)]
theorem rcM_bad {s : List UInt8} (hl : ¬ 4000 < s.length) (h : ¬ IsC s (wordN ((splitL 10 s).getD 0 []) 1) (wordN ((splitL 10 s).getD 0 []) 2) (rowsN s (cntC s))) : rcM s = ⟨0, 0, [], 5⟩ :=
  rcM_no hl (fun st tot xss hc => h (by obtain ⟨e1, e2, e3⟩ := hc.spec; rw [e1, e2, e3]; exact hc))
end Go.Proofs.Ytgeidbjcphjbiaa
