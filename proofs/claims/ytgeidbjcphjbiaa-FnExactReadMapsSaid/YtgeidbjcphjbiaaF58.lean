/- What is read from the text of maps; contracts: impl's ReadMaps. -/
import Derived.Test.YtgeidbjcphjbiaaPureY
import Derived.Test.YtgeidbjcphjbiaaF34
import Derived.Test.YtgeidbjcphjbiaaF52
namespace Go.Proofs.Ytgeidbjcphjbiaa
open Go.Eng
set_option linter.unusedVariables false

theorem linesR_text {ls : List (List UInt8)} {l : List UInt8} (h : ∀ t ∈ ls ++ [l], 10 ∉ t) : linesR (textOf (ls ++ [l])) = some (ls ++ [l]) := by
  have e : textOf (ls ++ [l]) = (textOf ls ++ l) ++ [10] := textOf_snoc ls l
  have hne : textOf (ls ++ [l]) ≠ [] := by rw [e]; simp
  have hlast : (textOf (ls ++ [l])).getD ((textOf (ls ++ [l])).length - 1) 0 = 10 := by rw [e]; exact getLast_snoc _ _ _
  rw [linesR, if_neg hne, if_pos hlast, ← List.dropLast_eq_take]
  exact congrArg some (textOf_drop ls l h)
theorem linesM_len (st tot : Int) (ks : List Int) (xss : List (List Int)) (k : Nat) : (linesM st tot ks xss k).length = k + 1 := by simp [linesM, tab]
theorem linesM_succ (st tot : Int) (ks : List Int) (xss : List (List Int)) (k : Nat) : linesM st tot ks xss (k + 1) = linesM st tot ks xss k ++ [lineM (ks.getD k 0) (xss.getD k [])] := by
  unfold linesM; rw [tab_succ]; rfl
theorem linesM_no10 {st tot : Int} {ks : List Int} {xss : List (List Int)} (hv : ValidM st tot ks xss) {k : Nat} (hk : k ≤ xss.length) : ∀ s ∈ linesM st tot ks xss k, 10 ∉ s := by
  intro s hs
  rcases List.mem_cons.1 hs with rfl | hs
  · exact nums_no10 wMaps (by decide) _ hv.head2
  · obtain ⟨i, hi, rfl⟩ := List.mem_map.1 hs
    have hi2 : i < xss.length := by have := List.mem_range.1 hi; omega
    intro h
    rcases List.mem_append.1 h with h | h
    · exact nums_no10 wMap (by decide) _ (small2_one (hv.key2 hi2)) h
    · exact nums_no10 [32, 58] (by decide) _ (hv.small2 hi2) h
theorem linesM_0 (st tot : Int) (ks : List Int) (xss : List (List Int)) (k : Nat) : (linesM st tot ks xss k).getD 0 [] = wMaps ++ numsT [st, tot] := rfl
theorem linesM_s (st tot : Int) (ks : List Int) (xss : List (List Int)) {k i : Nat} (hi : i < k) : (linesM st tot ks xss k).getD (i + 1) [] = lineM (ks.getD i 0) (xss.getD i []) := by
  unfold linesM
  rw [List.getD_cons_succ, tab_getD _ _ _ _ hi]
theorem split_M {k : Int} {xs : List Int} (hk : 0 ≤ k ∧ k < 100) (hx : Small2 xs) : splitL 32 (lineM k xs) = wMap :: decI k :: [58] :: xs.map decI := by
  have h := splitL_words 32 (decI k :: [58] :: xs.map decI) wMap (by decide) (fun s hs => by
    rcases List.mem_cons.1 hs with rfl | hs
    · rw [decI_small hk.1]; exact dec_no (by decide) _
    · rcases List.mem_cons.1 hs with rfl | hs
      · decide
      · obtain ⟨x, hx1, rfl⟩ := List.mem_map.1 hs
        rw [decI_small (hx x hx1).1]; exact dec_no (by decide) _)
  rw [← h]
  simp [lineM, numsT, List.map_map, Function.comp_def]
/-- A line that impl reads. -/
def OkL (ws : List (List UInt8)) : Prop := 4 ≤ ws.length ∧ ws.getD 0 [] = wMap ∧ ws.getD 2 [] = [58] ∧ OkD (ws.getD 1 []) ∧ ∀ q ∈ ws.drop 3, OkD q
noncomputable def keyL (ws : List (List UInt8)) : Int := sgnD (ws.getD 1 [])
noncomputable def toL (ws : List (List UInt8)) : List Int := (ws.drop 3).map sgnD
theorem okL_M {k : Int} {xs : List Int} (hk : 0 ≤ k ∧ k < 100) (hx : Small2 xs) (hne : 0 < xs.length) : OkL (splitL 32 (lineM k xs)) ∧ keyL (splitL 32 (lineM k xs)) = k ∧ toL (splitL 32 (lineM k xs)) = xs := by
  rw [split_M hk hx]
  refine ⟨⟨by simp; omega, rfl, rfl, (okD_small hk).1, fun q hq => ?_⟩, (okD_small hk).2, ?_⟩
  · obtain ⟨x, hx1, rfl⟩ := List.mem_map.1 (show q ∈ xs.map decI from hq)
    exact (okD_small (hx x hx1)).1
  · show (xs.map decI).map sgnD = xs
    rw [List.map_map]
    have h1 : ∀ x ∈ xs, (sgnD ∘ decI) x = id x := fun x hx1 => (okD_small (hx x hx1)).2
    rw [List.map_congr_left h1, List.map_id]
noncomputable def keyN (line : List UInt8) : Int := numN ((splitL 32 line ++ [[]]).getD 1 [])
noncomputable def toN (line : List UInt8) : List Int := ((splitL 32 line).drop 3).map numN
theorem keyN_M {k : Int} {xs : List Int} (hk : 0 ≤ k ∧ k < 100) (hx : Small2 xs) : keyN (lineM k xs) = k := by
  unfold keyN; rw [split_M hk hx]; exact numN_small hk
theorem toN_M {k : Int} {xs : List Int} (hk : 0 ≤ k ∧ k < 100) (hx : Small2 xs) : toN (lineM k xs) = xs := by
  unfold toN; rw [split_M hk hx]; exact map_numN hx

/-- s is the text of these maps. -/
def IsM (s : List UInt8) (st tot : Int) (ks : List Int) (xss : List (List Int)) : Prop := ValidM st tot ks xss ∧ ks.length = xss.length ∧ textM st tot ks xss xss.length = s
theorem IsM.split {s : List UInt8} {st tot : Int} {ks : List Int} {xss : List (List Int)} (h : IsM s st tot ks xss) : splitL 10 s = linesM st tot ks xss xss.length ++ [[]] := by
  rw [← h.2.2, textM, textOf_split (linesM_no10 h.1 (Nat.le_refl _))]
theorem IsM.lines {s : List UInt8} {st tot : Int} {ks : List Int} {xss : List (List Int)} (h : IsM s st tot ks xss) : linesR s = some (linesM st tot ks xss xss.length) := by
  have hl := h.1.len
  obtain ⟨n, hn⟩ : ∃ n, xss.length = n + 1 := ⟨xss.length - 1, by omega⟩
  have h2 := h.2.2
  have hno := linesM_no10 h.1 (k := xss.length) (Nat.le_refl _)
  rw [textM, hn, linesM_succ] at h2
  rw [hn, linesM_succ] at hno
  rw [hn, linesM_succ, ← h2, linesR_text hno]
theorem IsM.rlen {s : List UInt8} {st tot : Int} {ks : List Int} {xss : List (List Int)} (h : IsM s st tot ks xss) {i : Nat} (hi : i < xss.length) : 0 < (xss.getD i []).length := by
  have h1 := h.1.rlen i hi
  have h2 := h.1.s1
  omega
theorem IsM.uniq {s : List UInt8} {st tot st' tot' : Int} {ks ks' : List Int} {xss xss' : List (List Int)} (h : IsM s st tot ks xss) (h' : IsM s st' tot' ks' xss') : st = st' ∧ tot = tot' ∧ ks = ks' ∧ xss = xss' := by
  have e := h.lines.symm.trans h'.lines
  simp only [Option.some.injEq] at e
  have el := congrArg List.length e
  rw [linesM_len, linesM_len] at el
  have el2 : xss.length = xss'.length := by omega
  have e0 : behind ((linesM st tot ks xss xss.length).getD 0 []) wMaps = some [st, tot] := behind_nums (by decide) h.1.head2
  have e0' : behind ((linesM st' tot' ks' xss' xss'.length).getD 0 []) wMaps = some [st', tot'] := behind_nums (by decide) h'.1.head2
  rw [e, e0'] at e0
  simp only [Option.some.injEq, List.cons.injEq, and_true] at e0
  have ei : ∀ i, i < xss.length → lineM (ks.getD i 0) (xss.getD i []) = lineM (ks'.getD i 0) (xss'.getD i []) := fun i hi => by
    rw [← linesM_s st tot ks xss hi, e, linesM_s st' tot' ks' xss' (by omega)]
  refine ⟨e0.1.symm, e0.2.symm, ext_getD 0 (by rw [h.2.1, h'.2.1, el2]) fun i hi => ?_, ext_getD [] el2 fun i hi => ?_⟩
  · rw [h.2.1] at hi
    have h1 := keyN_M (h.1.key2 hi) (h.1.small2 hi)
    rw [ei i hi, keyN_M (h'.1.key2 (by omega)) (h'.1.small2 (by omega))] at h1
    exact h1.symm
  · have h1 := toN_M (h.1.key2 hi) (h.1.small2 hi)
    rw [ei i hi, toN_M (h'.1.key2 (by omega)) (h'.1.small2 (by omega))] at h1
    exact h1.symm
/-- The maps with a text. -/
noncomputable def rmM (s : List UInt8) : MpM :=
  open Classical in if 8000 < s.length then pErr 2 else if h : ∃ c : Int × Int × List Int × List (List Int), IsM s c.1 c.2.1 c.2.2.1 c.2.2.2 then ⟨h.choose.1, h.choose.2.1, h.choose.2.2.1, h.choose.2.2.2, 0⟩ else pErr 5
theorem rmM_long {s : List UInt8} (h : 8000 < s.length) : rmM s = pErr 2 := by rw [rmM, if_pos h]
theorem rmM_ok {s : List UInt8} {st tot : Int} {ks : List Int} {xss : List (List Int)} (hl : ¬ 8000 < s.length) (h : IsM s st tot ks xss) : rmM s = ⟨st, tot, ks, xss, 0⟩ := by
  have hex : ∃ c : Int × Int × List Int × List (List Int), IsM s c.1 c.2.1 c.2.2.1 c.2.2.2 := ⟨(st, tot, ks, xss), h⟩
  rw [rmM, if_neg hl, dif_pos hex]
  obtain ⟨e1, e2, e3, e4⟩ := hex.choose_spec.uniq h
  rw [e1, e2, e3, e4]
theorem rmM_no {s : List UInt8} (hl : ¬ 8000 < s.length) (h : ∀ st tot ks xss, IsM s st tot ks xss → False) : rmM s = pErr 5 := by
  rw [rmM, if_neg hl, dif_neg (fun ⟨c, hc⟩ => h _ _ _ _ hc)]
theorem rmM_cases (s : List UInt8) : (∃ c, rmM s = pErr c) ∨ ∃ st tot ks xss, IsM s st tot ks xss ∧ rmM s = ⟨st, tot, ks, xss, 0⟩ := by
  by_cases hl : 8000 < s.length
  · exact .inl ⟨2, rmM_long hl⟩
  · by_cases h : ∃ c : Int × Int × List Int × List (List Int), IsM s c.1 c.2.1 c.2.2.1 c.2.2.2
    · obtain ⟨c, hc⟩ := h
      exact .inr ⟨_, _, _, _, hc, rmM_ok hl hc⟩
    · exact .inl ⟨5, rmM_no hl (fun st tot ks xss hc => h ⟨(st, tot, ks, xss), hc⟩)⟩
theorem rmM_small (s : List UInt8) : Small (rmM s).xss := by
  rcases rmM_cases s with ⟨c, h⟩ | ⟨st, tot, ks, xss, hc, h⟩
  · rw [h]; exact pErr_small c
  · rw [h]
    have h1 := hc.1.s1; have h2 := hc.1.len
    refine ⟨by show xss.length ≤ _; omega, fun i hi => ?_⟩
    have := hc.1.rlen i hi
    show (xss.getD i []).length ≤ _
    omega
theorem rmM_len (s : List UInt8) : (rmM s).ks.length = (rmM s).xss.length := by
  rcases rmM_cases s with ⟨c, h⟩ | ⟨st, tot, ks, xss, hc, h⟩
  · rw [h]; rfl
  · rw [h]; exact hc.2.1

/-! impl's way -/
noncomputable def keysL (L : List (List UInt8)) (k : Nat) : List Int := tab k fun i => keyL (splitL 32 ((L.drop 1).getD i []))
noncomputable def rowsL (L : List (List UInt8)) (k : Nat) : List (List Int) := tab k fun i => toL (splitL 32 ((L.drop 1).getD i []))
theorem IsM.parse {s : List UInt8} {st tot : Int} {ks : List Int} {xss : List (List Int)} {L : List (List UInt8)} (h : IsM s st tot ks xss) (hL : linesR s = some L) : behind (L.getD 0 []) wMaps = some [st, tot] ∧ L.length = xss.length + 1 ∧ ∀ i, i < xss.length → (L.drop 1).getD i [] = lineM (ks.getD i 0) (xss.getD i []) := by
  have e := h.lines
  rw [hL] at e
  simp only [Option.some.injEq] at e
  subst e
  refine ⟨behind_nums (by decide) h.1.head2, linesM_len _ _ _ _ _, fun i hi => ?_⟩
  rw [← linesM_s st tot ks xss hi]
  simp [List.getD_eq_getElem?_getD, Nat.add_comm]
theorem IsM.okL {s : List UInt8} {st tot : Int} {ks : List Int} {xss : List (List Int)} {L : List (List UInt8)} (h : IsM s st tot ks xss) (hL : linesR s = some L) {i : Nat} (hi : i < L.length - 1) : OkL (splitL 32 ((L.drop 1).getD i [])) := by
  obtain ⟨h1, h2, h3⟩ := h.parse hL
  have hi2 : i < xss.length := by omega
  rw [h3 i hi2]
  exact (okL_M (h.1.key2 hi2) (h.1.small2 hi2) (h.rlen hi2)).1
theorem IsM.lists {s : List UInt8} {st tot : Int} {ks : List Int} {xss : List (List Int)} {L : List (List UInt8)} (h : IsM s st tot ks xss) (hL : linesR s = some L) : keysL L (L.length - 1) = ks ∧ rowsL L (L.length - 1) = xss := by
  obtain ⟨h1, h2, h3⟩ := h.parse hL
  have hk := h.2.1
  constructor
  · refine ext_getD 0 (by rw [keysL, tab_length]; omega) fun i hi => ?_
    rw [keysL, tab_length] at hi
    have hi2 : i < xss.length := by omega
    rw [keysL, tab_getD _ _ _ _ hi, h3 i hi2]
    exact (okL_M (h.1.key2 hi2) (h.1.small2 hi2) (h.rlen hi2)).2.1
  · refine ext_getD [] (by rw [rowsL, tab_length]; omega) fun i hi => ?_
    rw [rowsL, tab_length] at hi
    have hi2 : i < xss.length := by omega
    rw [rowsL, tab_getD _ _ _ _ hi, h3 i hi2]
    exact (okL_M (h.1.key2 hi2) (h.1.small2 hi2) (h.rlen hi2)).2.2

/-! spec's way -/
def cntM (s : List UInt8) : Nat := min ((splitL 10 s).length - 2) 61
noncomputable def keysN (s : List UInt8) (k : Nat) : List Int := tab k fun i => keyN ((splitL 10 s).getD (i + 1) [])
noncomputable def rowsNM (s : List UInt8) (k : Nat) : List (List Int) := tab k fun i => toN ((splitL 10 s).getD (i + 1) [])
theorem IsM.cnt {s : List UInt8} {st tot : Int} {ks : List Int} {xss : List (List Int)} (h : IsM s st tot ks xss) : cntM s = xss.length := by
  have h2 := h.1.len
  unfold cntM
  rw [h.split, List.length_append, linesM_len]
  simp only [List.length_cons, List.length_nil]; omega
theorem IsM.spec {s : List UInt8} {st tot : Int} {ks : List Int} {xss : List (List Int)} (h : IsM s st tot ks xss) : wordN ((splitL 10 s).getD 0 []) 1 = st ∧ wordN ((splitL 10 s).getD 0 []) 2 = tot ∧ keysN s (cntM s) = ks ∧ rowsNM s (cntM s) = xss := by
  have hsp := h.split
  have hk := h.2.1
  have h0 : (splitL 10 s).getD 0 [] = wMaps ++ numsT [st, tot] := by
    rw [hsp, getD_app_left _ _ _ _ (by rw [linesM_len]; omega), linesM_0]
  have hi : ∀ i, i < xss.length → (splitL 10 s).getD (i + 1) [] = lineM (ks.getD i 0) (xss.getD i []) := fun i hi => by
    rw [hsp, getD_app_left _ _ _ _ (by rw [linesM_len]; omega), linesM_s _ _ _ _ hi]
  refine ⟨by rw [h0]; exact wordN_1 (by decide) h.1.head2, by rw [h0]; exact wordN_2 (by decide) h.1.head2, ?_, ?_⟩
  · rw [h.cnt]
    refine ext_getD 0 (by rw [keysN, tab_length]; omega) fun i hi1 => ?_
    rw [keysN, tab_length] at hi1
    rw [keysN, tab_getD _ _ _ _ hi1, hi i hi1, keyN_M (h.1.key2 hi1) (h.1.small2 hi1)]
  · rw [h.cnt]
    refine ext_getD [] (by rw [rowsNM, tab_length]) fun i hi1 => ?_
    rw [rowsNM, tab_length] at hi1
    rw [rowsNM, tab_getD _ _ _ _ hi1, hi i hi1, toN_M (h.1.key2 hi1) (h.1.small2 hi1)]
theorem rmM_bad {s : List UInt8} (hl : ¬ 8000 < s.length) (h : ¬ IsM s (wordN ((splitL 10 s).getD 0 []) 1) (wordN ((splitL 10 s).getD 0 []) 2) (keysN s (cntM s)) (rowsNM s (cntM s))) : rmM s = pErr 5 :=
  rmM_no hl (fun st tot ks xss hc => h (by obtain ⟨e1, e2, e3, e4⟩ := hc.spec; rw [e1, e2, e3, e4]; exact hc))
end Go.Proofs.Ytgeidbjcphjbiaa
namespace Go.Proofs.Ytgeidbjcphjbiaa
open Go.Eng Go.RowKit
set_option linter.unusedVariables false

set_option maxHeartbeats 4000000 in
theorem implReadMaps_c (s : List UInt8) (w : World) : Gives Try.prog 42 [sV s] w (MpOut 115 2 (rmM s)) := by
  refine calls_hw Try.func42 Try.ntmps42 rfl rfl ?_
  repeat' (first | refine hl_a ?_ | refine hq_a ?_ | refine hl_nil ?_ | refine hq_nil ?_ | refine hq_ga ?_ | refine hq_sk ?_ | refine hq_su ?_ | refine hq_gT ?_ | refine hq_gF ?_ | refine hq_gd (fun h => ?_) (fun h => ?_) | refine hl_ga ?_ | refine hl_sk ?_ | refine hl_su ?_ | refine hl_gT ?_ | refine hl_gF ?_ | refine hl_gd (fun h => ?_) (fun h => ?_) | refine hx_next ?_ | refine hw_seq ?_ | refine hw_region ?_ | refine hw_block ?_ | refine hx_block ?_ | refine hw_tt ?_ | refine hw_ff ?_ | refine hw_iT ?_ | refine hw_iF ?_ | refine hw_skip ?_ | refine hw_ret ?_ | refine hw_exit ?_ | refine hx_then_ret ?_ | refine hx_block_ret ?_ | refine hx_then_exit ?_ | refine hx_block_here ?_ | refine hx_far ?_ | refine hx_any ?_ | (apply ha_end; decide +kernel))
  refine hl_alloc (by decide) (fun b0 => ?_)
  rcases Classical.em (8000 < s.length) with hl | hl
  · have hl' : (8000 : Int) < (s.length : Int) := by omega
    repeat' (first | refine hl_a ?_ | refine hq_a ?_ | refine hl_nil ?_ | refine hq_nil ?_ | refine hq_ga ?_ | refine hq_sk ?_ | refine hq_su ?_ | refine hq_gT ?_ | refine hq_gF ?_ | refine hq_gd (fun h => ?_) (fun h => ?_) | refine hl_ga ?_ | refine hl_sk ?_ | refine hl_su ?_ | refine hl_gT ?_ | refine hl_gF ?_ | refine hl_gd (fun h => ?_) (fun h => ?_) | refine hx_next ?_ | refine hw_seq ?_ | refine hw_region ?_ | refine hw_dr ?_ | refine hw_block ?_ | refine hx_block ?_ | refine hw_tt ?_ | refine hw_ff ?_ | refine hw_iT ?_ | refine hw_iF ?_ | refine hw_skip ?_ | refine hw_ret ?_ | refine hw_exit ?_ | refine hx_then_ret ?_ | refine hx_block_ret ?_ | refine hx_then_exit ?_ | refine hx_block_here ?_ | refine hx_far ?_ | refine hx_any ?_ | (apply ha_end; decide +kernel) | (apply hl_q; decide; (first | exact q_bld [] #[.int .i64 0, .int .i64 0, .slice none 0 0] rfl (by kernel_rfl) | (apply q_neS; rfl; rfl) | (apply q_lenS; rfl))) | (apply hq_q; decide; (first | exact q_bld [] #[.int .i64 0, .int .i64 0, .slice none 0 0] rfl (by kernel_rfl) | (apply q_neS; rfl; rfl) | (apply q_lenS; rfl))) | (apply hq_g; rfl; rfl; decide; (first | exact q_bld [] #[.int .i64 0, .int .i64 0, .slice none 0 0] rfl (by kernel_rfl) | (apply q_neS; rfl; rfl) | (apply q_lenS; rfl))) | (apply hl_g; rfl; rfl; decide; (first | exact q_bld [] #[.int .i64 0, .int .i64 0, .slice none 0 0] rfl (by kernel_rfl) | (apply q_neS; rfl; rfl) | (apply q_lenS; rfl))))
    refine hl_storeA 0 rfl rfl rfl rfl rfl (chV_one nil_ok) ?_
    repeat' (first | refine hl_a ?_ | refine hq_a ?_ | refine hl_nil ?_ | refine hq_nil ?_ | refine hq_ga ?_ | refine hq_sk ?_ | refine hq_su ?_ | refine hq_gT ?_ | refine hq_gF ?_ | refine hq_gd (fun h => ?_) (fun h => ?_) | refine hl_ga ?_ | refine hl_sk ?_ | refine hl_su ?_ | refine hl_gT ?_ | refine hl_gF ?_ | refine hl_gd (fun h => ?_) (fun h => ?_) | refine hx_next ?_ | refine hw_seq ?_ | refine hw_region ?_ | refine hw_dr ?_ | refine hw_block ?_ | refine hx_block ?_ | refine hw_tt ?_ | refine hw_ff ?_ | refine hw_iT ?_ | refine hw_iF ?_ | refine hw_skip ?_ | refine hw_ret ?_ | refine hw_exit ?_ | refine hx_then_ret ?_ | refine hx_block_ret ?_ | refine hx_then_exit ?_ | refine hx_block_here ?_ | refine hx_far ?_ | refine hx_any ?_ | (apply ha_end; decide +kernel))
    exact hx_retBt 0 rfl rfl rfl rfl rfl (fun w hm => ⟨_, _, rfl, maps_nil 115 2 hm.none, by rw [rmM_long hl]; exact mpErr _ _ _ rfl⟩)
  have hl' : ¬ (8000 : Int) < (s.length : Int) := by omega
  rcases Nat.lt_or_ge 10000 s.length with hbig | hbig
  · exact absurd hbig (by omega)
  repeat' (first | refine hl_a ?_ | refine hq_a ?_ | refine hl_nil ?_ | refine hq_nil ?_ | refine hq_ga ?_ | refine hq_sk ?_ | refine hq_su ?_ | refine hq_gT ?_ | refine hq_gF ?_ | refine hq_gd (fun h => ?_) (fun h => ?_) | refine hl_ga ?_ | refine hl_sk ?_ | refine hl_su ?_ | refine hl_gT ?_ | refine hl_gF ?_ | refine hl_gd (fun h => ?_) (fun h => ?_) | refine hx_next ?_ | refine hw_seq ?_ | refine hw_region ?_ | refine hw_dr ?_ | refine hw_block ?_ | refine hx_block ?_ | refine hw_tt ?_ | refine hw_ff ?_ | refine hw_iT ?_ | refine hw_iF ?_ | refine hw_skip ?_ | refine hw_ret ?_ | refine hw_exit ?_ | refine hx_then_ret ?_ | refine hx_block_ret ?_ | refine hx_then_exit ?_ | refine hx_block_here ?_ | refine hx_far ?_ | refine hx_any ?_ | (apply ha_end; decide +kernel) | (apply hl_q; decide; (first | exact q_bld [] #[.int .i64 0, .int .i64 0, .slice none 0 0] rfl (by kernel_rfl) | (apply q_neS; rfl; rfl) | (apply q_lenS; rfl))) | (apply hq_q; decide; (first | exact q_bld [] #[.int .i64 0, .int .i64 0, .slice none 0 0] rfl (by kernel_rfl) | (apply q_neS; rfl; rfl) | (apply q_lenS; rfl))) | (apply hq_g; rfl; rfl; decide; (first | exact q_bld [] #[.int .i64 0, .int .i64 0, .slice none 0 0] rfl (by kernel_rfl) | (apply q_neS; rfl; rfl) | (apply q_lenS; rfl))) | (apply hl_g; rfl; rfl; decide; (first | exact q_bld [] #[.int .i64 0, .int .i64 0, .slice none 0 0] rfl (by kernel_rfl) | (apply q_neS; rfl; rfl) | (apply q_lenS; rfl))))
  obtain ⟨o, ho⟩ : ∃ o, linesR s = o := ⟨_, rfl⟩
  refine hl_call (by decide) (fun w hm => linesIn_c s w hbig) rfl ?_
  rw [ho]
  rintro _ _ ⟨u, rfl, rfl, hu⟩
  cases o with
  | none =>
    have h5 : rmM s = pErr 5 := rmM_no hl (fun st tot ks xss hc => by have := hc.lines; rw [ho] at this; exact absurd this (by simp))
    repeat' (first | refine hl_a ?_ | refine hq_a ?_ | refine hl_nil ?_ | refine hq_nil ?_ | refine hq_ga ?_ | refine hq_sk ?_ | refine hq_su ?_ | refine hq_gT ?_ | refine hq_gF ?_ | refine hq_gd (fun h => ?_) (fun h => ?_) | refine hl_ga ?_ | refine hl_sk ?_ | refine hl_su ?_ | refine hl_gT ?_ | refine hl_gF ?_ | refine hl_gd (fun h => ?_) (fun h => ?_) | refine hx_next ?_ | refine hw_seq ?_ | refine hw_region ?_ | refine hw_dr ?_ | refine hw_block ?_ | refine hx_block ?_ | refine hw_tt ?_ | refine hw_ff ?_ | refine hw_iT ?_ | refine hw_iF ?_ | refine hw_skip ?_ | refine hw_ret ?_ | refine hw_exit ?_ | refine hx_then_ret ?_ | refine hx_block_ret ?_ | refine hx_then_exit ?_ | refine hx_block_here ?_ | refine hx_far ?_ | refine hx_any ?_ | (apply ha_end; decide +kernel) | (apply hl_q; decide; (first | exact q_bld [] #[.int .i64 0, .int .i64 0, .slice none 0 0] rfl (by kernel_rfl) | (apply q_neS; rfl; rfl) | (apply q_lenS; rfl))) | (apply hq_q; decide; (first | exact q_bld [] #[.int .i64 0, .int .i64 0, .slice none 0 0] rfl (by kernel_rfl) | (apply q_neS; rfl; rfl) | (apply q_lenS; rfl))) | (apply hq_g; rfl; rfl; decide; (first | exact q_bld [] #[.int .i64 0, .int .i64 0, .slice none 0 0] rfl (by kernel_rfl) | (apply q_neS; rfl; rfl) | (apply q_lenS; rfl))) | (apply hl_g; rfl; rfl; decide; (first | exact q_bld [] #[.int .i64 0, .int .i64 0, .slice none 0 0] rfl (by kernel_rfl) | (apply q_neS; rfl; rfl) | (apply q_lenS; rfl))))
    refine hl_storeA 0 rfl rfl rfl rfl rfl (chV_one nil_ok) ?_
    repeat' (first | refine hl_a ?_ | refine hq_a ?_ | refine hl_nil ?_ | refine hq_nil ?_ | refine hq_ga ?_ | refine hq_sk ?_ | refine hq_su ?_ | refine hq_gT ?_ | refine hq_gF ?_ | refine hq_gd (fun h => ?_) (fun h => ?_) | refine hl_ga ?_ | refine hl_sk ?_ | refine hl_su ?_ | refine hl_gT ?_ | refine hl_gF ?_ | refine hl_gd (fun h => ?_) (fun h => ?_) | refine hx_next ?_ | refine hw_seq ?_ | refine hw_region ?_ | refine hw_dr ?_ | refine hw_block ?_ | refine hx_block ?_ | refine hw_tt ?_ | refine hw_ff ?_ | refine hw_iT ?_ | refine hw_iF ?_ | refine hw_skip ?_ | refine hw_ret ?_ | refine hw_exit ?_ | refine hx_then_ret ?_ | refine hx_block_ret ?_ | refine hx_then_exit ?_ | refine hx_block_here ?_ | refine hx_far ?_ | refine hx_any ?_ | (apply ha_end; decide +kernel))
    exact hx_retBt 0 rfl rfl rfl rfl rfl (fun w hm => ⟨_, _, rfl, maps_nil 115 2 hm.none, by rw [h5]; exact mpErr _ _ _ rfl⟩)
  | some L =>
  have hLl := linesR_len ho
  rcases Nat.eq_zero_or_pos L.length with hL0 | hL0
  · have h5 : rmM s = pErr 5 := rmM_no hl (fun st tot ks xss hc => by have := (hc.parse ho).2.1; omega)
    have hL0' : (L.length : Int) = 0 := by omega
    have hu' : SlOk u L.length := hu
    repeat' (first | refine hl_a ?_ | refine hq_a ?_ | refine hl_nil ?_ | refine hq_nil ?_ | refine hq_ga ?_ | refine hq_sk ?_ | refine hq_su ?_ | refine hq_gT ?_ | refine hq_gF ?_ | refine hq_gd (fun h => ?_) (fun h => ?_) | refine hl_ga ?_ | refine hl_sk ?_ | refine hl_su ?_ | refine hl_gT ?_ | refine hl_gF ?_ | refine hl_gd (fun h => ?_) (fun h => ?_) | refine hx_next ?_ | refine hw_seq ?_ | refine hw_region ?_ | refine hw_dr ?_ | refine hw_block ?_ | refine hx_block ?_ | refine hw_tt ?_ | refine hw_ff ?_ | refine hw_iT ?_ | refine hw_iF ?_ | refine hw_skip ?_ | refine hw_ret ?_ | refine hw_exit ?_ | refine hx_then_ret ?_ | refine hx_block_ret ?_ | refine hx_then_exit ?_ | refine hx_block_here ?_ | refine hx_far ?_ | refine hx_any ?_ | (apply ha_end; decide +kernel) | (apply hl_q; decide; (first | exact q_bld [] #[.int .i64 0, .int .i64 0, .slice none 0 0] rfl (by kernel_rfl) | (apply q_neS; rfl; rfl) | (apply q_lenS; rfl))) | (apply hq_q; decide; (first | exact q_bld [] #[.int .i64 0, .int .i64 0, .slice none 0 0] rfl (by kernel_rfl) | (apply q_neS; rfl; rfl) | (apply q_lenS; rfl))) | (apply hq_g; rfl; rfl; decide; (first | exact q_bld [] #[.int .i64 0, .int .i64 0, .slice none 0 0] rfl (by kernel_rfl) | (apply q_neS; rfl; rfl) | (apply q_lenS; rfl))) | (apply hl_g; rfl; rfl; decide; (first | exact q_bld [] #[.int .i64 0, .int .i64 0, .slice none 0 0] rfl (by kernel_rfl) | (apply q_neS; rfl; rfl) | (apply q_lenS; rfl))))
    refine hl_storeA 0 rfl rfl rfl rfl rfl (chV_one nil_ok) ?_
    repeat' (first | refine hl_a ?_ | refine hq_a ?_ | refine hl_nil ?_ | refine hq_nil ?_ | refine hq_ga ?_ | refine hq_sk ?_ | refine hq_su ?_ | refine hq_gT ?_ | refine hq_gF ?_ | refine hq_gd (fun h => ?_) (fun h => ?_) | refine hl_ga ?_ | refine hl_sk ?_ | refine hl_su ?_ | refine hl_gT ?_ | refine hl_gF ?_ | refine hl_gd (fun h => ?_) (fun h => ?_) | refine hx_next ?_ | refine hw_seq ?_ | refine hw_region ?_ | refine hw_dr ?_ | refine hw_block ?_ | refine hx_block ?_ | refine hw_tt ?_ | refine hw_ff ?_ | refine hw_iT ?_ | refine hw_iF ?_ | refine hw_skip ?_ | refine hw_ret ?_ | refine hw_exit ?_ | refine hx_then_ret ?_ | refine hx_block_ret ?_ | refine hx_then_exit ?_ | refine hx_block_here ?_ | refine hx_far ?_ | refine hx_any ?_ | (apply ha_end; decide +kernel))
    exact hx_retBt 0 rfl rfl rfl rfl rfl (fun w hm => ⟨_, _, rfl, maps_nil 115 2 hm.none, by rw [h5]; exact mpErr _ _ _ rfl⟩)
  have hL0' : ¬ (L.length : Int) = 0 := by omega
  have hu' : SlOk u L.length := hu
  have hld : Ld w [rBlk b0 #[.int .i64 0, .int .i64 0, .slice none 0 0] 55, rE 9 sV u L] (vAt u 0) (sV (L.getD 0 [])) := ld_E 1 [] rfl hL0
  repeat' (first | refine hl_a ?_ | refine hq_a ?_ | refine hl_nil ?_ | refine hq_nil ?_ | refine hq_ga ?_ | refine hq_sk ?_ | refine hq_su ?_ | refine hq_gT ?_ | refine hq_gF ?_ | refine hq_gd (fun h => ?_) (fun h => ?_) | refine hl_ga ?_ | refine hl_sk ?_ | refine hl_su ?_ | refine hl_gT ?_ | refine hl_gF ?_ | refine hl_gd (fun h => ?_) (fun h => ?_) | refine hx_next ?_ | refine hw_seq ?_ | refine hw_region ?_ | refine hw_dr ?_ | refine hw_block ?_ | refine hx_block ?_ | refine hw_tt ?_ | refine hw_ff ?_ | refine hw_iT ?_ | refine hw_iF ?_ | refine hw_skip ?_ | refine hw_ret ?_ | refine hw_exit ?_ | refine hx_then_ret ?_ | refine hx_block_ret ?_ | refine hx_then_exit ?_ | refine hx_block_here ?_ | refine hx_far ?_ | refine hx_any ?_ | (apply ha_end; decide +kernel) | (apply hl_q; decide; (first | exact q_bld [] #[.int .i64 0, .int .i64 0, .slice none 0 0] rfl (by kernel_rfl) | (apply q_neS; rfl; rfl) | (apply q_lenS; rfl))) | (apply hq_q; decide; (first | exact q_bld [] #[.int .i64 0, .int .i64 0, .slice none 0 0] rfl (by kernel_rfl) | (apply q_neS; rfl; rfl) | (apply q_lenS; rfl))) | (apply hq_g; rfl; rfl; decide; (first | exact q_bld [] #[.int .i64 0, .int .i64 0, .slice none 0 0] rfl (by kernel_rfl) | (apply q_neS; rfl; rfl) | (apply q_lenS; rfl))) | (apply hl_g; rfl; rfl; decide; (first | exact q_bld [] #[.int .i64 0, .int .i64 0, .slice none 0 0] rfl (by kernel_rfl) | (apply q_neS; rfl; rfl) | (apply q_lenS; rfl))))
  obtain ⟨o1, ho1⟩ : ∃ o, behind (L.getD 0 []) wMaps = o := ⟨_, rfl⟩
  refine hl_call (by decide) (fun w hm => numbersBehind_c (L.getD 0 []) wMaps w (by have := hLl.2 _ (getD_memL [] hL0); omega)) rfl ?_
  rw [ho1]
  rintro _ _ ⟨x, rfl, rfl, hx⟩
  cases o1 with
  | none =>
    have h5 : rmM s = pErr 5 := rmM_no hl (fun st tot ks xss hc => by have := (hc.parse ho).1; rw [ho1] at this; exact absurd this (by simp))
    repeat' (first | refine hl_a ?_ | refine hq_a ?_ | refine hl_nil ?_ | refine hq_nil ?_ | refine hq_ga ?_ | refine hq_sk ?_ | refine hq_su ?_ | refine hq_gT ?_ | refine hq_gF ?_ | refine hq_gd (fun h => ?_) (fun h => ?_) | refine hl_ga ?_ | refine hl_sk ?_ | refine hl_su ?_ | refine hl_gT ?_ | refine hl_gF ?_ | refine hl_gd (fun h => ?_) (fun h => ?_) | refine hx_next ?_ | refine hw_seq ?_ | refine hw_region ?_ | refine hw_dr ?_ | refine hw_block ?_ | refine hx_block ?_ | refine hw_tt ?_ | refine hw_ff ?_ | refine hw_iT ?_ | refine hw_iF ?_ | refine hw_skip ?_ | refine hw_ret ?_ | refine hw_exit ?_ | refine hx_then_ret ?_ | refine hx_block_ret ?_ | refine hx_then_exit ?_ | refine hx_block_here ?_ | refine hx_far ?_ | refine hx_any ?_ | (apply ha_end; decide +kernel) | (apply hl_q; decide; (first | exact q_bld [] #[.int .i64 0, .int .i64 0, .slice none 0 0] rfl (by kernel_rfl) | (apply q_neS; rfl; rfl) | (apply q_lenS; rfl))) | (apply hq_q; decide; (first | exact q_bld [] #[.int .i64 0, .int .i64 0, .slice none 0 0] rfl (by kernel_rfl) | (apply q_neS; rfl; rfl) | (apply q_lenS; rfl))) | (apply hq_g; rfl; rfl; decide; (first | exact q_bld [] #[.int .i64 0, .int .i64 0, .slice none 0 0] rfl (by kernel_rfl) | (apply q_neS; rfl; rfl) | (apply q_lenS; rfl))) | (apply hl_g; rfl; rfl; decide; (first | exact q_bld [] #[.int .i64 0, .int .i64 0, .slice none 0 0] rfl (by kernel_rfl) | (apply q_neS; rfl; rfl) | (apply q_lenS; rfl))))
    refine hl_storeA 0 rfl rfl rfl rfl rfl (chV_one nil_ok) ?_
    repeat' (first | refine hl_a ?_ | refine hq_a ?_ | refine hl_nil ?_ | refine hq_nil ?_ | refine hq_ga ?_ | refine hq_sk ?_ | refine hq_su ?_ | refine hq_gT ?_ | refine hq_gF ?_ | refine hq_gd (fun h => ?_) (fun h => ?_) | refine hl_ga ?_ | refine hl_sk ?_ | refine hl_su ?_ | refine hl_gT ?_ | refine hl_gF ?_ | refine hl_gd (fun h => ?_) (fun h => ?_) | refine hx_next ?_ | refine hw_seq ?_ | refine hw_region ?_ | refine hw_dr ?_ | refine hw_block ?_ | refine hx_block ?_ | refine hw_tt ?_ | refine hw_ff ?_ | refine hw_iT ?_ | refine hw_iF ?_ | refine hw_skip ?_ | refine hw_ret ?_ | refine hw_exit ?_ | refine hx_then_ret ?_ | refine hx_block_ret ?_ | refine hx_then_exit ?_ | refine hx_block_here ?_ | refine hx_far ?_ | refine hx_any ?_ | (apply ha_end; decide +kernel))
    exact hx_retBt 0 rfl rfl rfl rfl rfl (fun w hm => ⟨_, _, rfl, maps_nil 115 2 hm.none, by rw [h5]; exact mpErr _ _ _ rfl⟩)
  | some hd =>
  have hx' : SlOk x hd.length := hx
  rcases Classical.em (hd.length = 2) with hh | hh
  case inr =>
    have h5 : rmM s = pErr 5 := rmM_no hl (fun st tot ks xss hc => by have := (hc.parse ho).1; rw [ho1] at this; simp only [Option.some.injEq] at this; rw [this] at hh; exact hh rfl)
    have hh' : (hd.length : Int) ≠ 2 := by omega
    repeat' (first | refine hl_a ?_ | refine hq_a ?_ | refine hl_nil ?_ | refine hq_nil ?_ | refine hq_ga ?_ | refine hq_sk ?_ | refine hq_su ?_ | refine hq_gT ?_ | refine hq_gF ?_ | refine hq_gd (fun h => ?_) (fun h => ?_) | refine hl_ga ?_ | refine hl_sk ?_ | refine hl_su ?_ | refine hl_gT ?_ | refine hl_gF ?_ | refine hl_gd (fun h => ?_) (fun h => ?_) | refine hx_next ?_ | refine hw_seq ?_ | refine hw_region ?_ | refine hw_dr ?_ | refine hw_block ?_ | refine hx_block ?_ | refine hw_tt ?_ | refine hw_ff ?_ | refine hw_iT ?_ | refine hw_iF ?_ | refine hw_skip ?_ | refine hw_ret ?_ | refine hw_exit ?_ | refine hx_then_ret ?_ | refine hx_block_ret ?_ | refine hx_then_exit ?_ | refine hx_block_here ?_ | refine hx_far ?_ | refine hx_any ?_ | (apply ha_end; decide +kernel) | (apply hl_q; decide; (first | exact q_bld [] #[.int .i64 0, .int .i64 0, .slice none 0 0] rfl (by kernel_rfl) | (apply q_neS; rfl; rfl) | (apply q_lenS; rfl))) | (apply hq_q; decide; (first | exact q_bld [] #[.int .i64 0, .int .i64 0, .slice none 0 0] rfl (by kernel_rfl) | (apply q_neS; rfl; rfl) | (apply q_lenS; rfl))) | (apply hq_g; rfl; rfl; decide; (first | exact q_bld [] #[.int .i64 0, .int .i64 0, .slice none 0 0] rfl (by kernel_rfl) | (apply q_neS; rfl; rfl) | (apply q_lenS; rfl))) | (apply hl_g; rfl; rfl; decide; (first | exact q_bld [] #[.int .i64 0, .int .i64 0, .slice none 0 0] rfl (by kernel_rfl) | (apply q_neS; rfl; rfl) | (apply q_lenS; rfl))))
    refine hl_storeA 0 rfl rfl rfl rfl rfl (chV_one nil_ok) ?_
    repeat' (first | refine hl_a ?_ | refine hq_a ?_ | refine hl_nil ?_ | refine hq_nil ?_ | refine hq_ga ?_ | refine hq_sk ?_ | refine hq_su ?_ | refine hq_gT ?_ | refine hq_gF ?_ | refine hq_gd (fun h => ?_) (fun h => ?_) | refine hl_ga ?_ | refine hl_sk ?_ | refine hl_su ?_ | refine hl_gT ?_ | refine hl_gF ?_ | refine hl_gd (fun h => ?_) (fun h => ?_) | refine hx_next ?_ | refine hw_seq ?_ | refine hw_region ?_ | refine hw_dr ?_ | refine hw_block ?_ | refine hx_block ?_ | refine hw_tt ?_ | refine hw_ff ?_ | refine hw_iT ?_ | refine hw_iF ?_ | refine hw_skip ?_ | refine hw_ret ?_ | refine hw_exit ?_ | refine hx_then_ret ?_ | refine hx_block_ret ?_ | refine hx_then_exit ?_ | refine hx_block_here ?_ | refine hx_far ?_ | refine hx_any ?_ | (apply ha_end; decide +kernel))
    exact hx_retBt 0 rfl rfl rfl rfl rfl (fun w hm => ⟨_, _, rfl, maps_nil 115 2 hm.none, by rw [h5]; exact mpErr _ _ _ rfl⟩)
  obtain ⟨a, b, rfl⟩ : ∃ a b, hd = [a, b] := by
    rcases hd with _ | ⟨a, _ | ⟨b, _ | ⟨c, t⟩⟩⟩
    · simp at hh
    · simp at hh
    · exact ⟨a, b, rfl⟩
    · simp at hh
  have hx2 : SlOk x 2 := hx
  have h02 : 0 < 2 := by decide
  have h12 : 1 < 2 := by decide
  have h22 : ¬ ((2 : Nat) : Int) ≠ 2 := by decide
  have hx0 : Ld w [rBlk b0 #[.int .i64 0, .int .i64 0, .slice none 0 0] 55, rE 9 sV u L, rE 2 (Value.int .i64) x [a, b]] (vAt x 0) (.int .i64 a) := ld_E (xs := [a, b]) 2 0 rfl h02
  have hx1 : Ld w [rBlk b0 #[.int .i64 0, .int .i64 0, .slice none 0 0] 55, rE 9 sV u L, rE 2 (Value.int .i64) x [a, b]] (vAt x 1) (.int .i64 b) := ld_E (xs := [a, b]) 2 0 rfl h12
  repeat' (first | refine hl_a ?_ | refine hq_a ?_ | refine hl_nil ?_ | refine hq_nil ?_ | refine hq_ga ?_ | refine hq_sk ?_ | refine hq_su ?_ | refine hq_gT ?_ | refine hq_gF ?_ | refine hq_gd (fun h => ?_) (fun h => ?_) | refine hl_ga ?_ | refine hl_sk ?_ | refine hl_su ?_ | refine hl_gT ?_ | refine hl_gF ?_ | refine hl_gd (fun h => ?_) (fun h => ?_) | refine hx_next ?_ | refine hw_seq ?_ | refine hw_region ?_ | refine hw_block ?_ | refine hx_block ?_ | refine hw_tt ?_ | refine hw_ff ?_ | refine hw_iT ?_ | refine hw_iF ?_ | refine hw_skip ?_ | refine hw_ret ?_ | refine hw_exit ?_ | refine hx_then_ret ?_ | refine hx_block_ret ?_ | refine hx_then_exit ?_ | refine hx_block_here ?_ | refine hx_far ?_ | refine hx_any ?_ | (apply ha_end; decide +kernel))
  refine hw_g [rBlk b0 #[.int .i64 0, .int .i64 0, .slice none 0 0] 55, rE 9 sV u L, rE 2 (Value.int .i64) x [a, b]] 8 (by kernel_rfl) ?_
  first | refine hg_t 0 ?_ | refine hg_tn 0 ?_
  first | refine hg_t 1 ?_ | refine hg_tn 1 ?_
  first | refine hg_t 2 ?_ | refine hg_tn 2 ?_
  first | refine hg_t 3 ?_ | refine hg_tn 3 ?_
  first | refine hg_t 4 ?_ | refine hg_tn 4 ?_
  first | refine hg_t 5 ?_ | refine hg_tn 5 ?_
  refine hg_t 6 ?_ (hq := by exact q_bld [(0, .int .i64 a), (1, .int .i64 b)] #[.int .i64 a, .int .i64 b, .slice none 0 0] rfl (by kernel_rfl))
  refine hg_1 7 (by decide +kernel) rfl ?_
  refine hl_alloc (by decide) (fun bm => ?_)
  refine hl_nil ?_
  refine hx_hg (by first | exact fun w hm => hm.none | exact fun w hm => Mem.keep _ hm) ?_
  refine hg_1 8 (by decide +kernel) rfl ?_
  refine hl_storeA 3 rfl rfl rfl rfl rfl (chV_one nil_ok) ?_
  refine hl_nil ?_
  refine hx_hgT rfl ?_
  refine hg_end (by decide +kernel) ?_
  repeat' (first | refine hl_a ?_ | refine hq_a ?_ | refine hl_nil ?_ | refine hq_nil ?_ | refine hq_ga ?_ | refine hq_sk ?_ | refine hq_su ?_ | refine hq_gT ?_ | refine hq_gF ?_ | refine hq_gd (fun h => ?_) (fun h => ?_) | refine hl_ga ?_ | refine hl_sk ?_ | refine hl_su ?_ | refine hl_gT ?_ | refine hl_gF ?_ | refine hl_gd (fun h => ?_) (fun h => ?_) | refine hx_next ?_ | refine hw_seq ?_ | refine hw_region ?_ | refine hw_dr ?_ | refine hw_block ?_ | refine hx_block ?_ | refine hw_tt ?_ | refine hw_ff ?_ | refine hw_iT ?_ | refine hw_iF ?_ | refine hw_skip ?_ | refine hw_ret ?_ | refine hw_exit ?_ | refine hx_then_ret ?_ | refine hx_block_ret ?_ | refine hx_then_exit ?_ | refine hx_block_here ?_ | refine hx_far ?_ | refine hx_any ?_ | (apply ha_end; decide +kernel))
  first | refine hl_q (by decide) (q_suf (i := 1) rfl rfl hu' hL0) ?_ | refine hq_q (by decide) (q_suf (i := 1) rfl rfl hu' hL0) ?_ | refine hl_g _ _ rfl rfl (by decide) (q_suf (i := 1) rfl rfl hu' hL0) ?_ | refine hq_g _ _ rfl rfl (by decide) (q_suf (i := 1) rfl rfl hu' hL0) ?_
  have hsu : SlOk (sufV u 1) (L.length - 1) := sufV_ok hu' hL0
  repeat' (first | refine hl_a ?_ | refine hq_a ?_ | refine hl_nil ?_ | refine hq_nil ?_ | refine hq_ga ?_ | refine hq_sk ?_ | refine hq_su ?_ | refine hq_gT ?_ | refine hq_gF ?_ | refine hq_gd (fun h => ?_) (fun h => ?_) | refine hl_ga ?_ | refine hl_sk ?_ | refine hl_su ?_ | refine hl_gT ?_ | refine hl_gF ?_ | refine hl_gd (fun h => ?_) (fun h => ?_) | refine hx_next ?_ | refine hw_seq ?_ | refine hw_region ?_ | refine hw_dr ?_ | refine hw_block ?_ | refine hx_block ?_ | refine hw_tt ?_ | refine hw_ff ?_ | refine hw_iT ?_ | refine hw_iF ?_ | refine hw_skip ?_ | refine hw_ret ?_ | refine hw_exit ?_ | refine hx_then_ret ?_ | refine hx_block_ret ?_ | refine hx_then_exit ?_ | refine hx_block_here ?_ | refine hx_far ?_ | refine hx_any ?_ | (apply ha_end; decide +kernel))
  refine hw_mem (fun w hm => ((hm.pick (rs' := [rBlk b0 #[.int .i64 0, .int .i64 0, .slice none 0 0] 55, rE 9 sV u L, rBlk bm #[.int .i64 a, .int .i64 b, .slice none 0 0] 55]) [0, 1, 3] (by decide) rfl).nilOwn 115 2).empty) ?_
  refine hw_loop (fun e r m => ∃ (k : Nat) (x' : Value) (us : List Value), r = [rBlk b0 #[.int .i64 0, .int .i64 0, .slice none 0 0] 55, rE 9 sV u L, rBlk bm #[.int .i64 a, .int .i64 b, x'] 55, rOwn 115 2 x' k (cells2 (keysL L k) us), rStar (rRow 2 (Value.int .i64) us (rowsL L k))] ∧ us.length = k ∧ k ≤ L.length - 1 ∧ m = L.length - 1 - k ∧ e = [(0, sV s), (2, .pointer (some ⟨b0, 0, none⟩)), (7, .pointer (some ⟨bm, 0, none⟩)), (56, sufV u 1), (57, .int .i64 ((L.length - 1 : Nat) : Int)), (58, .int .i64 k)])
    ⟨0, _, [], rfl, rfl, Nat.zero_le _, rfl, rfl⟩ ⟨rfl, rfl, rfl, rfl, rfl, rfl, trivial⟩ ?_
  rintro _ _ _ ⟨k, x', us, rfl, hus, hk, rfl, rfl⟩
  repeat' (first | refine hl_a ?_ | refine hq_a ?_ | refine hl_nil ?_ | refine hq_nil ?_ | refine hq_ga ?_ | refine hq_sk ?_ | refine hq_su ?_ | refine hq_gT ?_ | refine hq_gF ?_ | refine hq_gd (fun h => ?_) (fun h => ?_) | refine hl_ga ?_ | refine hl_sk ?_ | refine hl_su ?_ | refine hl_gT ?_ | refine hl_gF ?_ | refine hl_gd (fun h => ?_) (fun h => ?_) | refine hx_next ?_ | refine hw_seq ?_ | refine hw_region ?_ | refine hw_dr ?_ | refine hw_block ?_ | refine hx_block ?_ | refine hw_tt ?_ | refine hw_ff ?_ | refine hw_iT ?_ | refine hw_iF ?_ | refine hw_skip ?_ | refine hw_ret ?_ | refine hw_exit ?_ | refine hx_then_ret ?_ | refine hx_block_ret ?_ | refine hx_then_exit ?_ | refine hx_block_here ?_ | refine hx_far ?_ | refine hx_any ?_ | (apply ha_end; decide +kernel))
  refine hw_if rfl (fun hlt => ?_) (fun hge => ?_)
  · have hk2 : k < L.length - 1 := by omega
    have hlk : Ld w [rBlk b0 #[.int .i64 0, .int .i64 0, .slice none 0 0] 55, rE 9 sV u L, rBlk bm #[.int .i64 a, .int .i64 b, x'] 55, rOwn 115 2 x' k (cells2 (keysL L k) us), rStar (rRow 2 (Value.int .i64) us (rowsL L k))] (vAt (sufV u 1) k) (sV ((L.drop 1).getD k [])) := ld_suf 1 [] rfl hu' (by omega)
    have hmem : (L.drop 1).getD k [] ∈ L := List.mem_of_mem_drop (getD_memL [] (by rw [List.length_drop]; omega))
    have hq1 : ((L.drop 1).getD k []).length ≤ 10000 := by have := hLl.2 _ hmem; omega
    have hno : ¬ OkL (splitL 32 ((L.drop 1).getD k [])) → rmM s = pErr 5 := fun hn => rmM_no hl (fun st tot ks xss hc => hn (hc.okL ho hk2))
    have hrk : rowsL L (k + 1) = rowsL L k ++ [toL (splitL 32 ((L.drop 1).getD k []))] := by unfold rowsL; rw [tab_succ]
    have hkk : keysL L (k + 1) = keysL L k ++ [keyL (splitL 32 ((L.drop 1).getD k []))] := by unfold keysL; rw [tab_succ]
    have hwl := splitL_len 32 ((L.drop 1).getD k [])
    have hwls := splitL_lens 32 ((L.drop 1).getD k [])
    repeat' (first | refine hl_a ?_ | refine hq_a ?_ | refine hl_nil ?_ | refine hq_nil ?_ | refine hq_ga ?_ | refine hq_sk ?_ | refine hq_su ?_ | refine hq_gT ?_ | refine hq_gF ?_ | refine hq_gd (fun h => ?_) (fun h => ?_) | refine hl_ga ?_ | refine hl_sk ?_ | refine hl_su ?_ | refine hl_gT ?_ | refine hl_gF ?_ | refine hl_gd (fun h => ?_) (fun h => ?_) | refine hx_next ?_ | refine hw_seq ?_ | refine hw_region ?_ | refine hw_dr ?_ | refine hw_block ?_ | refine hx_block ?_ | refine hw_tt ?_ | refine hw_ff ?_ | refine hw_iT ?_ | refine hw_iF ?_ | refine hw_skip ?_ | refine hw_ret ?_ | refine hw_exit ?_ | refine hx_then_ret ?_ | refine hx_block_ret ?_ | refine hx_then_exit ?_ | refine hx_block_here ?_ | refine hx_far ?_ | refine hx_any ?_ | (apply ha_end; decide +kernel))
    refine hl_call (by decide) (fun w hm => splitAt_c ((L.drop 1).getD k []) 32 w hq1) rfl ?_
    rintro y _ ⟨rfl, hy⟩
    generalize splitL 32 ((L.drop 1).getD k []) = ws at hno hrk hkk hwl hwls hy
    rcases Nat.lt_or_ge ws.length 4 with h4 | h4
    · have h4' : (ws.length : Int) < 4 := by omega
      have h5 := hno (fun e => by have := e.1; omega)
      repeat' (first | refine hl_a ?_ | refine hq_a ?_ | refine hl_nil ?_ | refine hq_nil ?_ | refine hq_ga ?_ | refine hq_sk ?_ | refine hq_su ?_ | refine hq_gT ?_ | refine hq_gF ?_ | refine hq_gd (fun h => ?_) (fun h => ?_) | refine hl_ga ?_ | refine hl_sk ?_ | refine hl_su ?_ | refine hl_gT ?_ | refine hl_gF ?_ | refine hl_gd (fun h => ?_) (fun h => ?_) | refine hx_next ?_ | refine hw_seq ?_ | refine hw_region ?_ | refine hw_dr ?_ | refine hw_block ?_ | refine hx_block ?_ | refine hw_tt ?_ | refine hw_ff ?_ | refine hw_iT ?_ | refine hw_iF ?_ | refine hw_skip ?_ | refine hw_ret ?_ | refine hw_exit ?_ | refine hx_then_ret ?_ | refine hx_block_ret ?_ | refine hx_then_exit ?_ | refine hx_block_here ?_ | refine hx_far ?_ | refine hx_any ?_ | (apply ha_end; decide +kernel) | (apply hl_q; decide; (first | exact q_bld [] #[.int .i64 0, .int .i64 0, .slice none 0 0] rfl (by kernel_rfl) | (apply q_neS; rfl; rfl) | (apply q_lenS; rfl))) | (apply hq_q; decide; (first | exact q_bld [] #[.int .i64 0, .int .i64 0, .slice none 0 0] rfl (by kernel_rfl) | (apply q_neS; rfl; rfl) | (apply q_lenS; rfl))) | (apply hq_g; rfl; rfl; decide; (first | exact q_bld [] #[.int .i64 0, .int .i64 0, .slice none 0 0] rfl (by kernel_rfl) | (apply q_neS; rfl; rfl) | (apply q_lenS; rfl))) | (apply hl_g; rfl; rfl; decide; (first | exact q_bld [] #[.int .i64 0, .int .i64 0, .slice none 0 0] rfl (by kernel_rfl) | (apply q_neS; rfl; rfl) | (apply q_lenS; rfl))))
      refine hl_storeA 0 rfl rfl rfl rfl rfl (chV_one nil_ok) ?_
      repeat' (first | refine hl_a ?_ | refine hq_a ?_ | refine hl_nil ?_ | refine hq_nil ?_ | refine hq_ga ?_ | refine hq_sk ?_ | refine hq_su ?_ | refine hq_gT ?_ | refine hq_gF ?_ | refine hq_gd (fun h => ?_) (fun h => ?_) | refine hl_ga ?_ | refine hl_sk ?_ | refine hl_su ?_ | refine hl_gT ?_ | refine hl_gF ?_ | refine hl_gd (fun h => ?_) (fun h => ?_) | refine hx_next ?_ | refine hw_seq ?_ | refine hw_region ?_ | refine hw_dr ?_ | refine hw_block ?_ | refine hx_block ?_ | refine hw_tt ?_ | refine hw_ff ?_ | refine hw_iT ?_ | refine hw_iF ?_ | refine hw_skip ?_ | refine hw_ret ?_ | refine hw_exit ?_ | refine hx_then_ret ?_ | refine hx_block_ret ?_ | refine hx_then_exit ?_ | refine hx_block_here ?_ | refine hx_far ?_ | refine hx_any ?_ | (apply ha_end; decide +kernel))
      exact hx_retBt 0 rfl rfl rfl rfl rfl (fun w hm => ⟨_, _, rfl, maps_nil 115 2 hm.none, by rw [h5]; exact mpErr _ _ _ rfl⟩)
    have h4' : ¬ (ws.length : Int) < 4 := by omega
    have hp0 : 0 < ws.length := by omega
    have hp2 : 2 < ws.length := by omega
    have hl0 : Ld w [rBlk b0 #[.int .i64 0, .int .i64 0, .slice none 0 0] 55, rE 9 sV u L, rBlk bm #[.int .i64 a, .int .i64 b, x'] 55, rOwn 115 2 x' k (cells2 (keysL L k) us), rStar (rRow 2 (Value.int .i64) us (rowsL L k)), rE 9 sV y ws] (vAt y 0) (sV (ws.getD 0 [])) := ld_E 5 [] rfl hp0
    have hl2 : Ld w [rBlk b0 #[.int .i64 0, .int .i64 0, .slice none 0 0] 55, rE 9 sV u L, rBlk bm #[.int .i64 a, .int .i64 b, x'] 55, rOwn 115 2 x' k (cells2 (keysL L k) us), rStar (rRow 2 (Value.int .i64) us (rowsL L k)), rE 9 sV y ws] (vAt y 2) (sV (ws.getD 2 [])) := ld_E 5 [] rfl hp2
    rcases Classical.em (ws.getD 0 [] ≠ [109, 97, 112]) with hw0 | hw0
    · have h5 := hno (fun e => hw0 e.2.1)
      repeat' (first | refine hl_a ?_ | refine hq_a ?_ | refine hl_nil ?_ | refine hq_nil ?_ | refine hq_ga ?_ | refine hq_sk ?_ | refine hq_su ?_ | refine hq_gT ?_ | refine hq_gF ?_ | refine hq_gd (fun h => ?_) (fun h => ?_) | refine hl_ga ?_ | refine hl_sk ?_ | refine hl_su ?_ | refine hl_gT ?_ | refine hl_gF ?_ | refine hl_gd (fun h => ?_) (fun h => ?_) | refine hx_next ?_ | refine hw_seq ?_ | refine hw_region ?_ | refine hw_dr ?_ | refine hw_block ?_ | refine hx_block ?_ | refine hw_tt ?_ | refine hw_ff ?_ | refine hw_iT ?_ | refine hw_iF ?_ | refine hw_skip ?_ | refine hw_ret ?_ | refine hw_exit ?_ | refine hx_then_ret ?_ | refine hx_block_ret ?_ | refine hx_then_exit ?_ | refine hx_block_here ?_ | refine hx_far ?_ | refine hx_any ?_ | (apply ha_end; decide +kernel) | (apply hl_q; decide; (first | exact q_bld [] #[.int .i64 0, .int .i64 0, .slice none 0 0] rfl (by kernel_rfl) | (apply q_neS; rfl; rfl) | (apply q_lenS; rfl))) | (apply hq_q; decide; (first | exact q_bld [] #[.int .i64 0, .int .i64 0, .slice none 0 0] rfl (by kernel_rfl) | (apply q_neS; rfl; rfl) | (apply q_lenS; rfl))) | (apply hq_g; rfl; rfl; decide; (first | exact q_bld [] #[.int .i64 0, .int .i64 0, .slice none 0 0] rfl (by kernel_rfl) | (apply q_neS; rfl; rfl) | (apply q_lenS; rfl))) | (apply hl_g; rfl; rfl; decide; (first | exact q_bld [] #[.int .i64 0, .int .i64 0, .slice none 0 0] rfl (by kernel_rfl) | (apply q_neS; rfl; rfl) | (apply q_lenS; rfl))))
      refine hl_storeA 0 rfl rfl rfl rfl rfl (chV_one nil_ok) ?_
      repeat' (first | refine hl_a ?_ | refine hq_a ?_ | refine hl_nil ?_ | refine hq_nil ?_ | refine hq_ga ?_ | refine hq_sk ?_ | refine hq_su ?_ | refine hq_gT ?_ | refine hq_gF ?_ | refine hq_gd (fun h => ?_) (fun h => ?_) | refine hl_ga ?_ | refine hl_sk ?_ | refine hl_su ?_ | refine hl_gT ?_ | refine hl_gF ?_ | refine hl_gd (fun h => ?_) (fun h => ?_) | refine hx_next ?_ | refine hw_seq ?_ | refine hw_region ?_ | refine hw_dr ?_ | refine hw_block ?_ | refine hx_block ?_ | refine hw_tt ?_ | refine hw_ff ?_ | refine hw_iT ?_ | refine hw_iF ?_ | refine hw_skip ?_ | refine hw_ret ?_ | refine hw_exit ?_ | refine hx_then_ret ?_ | refine hx_block_ret ?_ | refine hx_then_exit ?_ | refine hx_block_here ?_ | refine hx_far ?_ | refine hx_any ?_ | (apply ha_end; decide +kernel))
      exact hx_retBt 0 rfl rfl rfl rfl rfl (fun w hm => ⟨_, _, rfl, maps_nil 115 2 hm.none, by rw [h5]; exact mpErr _ _ _ rfl⟩)
    rcases Classical.em (ws.getD 2 [] ≠ [58]) with hw2 | hw2
    · have h5 := hno (fun e => hw2 e.2.2.1)
      repeat' (first | refine hl_a ?_ | refine hq_a ?_ | refine hl_nil ?_ | refine hq_nil ?_ | refine hq_ga ?_ | refine hq_sk ?_ | refine hq_su ?_ | refine hq_gT ?_ | refine hq_gF ?_ | refine hq_gd (fun h => ?_) (fun h => ?_) | refine hl_ga ?_ | refine hl_sk ?_ | refine hl_su ?_ | refine hl_gT ?_ | refine hl_gF ?_ | refine hl_gd (fun h => ?_) (fun h => ?_) | refine hx_next ?_ | refine hw_seq ?_ | refine hw_region ?_ | refine hw_dr ?_ | refine hw_block ?_ | refine hx_block ?_ | refine hw_tt ?_ | refine hw_ff ?_ | refine hw_iT ?_ | refine hw_iF ?_ | refine hw_skip ?_ | refine hw_ret ?_ | refine hw_exit ?_ | refine hx_then_ret ?_ | refine hx_block_ret ?_ | refine hx_then_exit ?_ | refine hx_block_here ?_ | refine hx_far ?_ | refine hx_any ?_ | (apply ha_end; decide +kernel) | (apply hl_q; decide; (first | exact q_bld [] #[.int .i64 0, .int .i64 0, .slice none 0 0] rfl (by kernel_rfl) | (apply q_neS; rfl; rfl) | (apply q_lenS; rfl))) | (apply hq_q; decide; (first | exact q_bld [] #[.int .i64 0, .int .i64 0, .slice none 0 0] rfl (by kernel_rfl) | (apply q_neS; rfl; rfl) | (apply q_lenS; rfl))) | (apply hq_g; rfl; rfl; decide; (first | exact q_bld [] #[.int .i64 0, .int .i64 0, .slice none 0 0] rfl (by kernel_rfl) | (apply q_neS; rfl; rfl) | (apply q_lenS; rfl))) | (apply hl_g; rfl; rfl; decide; (first | exact q_bld [] #[.int .i64 0, .int .i64 0, .slice none 0 0] rfl (by kernel_rfl) | (apply q_neS; rfl; rfl) | (apply q_lenS; rfl))))
      refine hl_storeA 0 rfl rfl rfl rfl rfl (chV_one nil_ok) ?_
      repeat' (first | refine hl_a ?_ | refine hq_a ?_ | refine hl_nil ?_ | refine hq_nil ?_ | refine hq_ga ?_ | refine hq_sk ?_ | refine hq_su ?_ | refine hq_gT ?_ | refine hq_gF ?_ | refine hq_gd (fun h => ?_) (fun h => ?_) | refine hl_ga ?_ | refine hl_sk ?_ | refine hl_su ?_ | refine hl_gT ?_ | refine hl_gF ?_ | refine hl_gd (fun h => ?_) (fun h => ?_) | refine hx_next ?_ | refine hw_seq ?_ | refine hw_region ?_ | refine hw_dr ?_ | refine hw_block ?_ | refine hx_block ?_ | refine hw_tt ?_ | refine hw_ff ?_ | refine hw_iT ?_ | refine hw_iF ?_ | refine hw_skip ?_ | refine hw_ret ?_ | refine hw_exit ?_ | refine hx_then_ret ?_ | refine hx_block_ret ?_ | refine hx_then_exit ?_ | refine hx_block_here ?_ | refine hx_far ?_ | refine hx_any ?_ | (apply ha_end; decide +kernel))
      exact hx_retBt 0 rfl rfl rfl rfl rfl (fun w hm => ⟨_, _, rfl, maps_nil 115 2 hm.none, by rw [h5]; exact mpErr _ _ _ rfl⟩)
    have hno2 : ∀ q, (q = ws.getD 1 [] ∨ q ∈ ws.drop 3) → ¬ OkD q → rmM s = pErr 5 := fun q hq hn => hno (fun e => hq.elim (fun e1 => hn (by rw [e1]; exact e.2.2.2.1)) (fun e1 => hn (e.2.2.2.2 q e1)))
    repeat' (first | refine hl_a ?_ | refine hq_a ?_ | refine hl_nil ?_ | refine hq_nil ?_ | refine hq_ga ?_ | refine hq_sk ?_ | refine hq_su ?_ | refine hq_gT ?_ | refine hq_gF ?_ | refine hq_gd (fun h => ?_) (fun h => ?_) | refine hl_ga ?_ | refine hl_sk ?_ | refine hl_su ?_ | refine hl_gT ?_ | refine hl_gF ?_ | refine hl_gd (fun h => ?_) (fun h => ?_) | refine hx_next ?_ | refine hw_seq ?_ | refine hw_region ?_ | refine hw_dr ?_ | refine hw_block ?_ | refine hx_block ?_ | refine hw_tt ?_ | refine hw_ff ?_ | refine hw_iT ?_ | refine hw_iF ?_ | refine hw_skip ?_ | refine hw_ret ?_ | refine hw_exit ?_ | refine hx_then_ret ?_ | refine hx_block_ret ?_ | refine hx_then_exit ?_ | refine hx_block_here ?_ | refine hx_far ?_ | refine hx_any ?_ | (apply ha_end; decide +kernel) | (apply hl_q; decide; (first | (apply q_catS; rfl; rfl; (first | omega | (simp only [List.length_append, List.length_cons, List.length_nil]; omega))) | (apply q_eqS; rfl; rfl) | (apply q_neS; rfl; rfl) | (apply q_lenS; rfl))) | (apply hq_q; decide; (first | (apply q_catS; rfl; rfl; (first | omega | (simp only [List.length_append, List.length_cons, List.length_nil]; omega))) | (apply q_eqS; rfl; rfl) | (apply q_neS; rfl; rfl) | (apply q_lenS; rfl))) | (apply hq_g; rfl; rfl; decide; (first | (apply q_catS; rfl; rfl; (first | omega | (simp only [List.length_append, List.length_cons, List.length_nil]; omega))) | (apply q_eqS; rfl; rfl) | (apply q_neS; rfl; rfl) | (apply q_lenS; rfl))) | (apply hl_g; rfl; rfl; decide; (first | (apply q_catS; rfl; rfl; (first | omega | (simp only [List.length_append, List.length_cons, List.length_nil]; omega))) | (apply q_eqS; rfl; rfl) | (apply q_neS; rfl; rfl) | (apply q_lenS; rfl))))
    first | refine hl_q (by decide) (q_bld [] #[.int .i64 0, .slice none 0 0] rfl (by kernel_rfl)) ?_ | refine hq_q (by decide) (q_bld [] #[.int .i64 0, .slice none 0 0] rfl (by kernel_rfl)) ?_ | refine hl_g _ _ rfl rfl (by decide) (q_bld [] #[.int .i64 0, .slice none 0 0] rfl (by kernel_rfl)) ?_ | refine hq_g _ _ rfl rfl (by decide) (q_bld [] #[.int .i64 0, .slice none 0 0] rfl (by kernel_rfl)) ?_
    repeat' (first | refine hl_a ?_ | refine hq_a ?_ | refine hl_nil ?_ | refine hq_nil ?_ | refine hq_ga ?_ | refine hq_sk ?_ | refine hq_su ?_ | refine hq_gT ?_ | refine hq_gF ?_ | refine hq_gd (fun h => ?_) (fun h => ?_) | refine hl_ga ?_ | refine hl_sk ?_ | refine hl_su ?_ | refine hl_gT ?_ | refine hl_gF ?_ | refine hl_gd (fun h => ?_) (fun h => ?_) | refine hx_next ?_ | refine hw_seq ?_ | refine hw_region ?_ | refine hw_dr ?_ | refine hw_block ?_ | refine hx_block ?_ | refine hw_tt ?_ | refine hw_ff ?_ | refine hw_iT ?_ | refine hw_iF ?_ | refine hw_skip ?_ | refine hw_ret ?_ | refine hw_exit ?_ | refine hx_then_ret ?_ | refine hx_block_ret ?_ | refine hx_then_exit ?_ | refine hx_block_here ?_ | refine hx_far ?_ | refine hx_any ?_ | (apply ha_end; decide +kernel))
    refine hl_alloc (by decide) (fun bx => ?_)
    refine hl_storeA 6 rfl rfl rfl rfl rfl (mp_one nil_ok) ?_
    repeat' (first | refine hl_a ?_ | refine hq_a ?_ | refine hl_nil ?_ | refine hq_nil ?_ | refine hq_ga ?_ | refine hq_sk ?_ | refine hq_su ?_ | refine hq_gT ?_ | refine hq_gF ?_ | refine hq_gd (fun h => ?_) (fun h => ?_) | refine hl_ga ?_ | refine hl_sk ?_ | refine hl_su ?_ | refine hl_gT ?_ | refine hl_gF ?_ | refine hl_gd (fun h => ?_) (fun h => ?_) | refine hx_next ?_ | refine hw_seq ?_ | refine hw_region ?_ | refine hw_dr ?_ | refine hw_block ?_ | refine hx_block ?_ | refine hw_tt ?_ | refine hw_ff ?_ | refine hw_iT ?_ | refine hw_iF ?_ | refine hw_skip ?_ | refine hw_ret ?_ | refine hw_exit ?_ | refine hx_then_ret ?_ | refine hx_block_ret ?_ | refine hx_then_exit ?_ | refine hx_block_here ?_ | refine hx_far ?_ | refine hx_any ?_ | (apply ha_end; decide +kernel))
    first | refine hl_q (by decide) (q_suf (i := 1) rfl rfl hy hp0) ?_ | refine hq_q (by decide) (q_suf (i := 1) rfl rfl hy hp0) ?_ | refine hl_g _ _ rfl rfl (by decide) (q_suf (i := 1) rfl rfl hy hp0) ?_ | refine hq_g _ _ rfl rfl (by decide) (q_suf (i := 1) rfl rfl hy hp0) ?_
    have hsy : SlOk (sufV y 1) (ws.length - 1) := sufV_ok hy hp0
    repeat' (first | refine hl_a ?_ | refine hq_a ?_ | refine hl_nil ?_ | refine hq_nil ?_ | refine hq_ga ?_ | refine hq_sk ?_ | refine hq_su ?_ | refine hq_gT ?_ | refine hq_gF ?_ | refine hq_gd (fun h => ?_) (fun h => ?_) | refine hl_ga ?_ | refine hl_sk ?_ | refine hl_su ?_ | refine hl_gT ?_ | refine hl_gF ?_ | refine hl_gd (fun h => ?_) (fun h => ?_) | refine hx_next ?_ | refine hw_seq ?_ | refine hw_region ?_ | refine hw_dr ?_ | refine hw_block ?_ | refine hx_block ?_ | refine hw_tt ?_ | refine hw_ff ?_ | refine hw_iT ?_ | refine hw_iF ?_ | refine hw_skip ?_ | refine hw_ret ?_ | refine hw_exit ?_ | refine hx_then_ret ?_ | refine hx_block_ret ?_ | refine hx_then_exit ?_ | refine hx_block_here ?_ | refine hx_far ?_ | refine hx_any ?_ | (apply ha_end; decide +kernel))
    refine hw_mem (fun w hm => hm.nilE 2 (Value.int .i64)) ?_
    refine hw_loop (fun e r m => ∃ (t : Nat) (xv : Value) (kv : Int), r = [rBlk b0 #[.int .i64 0, .int .i64 0, .slice none 0 0] 55, rE 9 sV u L, rBlk bm #[.int .i64 a, .int .i64 b, x'] 55, rOwn 115 2 x' k (cells2 (keysL L k) us), rStar (rRow 2 (Value.int .i64) us (rowsL L k)), rE 9 sV y ws, rBlk bx #[.int .i64 kv, xv] 115, rE 2 (Value.int .i64) xv (((ws.drop 3).take (t - 2)).map sgnD)] ∧ SlOk xv (((ws.drop 3).take (t - 2)).map sgnD).length ∧ (t = 0 → kv = 0) ∧ (0 < t → kv = keyL ws) ∧ t ≤ ws.length - 1 ∧ m = ws.length - 1 - t ∧ e = [(0, sV s), (2, .pointer (some ⟨b0, 0, none⟩)), (7, .pointer (some ⟨bm, 0, none⟩)), (11, .pointer (some ⟨bx, 0, none⟩)), (56, sufV u 1), (57, .int .i64 ((L.length - 1 : Nat) : Int)), (58, .int .i64 k), (82, sufV y 1), (83, .int .i64 ((ws.length - 1 : Nat) : Int)), (84, .int .i64 t)])
      ⟨0, _, 0, rfl, nil_ok, fun _ => rfl, fun h => absurd h (by decide), Nat.zero_le _, rfl, rfl⟩ ⟨rfl, rfl, rfl, rfl, rfl, rfl, rfl, rfl, rfl, rfl, trivial⟩ ?_
    rintro _ _ _ ⟨t, xv, kv, rfl, hxv, hkv0, hkv1, ht, rfl, rfl⟩
    repeat' (first | refine hl_a ?_ | refine hq_a ?_ | refine hl_nil ?_ | refine hq_nil ?_ | refine hq_ga ?_ | refine hq_sk ?_ | refine hq_su ?_ | refine hq_gT ?_ | refine hq_gF ?_ | refine hq_gd (fun h => ?_) (fun h => ?_) | refine hl_ga ?_ | refine hl_sk ?_ | refine hl_su ?_ | refine hl_gT ?_ | refine hl_gF ?_ | refine hl_gd (fun h => ?_) (fun h => ?_) | refine hx_next ?_ | refine hw_seq ?_ | refine hw_region ?_ | refine hw_dr ?_ | refine hw_block ?_ | refine hx_block ?_ | refine hw_tt ?_ | refine hw_ff ?_ | refine hw_iT ?_ | refine hw_iF ?_ | refine hw_skip ?_ | refine hw_ret ?_ | refine hw_exit ?_ | refine hx_then_ret ?_ | refine hx_block_ret ?_ | refine hx_then_exit ?_ | refine hx_block_here ?_ | refine hx_far ?_ | refine hx_any ?_ | (apply ha_end; decide +kernel))
    refine hw_if rfl (fun hlt2 => ?_) (fun hge2 => ?_)
    · have ht2 : t < ws.length - 1 := by omega
      have hlt3 : Ld w [rBlk b0 #[.int .i64 0, .int .i64 0, .slice none 0 0] 55, rE 9 sV u L, rBlk bm #[.int .i64 a, .int .i64 b, x'] 55, rOwn 115 2 x' k (cells2 (keysL L k) us), rStar (rRow 2 (Value.int .i64) us (rowsL L k)), rE 9 sV y ws, rBlk bx #[.int .i64 kv, xv] 115, rE 2 (Value.int .i64) xv (((ws.drop 3).take (t - 2)).map sgnD)] (vAt (sufV y 1) t) (sV ((ws.drop 1).getD t [])) := ld_suf 5 [] rfl hy (by omega)
      have hgd : (ws.drop 1).getD t [] = ws.getD (t + 1) [] := by simp [List.getD_eq_getElem?_getD, Nat.add_comm]
      have hmq : ws.getD (t + 1) [] ∈ ws := getD_memL [] (by omega)
      have hql : ((ws.drop 1).getD t []).length ≤ 10000 := by rw [hgd]; have := hwls _ hmq; omega
      rcases Nat.eq_zero_or_pos t with h0 | h0
      · have ht1 : ¬ ((t : Int) = 1) := by omega
        have ht0 : (t : Int) = 0 := by omega
        have hg1 : (ws.drop 1).getD t [] = ws.getD 1 [] := by rw [hgd, h0]
        rw [hg1] at hlt3 hql
        rcases Classical.em (OkD (ws.getD 1 [])) with hq | hq
        · have hq' : ¬ ¬ OkD (ws.getD 1 []) := fun e => e hq
          have hrd : rdV (ws.getD 1 []) = keyL ws := if_pos hq
          repeat' (first | refine hl_a ?_ | refine hq_a ?_ | refine hl_nil ?_ | refine hq_nil ?_ | refine hq_ga ?_ | refine hq_sk ?_ | refine hq_su ?_ | refine hq_gT ?_ | refine hq_gF ?_ | refine hq_gd (fun h => ?_) (fun h => ?_) | refine hl_ga ?_ | refine hl_sk ?_ | refine hl_su ?_ | refine hl_gT ?_ | refine hl_gF ?_ | refine hl_gd (fun h => ?_) (fun h => ?_) | refine hx_next ?_ | refine hw_seq ?_ | refine hw_region ?_ | refine hw_dr ?_ | refine hw_block ?_ | refine hx_block ?_ | refine hw_tt ?_ | refine hw_ff ?_ | refine hw_iT ?_ | refine hw_iF ?_ | refine hw_skip ?_ | refine hw_ret ?_ | refine hw_exit ?_ | refine hx_then_ret ?_ | refine hx_block_ret ?_ | refine hx_then_exit ?_ | refine hx_block_here ?_ | refine hx_far ?_ | refine hx_any ?_ | (apply ha_end; decide +kernel))
          first | refine hl_q (by decide) (q_call (fun w hm => readDecimal_c _ w hql) rfl) ?_ | refine hq_q (by decide) (q_call (fun w hm => readDecimal_c _ w hql) rfl) ?_ | refine hl_g _ _ rfl rfl (by decide) (q_call (fun w hm => readDecimal_c _ w hql) rfl) ?_ | refine hq_g _ _ rfl rfl (by decide) (q_call (fun w hm => readDecimal_c _ w hql) rfl) ?_
          rw [hrd]
          repeat' (first | refine hl_a ?_ | refine hq_a ?_ | refine hl_nil ?_ | refine hq_nil ?_ | refine hq_ga ?_ | refine hq_sk ?_ | refine hq_su ?_ | refine hq_gT ?_ | refine hq_gF ?_ | refine hq_gd (fun h => ?_) (fun h => ?_) | refine hl_ga ?_ | refine hl_sk ?_ | refine hl_su ?_ | refine hl_gT ?_ | refine hl_gF ?_ | refine hl_gd (fun h => ?_) (fun h => ?_) | refine hx_next ?_ | refine hw_seq ?_ | refine hw_region ?_ | refine hw_dr ?_ | refine hw_block ?_ | refine hx_block ?_ | refine hw_tt ?_ | refine hw_ff ?_ | refine hw_iT ?_ | refine hw_iF ?_ | refine hw_skip ?_ | refine hw_ret ?_ | refine hw_exit ?_ | refine hx_then_ret ?_ | refine hx_block_ret ?_ | refine hx_then_exit ?_ | refine hx_block_here ?_ | refine hx_far ?_ | refine hx_any ?_ | (apply ha_end; decide +kernel))
          refine hl_storeB 6 rfl rfl rfl rfl rfl rfl ?_
          repeat' (first | refine hl_a ?_ | refine hq_a ?_ | refine hl_nil ?_ | refine hq_nil ?_ | refine hq_ga ?_ | refine hq_sk ?_ | refine hq_su ?_ | refine hq_gT ?_ | refine hq_gF ?_ | refine hq_gd (fun h => ?_) (fun h => ?_) | refine hl_ga ?_ | refine hl_sk ?_ | refine hl_su ?_ | refine hl_gT ?_ | refine hl_gF ?_ | refine hl_gd (fun h => ?_) (fun h => ?_) | refine hx_next ?_ | refine hw_seq ?_ | refine hw_region ?_ | refine hw_dr ?_ | refine hw_block ?_ | refine hx_block ?_ | refine hw_tt ?_ | refine hw_ff ?_ | refine hw_iT ?_ | refine hw_iF ?_ | refine hw_skip ?_ | refine hw_ret ?_ | refine hw_exit ?_ | refine hx_then_ret ?_ | refine hx_block_ret ?_ | refine hx_then_exit ?_ | refine hx_block_here ?_ | refine hx_far ?_ | refine hx_any ?_ | (apply ha_end; decide +kernel))
          have htt : t + 1 - 2 = t - 2 := by omega
          refine hx_round ⟨t + 1, xv, keyL ws, by rw [htt]; rfl, by rw [htt]; exact hxv, fun h => absurd h (by omega), fun _ => rfl, ht2, rfl, rfl⟩ (by omega) ⟨rfl, rfl, rfl, rfl, rfl, rfl, rfl, rfl, rfl, rfl, trivial⟩
        · have h5 := hno2 _ (.inl rfl) hq
          repeat' (first | refine hl_a ?_ | refine hq_a ?_ | refine hl_nil ?_ | refine hq_nil ?_ | refine hq_ga ?_ | refine hq_sk ?_ | refine hq_su ?_ | refine hq_gT ?_ | refine hq_gF ?_ | refine hq_gd (fun h => ?_) (fun h => ?_) | refine hl_ga ?_ | refine hl_sk ?_ | refine hl_su ?_ | refine hl_gT ?_ | refine hl_gF ?_ | refine hl_gd (fun h => ?_) (fun h => ?_) | refine hx_next ?_ | refine hw_seq ?_ | refine hw_region ?_ | refine hw_dr ?_ | refine hw_block ?_ | refine hx_block ?_ | refine hw_tt ?_ | refine hw_ff ?_ | refine hw_iT ?_ | refine hw_iF ?_ | refine hw_skip ?_ | refine hw_ret ?_ | refine hw_exit ?_ | refine hx_then_ret ?_ | refine hx_block_ret ?_ | refine hx_then_exit ?_ | refine hx_block_here ?_ | refine hx_far ?_ | refine hx_any ?_ | (apply ha_end; decide +kernel))
          first | refine hl_q (by decide) (q_call (fun w hm => readDecimal_c _ w hql) rfl) ?_ | refine hq_q (by decide) (q_call (fun w hm => readDecimal_c _ w hql) rfl) ?_ | refine hl_g _ _ rfl rfl (by decide) (q_call (fun w hm => readDecimal_c _ w hql) rfl) ?_ | refine hq_g _ _ rfl rfl (by decide) (q_call (fun w hm => readDecimal_c _ w hql) rfl) ?_
          repeat' (first | refine hl_a ?_ | refine hq_a ?_ | refine hl_nil ?_ | refine hq_nil ?_ | refine hq_ga ?_ | refine hq_sk ?_ | refine hq_su ?_ | refine hq_gT ?_ | refine hq_gF ?_ | refine hq_gd (fun h => ?_) (fun h => ?_) | refine hl_ga ?_ | refine hl_sk ?_ | refine hl_su ?_ | refine hl_gT ?_ | refine hl_gF ?_ | refine hl_gd (fun h => ?_) (fun h => ?_) | refine hx_next ?_ | refine hw_seq ?_ | refine hw_region ?_ | refine hw_dr ?_ | refine hw_block ?_ | refine hx_block ?_ | refine hw_tt ?_ | refine hw_ff ?_ | refine hw_iT ?_ | refine hw_iF ?_ | refine hw_skip ?_ | refine hw_ret ?_ | refine hw_exit ?_ | refine hx_then_ret ?_ | refine hx_block_ret ?_ | refine hx_then_exit ?_ | refine hx_block_here ?_ | refine hx_far ?_ | refine hx_any ?_ | (apply ha_end; decide +kernel) | (apply hl_q; decide; (first | exact q_bld [] #[.int .i64 0, .int .i64 0, .slice none 0 0] rfl (by kernel_rfl) | (apply q_neS; rfl; rfl) | (apply q_lenS; rfl))) | (apply hq_q; decide; (first | exact q_bld [] #[.int .i64 0, .int .i64 0, .slice none 0 0] rfl (by kernel_rfl) | (apply q_neS; rfl; rfl) | (apply q_lenS; rfl))) | (apply hq_g; rfl; rfl; decide; (first | exact q_bld [] #[.int .i64 0, .int .i64 0, .slice none 0 0] rfl (by kernel_rfl) | (apply q_neS; rfl; rfl) | (apply q_lenS; rfl))) | (apply hl_g; rfl; rfl; decide; (first | exact q_bld [] #[.int .i64 0, .int .i64 0, .slice none 0 0] rfl (by kernel_rfl) | (apply q_neS; rfl; rfl) | (apply q_lenS; rfl))))
          refine hl_storeA 0 rfl rfl rfl rfl rfl (chV_one nil_ok) ?_
          repeat' (first | refine hl_a ?_ | refine hq_a ?_ | refine hl_nil ?_ | refine hq_nil ?_ | refine hq_ga ?_ | refine hq_sk ?_ | refine hq_su ?_ | refine hq_gT ?_ | refine hq_gF ?_ | refine hq_gd (fun h => ?_) (fun h => ?_) | refine hl_ga ?_ | refine hl_sk ?_ | refine hl_su ?_ | refine hl_gT ?_ | refine hl_gF ?_ | refine hl_gd (fun h => ?_) (fun h => ?_) | refine hx_next ?_ | refine hw_seq ?_ | refine hw_region ?_ | refine hw_dr ?_ | refine hw_block ?_ | refine hx_block ?_ | refine hw_tt ?_ | refine hw_ff ?_ | refine hw_iT ?_ | refine hw_iF ?_ | refine hw_skip ?_ | refine hw_ret ?_ | refine hw_exit ?_ | refine hx_then_ret ?_ | refine hx_block_ret ?_ | refine hx_then_exit ?_ | refine hx_block_here ?_ | refine hx_far ?_ | refine hx_any ?_ | (apply ha_end; decide +kernel))
          exact hx_retBt 0 rfl rfl rfl rfl rfl (fun w hm => ⟨_, _, rfl, maps_nil 115 2 hm.none, by rw [h5]; exact mpErr _ _ _ rfl⟩)
      · rcases Nat.lt_or_ge t 2 with h2 | h2
        · have ht1 : (t : Int) = 1 := by omega
          have htt : t + 1 - 2 = t - 2 := by omega
          repeat' (first | refine hl_a ?_ | refine hq_a ?_ | refine hl_nil ?_ | refine hq_nil ?_ | refine hq_ga ?_ | refine hq_sk ?_ | refine hq_su ?_ | refine hq_gT ?_ | refine hq_gF ?_ | refine hq_gd (fun h => ?_) (fun h => ?_) | refine hl_ga ?_ | refine hl_sk ?_ | refine hl_su ?_ | refine hl_gT ?_ | refine hl_gF ?_ | refine hl_gd (fun h => ?_) (fun h => ?_) | refine hx_next ?_ | refine hw_seq ?_ | refine hw_region ?_ | refine hw_dr ?_ | refine hw_block ?_ | refine hx_block ?_ | refine hw_tt ?_ | refine hw_ff ?_ | refine hw_iT ?_ | refine hw_iF ?_ | refine hw_skip ?_ | refine hw_ret ?_ | refine hw_exit ?_ | refine hx_then_ret ?_ | refine hx_block_ret ?_ | refine hx_then_exit ?_ | refine hx_block_here ?_ | refine hx_far ?_ | refine hx_any ?_ | (apply ha_end; decide +kernel))
          refine hx_round ⟨t + 1, xv, kv, by rw [htt], by rw [htt]; exact hxv, fun h => absurd h (by omega), fun _ => hkv1 h0, ht2, rfl, rfl⟩ (by omega) ⟨rfl, rfl, rfl, rfl, rfl, rfl, rfl, rfl, rfl, rfl, trivial⟩
        · have ht1 : ¬ ((t : Int) = 1) := by omega
          have ht0 : ¬ ((t : Int) = 0) := by omega
          have hdl : (ws.drop 3).length = ws.length - 3 := List.length_drop
          have hg3 : (ws.drop 3).getD (t - 2) [] = (ws.drop 1).getD t [] := by
            rw [hgd]
            simp only [List.getD_eq_getElem?_getD, List.getElem?_drop]
            rw [show 3 + (t - 2) = t + 1 by omega]
          have hm3 : (ws.drop 1).getD t [] ∈ ws.drop 3 := by rw [← hg3]; exact getD_memL [] (by omega)
          have htt : t + 1 - 2 = (t - 2) + 1 := by omega
          have hsn : ((ws.drop 3).take (t + 1 - 2)).map sgnD = ((ws.drop 3).take (t - 2)).map sgnD ++ [sgnD ((ws.drop 1).getD t [])] := by
            rw [htt, take_succ_getD [] _ _ (by omega), List.map_append, hg3]; rfl
          have hle2 : (((ws.drop 3).take (t - 2)).map sgnD).length ≤ 10001 := by rw [List.length_map, List.length_take]; omega
          rcases Classical.em (OkD ((ws.drop 1).getD t [])) with hq | hq
          · have hq' : ¬ ¬ OkD ((ws.drop 1).getD t []) := fun e => e hq
            have hrd : rdV ((ws.drop 1).getD t []) = sgnD ((ws.drop 1).getD t []) := if_pos hq
            repeat' (first | refine hl_a ?_ | refine hq_a ?_ | refine hl_nil ?_ | refine hq_nil ?_ | refine hq_ga ?_ | refine hq_sk ?_ | refine hq_su ?_ | refine hq_gT ?_ | refine hq_gF ?_ | refine hq_gd (fun h => ?_) (fun h => ?_) | refine hl_ga ?_ | refine hl_sk ?_ | refine hl_su ?_ | refine hl_gT ?_ | refine hl_gF ?_ | refine hl_gd (fun h => ?_) (fun h => ?_) | refine hx_next ?_ | refine hw_seq ?_ | refine hw_region ?_ | refine hw_dr ?_ | refine hw_block ?_ | refine hx_block ?_ | refine hw_tt ?_ | refine hw_ff ?_ | refine hw_iT ?_ | refine hw_iF ?_ | refine hw_skip ?_ | refine hw_ret ?_ | refine hw_exit ?_ | refine hx_then_ret ?_ | refine hx_block_ret ?_ | refine hx_then_exit ?_ | refine hx_block_here ?_ | refine hx_far ?_ | refine hx_any ?_ | (apply ha_end; decide +kernel))
            first | refine hl_q (by decide) (q_call (fun w hm => readDecimal_c _ w hql) rfl) ?_ | refine hq_q (by decide) (q_call (fun w hm => readDecimal_c _ w hql) rfl) ?_ | refine hl_g _ _ rfl rfl (by decide) (q_call (fun w hm => readDecimal_c _ w hql) rfl) ?_ | refine hq_g _ _ rfl rfl (by decide) (q_call (fun w hm => readDecimal_c _ w hql) rfl) ?_
            rw [hrd]
            repeat' (first | refine hl_a ?_ | refine hq_a ?_ | refine hl_nil ?_ | refine hq_nil ?_ | refine hq_ga ?_ | refine hq_sk ?_ | refine hq_su ?_ | refine hq_gT ?_ | refine hq_gF ?_ | refine hq_gd (fun h => ?_) (fun h => ?_) | refine hl_ga ?_ | refine hl_sk ?_ | refine hl_su ?_ | refine hl_gT ?_ | refine hl_gF ?_ | refine hl_gd (fun h => ?_) (fun h => ?_) | refine hx_next ?_ | refine hw_seq ?_ | refine hw_region ?_ | refine hw_dr ?_ | refine hw_block ?_ | refine hx_block ?_ | refine hw_tt ?_ | refine hw_ff ?_ | refine hw_iT ?_ | refine hw_iF ?_ | refine hw_skip ?_ | refine hw_ret ?_ | refine hw_exit ?_ | refine hx_then_ret ?_ | refine hx_block_ret ?_ | refine hx_then_exit ?_ | refine hx_block_here ?_ | refine hx_far ?_ | refine hx_any ?_ | (apply ha_end; decide +kernel) | (apply hl_q; decide; (first | (apply q_load; rfl; exact ld_blkA 6 rfl rfl rfl))) | (apply hq_q; decide; (first | (apply q_load; rfl; exact ld_blkA 6 rfl rfl rfl))) | (apply hq_g; rfl; rfl; decide; (first | (apply q_load; rfl; exact ld_blkA 6 rfl rfl rfl))) | (apply hl_g; rfl; rfl; decide; (first | (apply q_load; rfl; exact ld_blkA 6 rfl rfl rfl))))
            refine hl_pushE 7 rfl (by decide) (by decide) (sgnD ((ws.drop 1).getD t [])) rfl rfl rfl (fun b => rfl) (by omega) (by decide) (fun xn bq hxn => ?_)
            repeat' (first | refine hl_a ?_ | refine hq_a ?_ | refine hl_nil ?_ | refine hq_nil ?_ | refine hq_ga ?_ | refine hq_sk ?_ | refine hq_su ?_ | refine hq_gT ?_ | refine hq_gF ?_ | refine hq_gd (fun h => ?_) (fun h => ?_) | refine hl_ga ?_ | refine hl_sk ?_ | refine hl_su ?_ | refine hl_gT ?_ | refine hl_gF ?_ | refine hl_gd (fun h => ?_) (fun h => ?_) | refine hx_next ?_ | refine hw_seq ?_ | refine hw_region ?_ | refine hw_dr ?_ | refine hw_block ?_ | refine hx_block ?_ | refine hw_tt ?_ | refine hw_ff ?_ | refine hw_iT ?_ | refine hw_iF ?_ | refine hw_skip ?_ | refine hw_ret ?_ | refine hw_exit ?_ | refine hx_then_ret ?_ | refine hx_block_ret ?_ | refine hx_then_exit ?_ | refine hx_block_here ?_ | refine hx_far ?_ | refine hx_any ?_ | (apply ha_end; decide +kernel))
            refine hl_storeB 6 rfl rfl rfl rfl rfl hxn.one ?_
            repeat' (first | refine hl_a ?_ | refine hq_a ?_ | refine hl_nil ?_ | refine hq_nil ?_ | refine hq_ga ?_ | refine hq_sk ?_ | refine hq_su ?_ | refine hq_gT ?_ | refine hq_gF ?_ | refine hq_gd (fun h => ?_) (fun h => ?_) | refine hl_ga ?_ | refine hl_sk ?_ | refine hl_su ?_ | refine hl_gT ?_ | refine hl_gF ?_ | refine hl_gd (fun h => ?_) (fun h => ?_) | refine hx_next ?_ | refine hw_seq ?_ | refine hw_region ?_ | refine hw_dr ?_ | refine hw_block ?_ | refine hx_block ?_ | refine hw_tt ?_ | refine hw_ff ?_ | refine hw_iT ?_ | refine hw_iF ?_ | refine hw_skip ?_ | refine hw_ret ?_ | refine hw_exit ?_ | refine hx_then_ret ?_ | refine hx_block_ret ?_ | refine hx_then_exit ?_ | refine hx_block_here ?_ | refine hx_far ?_ | refine hx_any ?_ | (apply ha_end; decide +kernel))
            refine hx_round ⟨t + 1, xn, kv, by rw [hsn]; rfl, by rw [hsn]; exact hxn, fun h => absurd h (by omega), fun _ => hkv1 (by omega), ht2, rfl, rfl⟩ (by omega) ⟨rfl, rfl, rfl, rfl, rfl, rfl, rfl, rfl, rfl, rfl, trivial⟩
          · have h5 := hno2 _ (.inr hm3) hq
            repeat' (first | refine hl_a ?_ | refine hq_a ?_ | refine hl_nil ?_ | refine hq_nil ?_ | refine hq_ga ?_ | refine hq_sk ?_ | refine hq_su ?_ | refine hq_gT ?_ | refine hq_gF ?_ | refine hq_gd (fun h => ?_) (fun h => ?_) | refine hl_ga ?_ | refine hl_sk ?_ | refine hl_su ?_ | refine hl_gT ?_ | refine hl_gF ?_ | refine hl_gd (fun h => ?_) (fun h => ?_) | refine hx_next ?_ | refine hw_seq ?_ | refine hw_region ?_ | refine hw_dr ?_ | refine hw_block ?_ | refine hx_block ?_ | refine hw_tt ?_ | refine hw_ff ?_ | refine hw_iT ?_ | refine hw_iF ?_ | refine hw_skip ?_ | refine hw_ret ?_ | refine hw_exit ?_ | refine hx_then_ret ?_ | refine hx_block_ret ?_ | refine hx_then_exit ?_ | refine hx_block_here ?_ | refine hx_far ?_ | refine hx_any ?_ | (apply ha_end; decide +kernel))
            first | refine hl_q (by decide) (q_call (fun w hm => readDecimal_c _ w hql) rfl) ?_ | refine hq_q (by decide) (q_call (fun w hm => readDecimal_c _ w hql) rfl) ?_ | refine hl_g _ _ rfl rfl (by decide) (q_call (fun w hm => readDecimal_c _ w hql) rfl) ?_ | refine hq_g _ _ rfl rfl (by decide) (q_call (fun w hm => readDecimal_c _ w hql) rfl) ?_
            repeat' (first | refine hl_a ?_ | refine hq_a ?_ | refine hl_nil ?_ | refine hq_nil ?_ | refine hq_ga ?_ | refine hq_sk ?_ | refine hq_su ?_ | refine hq_gT ?_ | refine hq_gF ?_ | refine hq_gd (fun h => ?_) (fun h => ?_) | refine hl_ga ?_ | refine hl_sk ?_ | refine hl_su ?_ | refine hl_gT ?_ | refine hl_gF ?_ | refine hl_gd (fun h => ?_) (fun h => ?_) | refine hx_next ?_ | refine hw_seq ?_ | refine hw_region ?_ | refine hw_dr ?_ | refine hw_block ?_ | refine hx_block ?_ | refine hw_tt ?_ | refine hw_ff ?_ | refine hw_iT ?_ | refine hw_iF ?_ | refine hw_skip ?_ | refine hw_ret ?_ | refine hw_exit ?_ | refine hx_then_ret ?_ | refine hx_block_ret ?_ | refine hx_then_exit ?_ | refine hx_block_here ?_ | refine hx_far ?_ | refine hx_any ?_ | (apply ha_end; decide +kernel) | (apply hl_q; decide; (first | exact q_bld [] #[.int .i64 0, .int .i64 0, .slice none 0 0] rfl (by kernel_rfl) | (apply q_neS; rfl; rfl) | (apply q_lenS; rfl))) | (apply hq_q; decide; (first | exact q_bld [] #[.int .i64 0, .int .i64 0, .slice none 0 0] rfl (by kernel_rfl) | (apply q_neS; rfl; rfl) | (apply q_lenS; rfl))) | (apply hq_g; rfl; rfl; decide; (first | exact q_bld [] #[.int .i64 0, .int .i64 0, .slice none 0 0] rfl (by kernel_rfl) | (apply q_neS; rfl; rfl) | (apply q_lenS; rfl))) | (apply hl_g; rfl; rfl; decide; (first | exact q_bld [] #[.int .i64 0, .int .i64 0, .slice none 0 0] rfl (by kernel_rfl) | (apply q_neS; rfl; rfl) | (apply q_lenS; rfl))))
            refine hl_storeA 0 rfl rfl rfl rfl rfl (chV_one nil_ok) ?_
            repeat' (first | refine hl_a ?_ | refine hq_a ?_ | refine hl_nil ?_ | refine hq_nil ?_ | refine hq_ga ?_ | refine hq_sk ?_ | refine hq_su ?_ | refine hq_gT ?_ | refine hq_gF ?_ | refine hq_gd (fun h => ?_) (fun h => ?_) | refine hl_ga ?_ | refine hl_sk ?_ | refine hl_su ?_ | refine hl_gT ?_ | refine hl_gF ?_ | refine hl_gd (fun h => ?_) (fun h => ?_) | refine hx_next ?_ | refine hw_seq ?_ | refine hw_region ?_ | refine hw_dr ?_ | refine hw_block ?_ | refine hx_block ?_ | refine hw_tt ?_ | refine hw_ff ?_ | refine hw_iT ?_ | refine hw_iF ?_ | refine hw_skip ?_ | refine hw_ret ?_ | refine hw_exit ?_ | refine hx_then_ret ?_ | refine hx_block_ret ?_ | refine hx_then_exit ?_ | refine hx_block_here ?_ | refine hx_far ?_ | refine hx_any ?_ | (apply ha_end; decide +kernel))
            exact hx_retBt 0 rfl rfl rfl rfl rfl (fun w hm => ⟨_, _, rfl, maps_nil 115 2 hm.none, by rw [h5]; exact mpErr _ _ _ rfl⟩)
    · have e : t = ws.length - 1 := by omega
      subst e
      have hkv := hkv1 (by omega)
      subst hkv
      have htk : (ws.drop 3).take (ws.length - 1 - 2) = ws.drop 3 := List.take_of_length_le (by rw [List.length_drop]; omega)
      have hto : (ws.drop 3).map sgnD = toL ws := rfl
      rw [htk, hto] at hxv
      rw [htk, hto]
      repeat' (first | refine hl_a ?_ | refine hq_a ?_ | refine hl_nil ?_ | refine hq_nil ?_ | refine hq_ga ?_ | refine hq_sk ?_ | refine hq_su ?_ | refine hq_gT ?_ | refine hq_gF ?_ | refine hq_gd (fun h => ?_) (fun h => ?_) | refine hl_ga ?_ | refine hl_sk ?_ | refine hl_su ?_ | refine hl_gT ?_ | refine hl_gF ?_ | refine hl_gd (fun h => ?_) (fun h => ?_) | refine hx_next ?_ | refine hw_seq ?_ | refine hw_region ?_ | refine hw_dr ?_ | refine hw_block ?_ | refine hx_block ?_ | refine hw_tt ?_ | refine hw_ff ?_ | refine hw_iT ?_ | refine hw_iF ?_ | refine hw_skip ?_ | refine hw_ret ?_ | refine hw_exit ?_ | refine hx_then_ret ?_ | refine hx_block_ret ?_ | refine hx_then_exit ?_ | refine hx_block_here ?_ | refine hx_far ?_ | refine hx_any ?_ | (apply ha_end; decide +kernel) | (apply hl_q; decide; (exact q_loadB 6 rfl rfl rfl)) | (apply hq_q; decide; (exact q_loadB 6 rfl rfl rfl)) | (apply hq_g; rfl; rfl; decide; (exact q_loadB 6 rfl rfl rfl)) | (apply hl_g; rfl; rfl; decide; (exact q_loadB 6 rfl rfl rfl)))
      refine hl_pushS 3 rfl (by decide) (by decide) rfl rfl hxv.one rfl (fun b => rfl) (by omega) (by decide) (fun u' b2 hu2 => ?_)
      repeat' (first | refine hl_a ?_ | refine hq_a ?_ | refine hl_nil ?_ | refine hq_nil ?_ | refine hq_ga ?_ | refine hq_sk ?_ | refine hq_su ?_ | refine hq_gT ?_ | refine hq_gF ?_ | refine hq_gd (fun h => ?_) (fun h => ?_) | refine hl_ga ?_ | refine hl_sk ?_ | refine hl_su ?_ | refine hl_gT ?_ | refine hl_gF ?_ | refine hl_gd (fun h => ?_) (fun h => ?_) | refine hx_next ?_ | refine hw_seq ?_ | refine hw_region ?_ | refine hw_dr ?_ | refine hw_block ?_ | refine hx_block ?_ | refine hw_tt ?_ | refine hw_ff ?_ | refine hw_iT ?_ | refine hw_iF ?_ | refine hw_skip ?_ | refine hw_ret ?_ | refine hw_exit ?_ | refine hx_then_ret ?_ | refine hx_block_ret ?_ | refine hx_then_exit ?_ | refine hx_block_here ?_ | refine hx_far ?_ | refine hx_any ?_ | (apply ha_end; decide +kernel))
      refine hl_storeB 2 rfl rfl rfl rfl rfl hu2.one ?_
      repeat' (first | refine hl_a ?_ | refine hq_a ?_ | refine hl_nil ?_ | refine hq_nil ?_ | refine hq_ga ?_ | refine hq_sk ?_ | refine hq_su ?_ | refine hq_gT ?_ | refine hq_gF ?_ | refine hq_gd (fun h => ?_) (fun h => ?_) | refine hl_ga ?_ | refine hl_sk ?_ | refine hl_su ?_ | refine hl_gT ?_ | refine hl_gF ?_ | refine hl_gd (fun h => ?_) (fun h => ?_) | refine hx_next ?_ | refine hw_seq ?_ | refine hw_region ?_ | refine hw_dr ?_ | refine hw_block ?_ | refine hx_block ?_ | refine hw_tt ?_ | refine hw_ff ?_ | refine hw_iT ?_ | refine hw_iF ?_ | refine hw_skip ?_ | refine hw_ret ?_ | refine hw_exit ?_ | refine hx_then_ret ?_ | refine hx_block_ret ?_ | refine hx_then_exit ?_ | refine hx_block_here ?_ | refine hx_far ?_ | refine hx_any ?_ | (apply ha_end; decide +kernel))
      refine hx_mem (rs' := [rBlk b0 #[.int .i64 0, .int .i64 0, .slice none 0 0] 55, rE 9 sV u L, rBlk bm #[.int .i64 a, .int .i64 b, u'] 55, rOwn 115 2 u' (k + 1) (cells2 (keysL L (k + 1)) (us ++ [xv])), rStar (rRow 2 (Value.int .i64) (us ++ [xv]) (rowsL L (k + 1)))]) (fun w hm => ?_) ?_
      · rw [hkk, hrk, cells2_snoc _ _ _ _ (by unfold keysL; rw [tab_length]; exact hus.symm), rRow_snoc _ _ _ _ (by unfold rowsL; rw [tab_length]; exact hus)]
        exact Mem.pack [_, _, _, _] (hm.pick (rs' := [_, _, _, _, _, _]) [0, 1, 2, 3, 4, 7] (by simp) rfl)
      · exact hx_round ⟨k + 1, u', us ++ [xv], rfl, by simp [hus], hk2, rfl, rfl⟩ (by omega) ⟨rfl, rfl, rfl, rfl, rfl, rfl, trivial⟩
  have e : k = L.length - 1 := by omega
  subst e
  have hrl : us.length = (rowsL L (L.length - 1)).length := by unfold rowsL; rw [tab_length]; exact hus
  have hkl : (keysL L (L.length - 1)).length = (rowsL L (L.length - 1)).length := by unfold keysL rowsL; rw [tab_length, tab_length]
  have hpp : ∀ st tot ks xss, IsM s st tot ks xss → IsM s a b (keysL L (L.length - 1)) (rowsL L (L.length - 1)) := fun st tot ks xss hc => by
    have h1 := (hc.parse ho).1
    rw [ho1] at h1
    simp only [Option.some.injEq, List.cons.injEq, and_true] at h1
    rw [(hc.lists ho).1, (hc.lists ho).2, h1.1, h1.2]; exact hc
  refine hw_own 3 rfl (fun hx4 => ?_)
  have hx5 : SlOk x' (rowsL L (L.length - 1)).length := by rw [← hrl, hus]; exact hx4
  generalize rowsL L (L.length - 1) = xss at hrl hkl hpp hx5
  generalize keysL L (L.length - 1) = ks at hkl hpp
  refine hw_mem (fun w hm => hm.maps [rBlk b0 #[.int .i64 0, .int .i64 0, .slice none 0 0] 55, rBlk bm #[.int .i64 a, .int .i64 b, x'] 55] [0, 2] 3 4 hus.symm (by decide) rfl rfl rfl) ?_
  rcases Classical.em (ValidM a b ks xss) with hv | hv
  · have hv' : ¬ ¬ ValidM a b ks xss := fun e => e hv
    repeat' (first | refine hl_a ?_ | refine hq_a ?_ | refine hl_nil ?_ | refine hq_nil ?_ | refine hq_ga ?_ | refine hq_sk ?_ | refine hq_su ?_ | refine hq_gT ?_ | refine hq_gF ?_ | refine hq_gd (fun h => ?_) (fun h => ?_) | refine hl_ga ?_ | refine hl_sk ?_ | refine hl_su ?_ | refine hl_gT ?_ | refine hl_gF ?_ | refine hl_gd (fun h => ?_) (fun h => ?_) | refine hx_next ?_ | refine hw_seq ?_ | refine hw_region ?_ | refine hw_dr ?_ | refine hw_block ?_ | refine hx_block ?_ | refine hw_tt ?_ | refine hw_ff ?_ | refine hw_iT ?_ | refine hw_iF ?_ | refine hw_skip ?_ | refine hw_ret ?_ | refine hw_exit ?_ | refine hx_then_ret ?_ | refine hx_block_ret ?_ | refine hx_then_exit ?_ | refine hx_block_here ?_ | refine hx_far ?_ | refine hx_any ?_ | (apply ha_end; decide +kernel))
    first | refine hl_q (by decide) (q_call (fun w hm => implValidMaps_c a b x' ks xss _ w (hm.rdM 2 rfl hrl hkl)) rfl) ?_ | refine hq_q (by decide) (q_call (fun w hm => implValidMaps_c a b x' ks xss _ w (hm.rdM 2 rfl hrl hkl)) rfl) ?_ | refine hl_g _ _ rfl rfl (by decide) (q_call (fun w hm => implValidMaps_c a b x' ks xss _ w (hm.rdM 2 rfl hrl hkl)) rfl) ?_ | refine hq_g _ _ rfl rfl (by decide) (q_call (fun w hm => implValidMaps_c a b x' ks xss _ w (hm.rdM 2 rfl hrl hkl)) rfl) ?_
    repeat' (first | refine hl_a ?_ | refine hq_a ?_ | refine hl_nil ?_ | refine hq_nil ?_ | refine hq_ga ?_ | refine hq_sk ?_ | refine hq_su ?_ | refine hq_gT ?_ | refine hq_gF ?_ | refine hq_gd (fun h => ?_) (fun h => ?_) | refine hl_ga ?_ | refine hl_sk ?_ | refine hl_su ?_ | refine hl_gT ?_ | refine hl_gF ?_ | refine hl_gd (fun h => ?_) (fun h => ?_) | refine hx_next ?_ | refine hw_seq ?_ | refine hw_region ?_ | refine hw_dr ?_ | refine hw_block ?_ | refine hx_block ?_ | refine hw_tt ?_ | refine hw_ff ?_ | refine hw_iT ?_ | refine hw_iF ?_ | refine hw_skip ?_ | refine hw_ret ?_ | refine hw_exit ?_ | refine hx_then_ret ?_ | refine hx_block_ret ?_ | refine hx_then_exit ?_ | refine hx_block_here ?_ | refine hx_far ?_ | refine hx_any ?_ | (apply ha_end; decide +kernel))
    first | refine hl_q (by decide) (q_call (fun w hm => mapsText_c a b x' ks xss _ w (hm.rdM 2 rfl hrl hkl) hv) rfl) ?_ | refine hq_q (by decide) (q_call (fun w hm => mapsText_c a b x' ks xss _ w (hm.rdM 2 rfl hrl hkl) hv) rfl) ?_ | refine hl_g _ _ rfl rfl (by decide) (q_call (fun w hm => mapsText_c a b x' ks xss _ w (hm.rdM 2 rfl hrl hkl) hv) rfl) ?_ | refine hq_g _ _ rfl rfl (by decide) (q_call (fun w hm => mapsText_c a b x' ks xss _ w (hm.rdM 2 rfl hrl hkl) hv) rfl) ?_
    rcases Classical.em (textM a b ks xss xss.length ≠ s) with ht | ht
    · have h5 : rmM s = pErr 5 := rmM_no hl (fun st tot ks' xss' hc => ht (hpp _ _ _ _ hc).2.2)
      repeat' (first | refine hl_a ?_ | refine hq_a ?_ | refine hl_nil ?_ | refine hq_nil ?_ | refine hq_ga ?_ | refine hq_sk ?_ | refine hq_su ?_ | refine hq_gT ?_ | refine hq_gF ?_ | refine hq_gd (fun h => ?_) (fun h => ?_) | refine hl_ga ?_ | refine hl_sk ?_ | refine hl_su ?_ | refine hl_gT ?_ | refine hl_gF ?_ | refine hl_gd (fun h => ?_) (fun h => ?_) | refine hx_next ?_ | refine hw_seq ?_ | refine hw_region ?_ | refine hw_dr ?_ | refine hw_block ?_ | refine hx_block ?_ | refine hw_tt ?_ | refine hw_ff ?_ | refine hw_iT ?_ | refine hw_iF ?_ | refine hw_skip ?_ | refine hw_ret ?_ | refine hw_exit ?_ | refine hx_then_ret ?_ | refine hx_block_ret ?_ | refine hx_then_exit ?_ | refine hx_block_here ?_ | refine hx_far ?_ | refine hx_any ?_ | (apply ha_end; decide +kernel) | (apply hl_q; decide; (first | exact q_bld [] #[.int .i64 0, .int .i64 0, .slice none 0 0] rfl (by kernel_rfl) | (apply q_neS; rfl; rfl) | (apply q_lenS; rfl))) | (apply hq_q; decide; (first | exact q_bld [] #[.int .i64 0, .int .i64 0, .slice none 0 0] rfl (by kernel_rfl) | (apply q_neS; rfl; rfl) | (apply q_lenS; rfl))) | (apply hq_g; rfl; rfl; decide; (first | exact q_bld [] #[.int .i64 0, .int .i64 0, .slice none 0 0] rfl (by kernel_rfl) | (apply q_neS; rfl; rfl) | (apply q_lenS; rfl))) | (apply hl_g; rfl; rfl; decide; (first | exact q_bld [] #[.int .i64 0, .int .i64 0, .slice none 0 0] rfl (by kernel_rfl) | (apply q_neS; rfl; rfl) | (apply q_lenS; rfl))))
      refine hl_storeA 0 rfl rfl rfl rfl rfl (chV_one nil_ok) ?_
      repeat' (first | refine hl_a ?_ | refine hq_a ?_ | refine hl_nil ?_ | refine hq_nil ?_ | refine hq_ga ?_ | refine hq_sk ?_ | refine hq_su ?_ | refine hq_gT ?_ | refine hq_gF ?_ | refine hq_gd (fun h => ?_) (fun h => ?_) | refine hl_ga ?_ | refine hl_sk ?_ | refine hl_su ?_ | refine hl_gT ?_ | refine hl_gF ?_ | refine hl_gd (fun h => ?_) (fun h => ?_) | refine hx_next ?_ | refine hw_seq ?_ | refine hw_region ?_ | refine hw_dr ?_ | refine hw_block ?_ | refine hx_block ?_ | refine hw_tt ?_ | refine hw_ff ?_ | refine hw_iT ?_ | refine hw_iF ?_ | refine hw_skip ?_ | refine hw_ret ?_ | refine hw_exit ?_ | refine hx_then_ret ?_ | refine hx_block_ret ?_ | refine hx_then_exit ?_ | refine hx_block_here ?_ | refine hx_far ?_ | refine hx_any ?_ | (apply ha_end; decide +kernel))
      exact hx_retBt 0 rfl rfl rfl rfl rfl (fun w hm => ⟨_, _, rfl, maps_nil 115 2 hm.none, by rw [h5]; exact mpErr _ _ _ rfl⟩)
    · have h0 : rmM s = ⟨a, b, ks, xss, 0⟩ := rmM_ok hl ⟨hv, hkl, Classical.not_not.1 ht⟩
      repeat' (first | refine hl_a ?_ | refine hq_a ?_ | refine hl_nil ?_ | refine hq_nil ?_ | refine hq_ga ?_ | refine hq_sk ?_ | refine hq_su ?_ | refine hq_gT ?_ | refine hq_gF ?_ | refine hq_gd (fun h => ?_) (fun h => ?_) | refine hl_ga ?_ | refine hl_sk ?_ | refine hl_su ?_ | refine hl_gT ?_ | refine hl_gF ?_ | refine hl_gd (fun h => ?_) (fun h => ?_) | refine hx_next ?_ | refine hw_seq ?_ | refine hw_region ?_ | refine hw_dr ?_ | refine hw_block ?_ | refine hx_block ?_ | refine hw_tt ?_ | refine hw_ff ?_ | refine hw_iT ?_ | refine hw_iF ?_ | refine hw_skip ?_ | refine hw_ret ?_ | refine hw_exit ?_ | refine hx_then_ret ?_ | refine hx_block_ret ?_ | refine hx_then_exit ?_ | refine hx_block_here ?_ | refine hx_far ?_ | refine hx_any ?_ | (apply ha_end; decide +kernel) | (apply hl_q; decide; (first | exact q_bld [] #[.int .i64 0, .int .i64 0, .slice none 0 0] rfl (by kernel_rfl) | (apply q_neS; rfl; rfl) | (apply q_lenS; rfl))) | (apply hq_q; decide; (first | exact q_bld [] #[.int .i64 0, .int .i64 0, .slice none 0 0] rfl (by kernel_rfl) | (apply q_neS; rfl; rfl) | (apply q_lenS; rfl))) | (apply hq_g; rfl; rfl; decide; (first | exact q_bld [] #[.int .i64 0, .int .i64 0, .slice none 0 0] rfl (by kernel_rfl) | (apply q_neS; rfl; rfl) | (apply q_lenS; rfl))) | (apply hl_g; rfl; rfl; decide; (first | exact q_bld [] #[.int .i64 0, .int .i64 0, .slice none 0 0] rfl (by kernel_rfl) | (apply q_neS; rfl; rfl) | (apply q_lenS; rfl))))
      refine hl_storeA 0 rfl rfl rfl rfl rfl (chV_one hx5) ?_
      repeat' (first | refine hl_a ?_ | refine hq_a ?_ | refine hl_nil ?_ | refine hq_nil ?_ | refine hq_ga ?_ | refine hq_sk ?_ | refine hq_su ?_ | refine hq_gT ?_ | refine hq_gF ?_ | refine hq_gd (fun h => ?_) (fun h => ?_) | refine hl_ga ?_ | refine hl_sk ?_ | refine hl_su ?_ | refine hl_gT ?_ | refine hl_gF ?_ | refine hl_gd (fun h => ?_) (fun h => ?_) | refine hx_next ?_ | refine hw_seq ?_ | refine hw_region ?_ | refine hw_dr ?_ | refine hw_block ?_ | refine hx_block ?_ | refine hw_tt ?_ | refine hw_ff ?_ | refine hw_iT ?_ | refine hw_iF ?_ | refine hw_skip ?_ | refine hw_ret ?_ | refine hw_exit ?_ | refine hx_then_ret ?_ | refine hx_block_ret ?_ | refine hx_then_exit ?_ | refine hx_block_here ?_ | refine hx_far ?_ | refine hx_any ?_ | (apply ha_end; decide +kernel))
      exact hx_retBt 0 rfl rfl rfl rfl rfl (fun w hm => ⟨_, _, rfl, hm.lone 2 rfl, by rw [h0]; exact ⟨x', us, rfl, rfl, hrl, hx5⟩⟩)
  · have h5 : rmM s = pErr 5 := rmM_no hl (fun st tot ks' xss' hc => hv (hpp _ _ _ _ hc).1)
    repeat' (first | refine hl_a ?_ | refine hq_a ?_ | refine hl_nil ?_ | refine hq_nil ?_ | refine hq_ga ?_ | refine hq_sk ?_ | refine hq_su ?_ | refine hq_gT ?_ | refine hq_gF ?_ | refine hq_gd (fun h => ?_) (fun h => ?_) | refine hl_ga ?_ | refine hl_sk ?_ | refine hl_su ?_ | refine hl_gT ?_ | refine hl_gF ?_ | refine hl_gd (fun h => ?_) (fun h => ?_) | refine hx_next ?_ | refine hw_seq ?_ | refine hw_region ?_ | refine hw_dr ?_ | refine hw_block ?_ | refine hx_block ?_ | refine hw_tt ?_ | refine hw_ff ?_ | refine hw_iT ?_ | refine hw_iF ?_ | refine hw_skip ?_ | refine hw_ret ?_ | refine hw_exit ?_ | refine hx_then_ret ?_ | refine hx_block_ret ?_ | refine hx_then_exit ?_ | refine hx_block_here ?_ | refine hx_far ?_ | refine hx_any ?_ | (apply ha_end; decide +kernel))
    first | refine hl_q (by decide) (q_call (fun w hm => implValidMaps_c a b x' ks xss _ w (hm.rdM 2 rfl hrl hkl)) rfl) ?_ | refine hq_q (by decide) (q_call (fun w hm => implValidMaps_c a b x' ks xss _ w (hm.rdM 2 rfl hrl hkl)) rfl) ?_ | refine hl_g _ _ rfl rfl (by decide) (q_call (fun w hm => implValidMaps_c a b x' ks xss _ w (hm.rdM 2 rfl hrl hkl)) rfl) ?_ | refine hq_g _ _ rfl rfl (by decide) (q_call (fun w hm => implValidMaps_c a b x' ks xss _ w (hm.rdM 2 rfl hrl hkl)) rfl) ?_
    repeat' (first | refine hl_a ?_ | refine hq_a ?_ | refine hl_nil ?_ | refine hq_nil ?_ | refine hq_ga ?_ | refine hq_sk ?_ | refine hq_su ?_ | refine hq_gT ?_ | refine hq_gF ?_ | refine hq_gd (fun h => ?_) (fun h => ?_) | refine hl_ga ?_ | refine hl_sk ?_ | refine hl_su ?_ | refine hl_gT ?_ | refine hl_gF ?_ | refine hl_gd (fun h => ?_) (fun h => ?_) | refine hx_next ?_ | refine hw_seq ?_ | refine hw_region ?_ | refine hw_dr ?_ | refine hw_block ?_ | refine hx_block ?_ | refine hw_tt ?_ | refine hw_ff ?_ | refine hw_iT ?_ | refine hw_iF ?_ | refine hw_skip ?_ | refine hw_ret ?_ | refine hw_exit ?_ | refine hx_then_ret ?_ | refine hx_block_ret ?_ | refine hx_then_exit ?_ | refine hx_block_here ?_ | refine hx_far ?_ | refine hx_any ?_ | (apply ha_end; decide +kernel) | (apply hl_q; decide; (first | exact q_bld [] #[.int .i64 0, .int .i64 0, .slice none 0 0] rfl (by kernel_rfl) | (apply q_neS; rfl; rfl) | (apply q_lenS; rfl))) | (apply hq_q; decide; (first | exact q_bld [] #[.int .i64 0, .int .i64 0, .slice none 0 0] rfl (by kernel_rfl) | (apply q_neS; rfl; rfl) | (apply q_lenS; rfl))) | (apply hq_g; rfl; rfl; decide; (first | exact q_bld [] #[.int .i64 0, .int .i64 0, .slice none 0 0] rfl (by kernel_rfl) | (apply q_neS; rfl; rfl) | (apply q_lenS; rfl))) | (apply hl_g; rfl; rfl; decide; (first | exact q_bld [] #[.int .i64 0, .int .i64 0, .slice none 0 0] rfl (by kernel_rfl) | (apply q_neS; rfl; rfl) | (apply q_lenS; rfl))))
    refine hl_storeA 0 rfl rfl rfl rfl rfl (chV_one nil_ok) ?_
    repeat' (first | refine hl_a ?_ | refine hq_a ?_ | refine hl_nil ?_ | refine hq_nil ?_ | refine hq_ga ?_ | refine hq_sk ?_ | refine hq_su ?_ | refine hq_gT ?_ | refine hq_gF ?_ | refine hq_gd (fun h => ?_) (fun h => ?_) | refine hl_ga ?_ | refine hl_sk ?_ | refine hl_su ?_ | refine hl_gT ?_ | refine hl_gF ?_ | refine hl_gd (fun h => ?_) (fun h => ?_) | refine hx_next ?_ | refine hw_seq ?_ | refine hw_region ?_ | refine hw_dr ?_ | refine hw_block ?_ | refine hx_block ?_ | refine hw_tt ?_ | refine hw_ff ?_ | refine hw_iT ?_ | refine hw_iF ?_ | refine hw_skip ?_ | refine hw_ret ?_ | refine hw_exit ?_ | refine hx_then_ret ?_ | refine hx_block_ret ?_ | refine hx_then_exit ?_ | refine hx_block_here ?_ | refine hx_far ?_ | refine hx_any ?_ | (apply ha_end; decide +kernel))
    exact hx_retBt 0 rfl rfl rfl rfl rfl (fun w hm => ⟨_, _, rfl, maps_nil 115 2 hm.none, by rw [h5]; exact mpErr _ _ _ rfl⟩)
end Go.Proofs.Ytgeidbjcphjbiaa
