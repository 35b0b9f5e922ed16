/- Contracts: the first path, by the book. -/
import Derived.Test.YtaeoiibmkbkaeaaF26
import Derived.Test.YtaeoiibmkbkaeaaF25
import Derived.Test.YtaeoiibmkbkaeaaPureG
namespace Go.Proofs.Ytaeoiibmkbkaeaa
open Go.Eng Go.RowKit
set_option linter.unusedVariables false

theorem mem_star {w0 w : World} {rs l : List Res} {r : Res} (i : Nat) (h : Mem w0 rs w) (hi : rs[i]? = some (rStar l)) (hr : r ∈ l) : Mem w0 [r] w := by
  have h1 : Mem w0 (rs.set i r) w := mem_conv h hi (fun hh => hh.1 r hr) (fun b hb => ⟨r, hr, hb⟩)
  exact h1.lone i (by rw [List.getElem?_set_self (List.getElem?_eq_some_iff.1 hi).1])
theorem rE_N (e : TypeId) (v : Value) (p : List Nat) : rE e (Value.int .i64) v (p.map fun j : Nat => (j : Int)) = rE e eN v p := by
  unfold rE
  simp only [List.length_map, List.map_map]
  rfl
theorem find_first {P : List Nat → Bool} : ∀ (L : List (List Nat)) (i : Nat), i < L.length → P (L.getD i []) = true → (∀ j, j < i → P (L.getD j []) = false) → L.find? P = some (L.getD i [])
  | [], i, h, _, _ => by simp at h
  | a :: L, 0, _, h, _ => by simp at h; simp [h]
  | a :: L, i + 1, hl, h, hj => by
    have h0 := hj 0 (by omega)
    simp at h0
    have := find_first L i (by simpa using hl) (by simpa using h) (fun j hj2 => by have := hj (j + 1) (by omega); simpa using this)
    simp [h0, this]
theorem lastN_get {p : List Nat} {k : Nat} (h : p.length = k + 1) : p.getD k 0 = lastN p := by
  unfold lastN
  rw [List.getLast?_eq_getElem?, h, List.getD_eq_getElem?_getD]; rfl
theorem take_next (xss : List (List Int)) (L : List (List Nat)) (i : Nat) (hi : i < L.length) : nextL xss (L.take (i + 1)) = nextL xss (L.take i) ++ extK xss (L.getD i []) xss.length := by
  rw [take_succ_getD [] _ _ hi, nextL_append]
  simp [nextL]
theorem l00Own_v (v : Value) (xs : List Int) (hn : xs.length ≤ 1000) (h0 : xs.length ≠ 0) (w : World) (hx : RdE (Value.int .i64) 0 w v xs) : Gives Try.prog 72 [v] w (OutE 2 (Value.int .i64) xs) := by
  have hs := hx.sl
  unfold SlOk at hs
  obtain ⟨a, c, rfl, _, _, h3⟩ := hs
  obtain ⟨a, rfl⟩ := Option.isSome_iff_exists.1 (h3 h0)
  exact l00Own_c a c xs hn w hx
set_option maxHeartbeats 2000000 in
theorem l06First_c (pt : Addr) (st tot : Int) (v : Value) (xss : List (List Int)) (row : Nat → Value) (s t : Nat) (w : World) (hp : PtC w pt st tot v xss row) (hv : Valid st tot xss) (hcon : conB xss) (hs : s < xss.length) (ht : t < xss.length) :
    Gives Try.prog 67 [.pointer (some pt), .int .i64 (s : Int), .int .i64 (t : Int)] w (OutE 2 eN (fpL xss s t)) := by
  refine calls_hw Try.func67 Try.ntmps67 rfl rfl ?_
  have hall := conB_all hcon
  obtain ⟨q0, q1, q2, hr⟩ := id hp
  obtain ⟨rfl, hn1, hn2⟩ := hv.nat
  have hsl := hr.sl
  obtain ⟨D, hD⟩ := dist_ex (xss := xss) (t := t) (fun j hj => rB_iff.1 (hall j t hj ht)) ht
  have hnear := ends_near hD (D s) [s] (by rw [lastN_one]) (by rw [lastN_one]; exact hs) (fun x hx => by simp at hx; subst hx; exact Nat.le_refl _)
  rw [lastN_one, List.cons_append, List.nil_append, fpL_eq hD hs] at hnear
  have hfar : ∀ r, r < D s → ends t (levs xss r [[s]]) = none := fun r h => ends_far hD r [s] (by rw [lastN_one]; exact h)
  repeat' (first | refine hl_a ?_ | refine hq_a ?_ | refine hl_nil ?_ | refine hq_nil ?_ | refine hq_ga ?_ | refine hq_sk ?_ | refine hq_su ?_ | refine hq_gT ?_ | refine hq_gF ?_ | refine hq_gd (fun h => ?_) (fun h => ?_) | refine hl_ga ?_ | refine hl_sk ?_ | refine hl_su ?_ | refine hl_gT ?_ | refine hl_gF ?_ | refine hl_gd (fun h => ?_) (fun h => ?_) | refine hx_next ?_ | refine hw_seq ?_ | refine hw_region ?_ | refine hw_dr ?_ | refine hw_block ?_ | refine hx_block ?_ | refine hw_tt ?_ | refine hw_ff ?_ | refine hw_iT ?_ | refine hw_iF ?_ | refine hw_skip ?_ | refine hw_ret ?_ | refine hw_exit ?_ | refine hx_then_ret ?_ | refine hx_block_ret ?_ | refine hx_then_exit ?_ | refine hx_block_here ?_ | refine hx_far ?_ | refine hx_any ?_ | (apply ha_end; decide +kernel))
  refine hl_build1 (u := eN s) (by decide) rfl rfl rfl (fun b1 => ?_)
  repeat' (first | refine hl_a ?_ | refine hq_a ?_ | refine hl_nil ?_ | refine hq_nil ?_ | refine hq_ga ?_ | refine hq_sk ?_ | refine hq_su ?_ | refine hq_gT ?_ | refine hq_gF ?_ | refine hq_gd (fun h => ?_) (fun h => ?_) | refine hl_ga ?_ | refine hl_sk ?_ | refine hl_su ?_ | refine hl_gT ?_ | refine hl_gF ?_ | refine hl_gd (fun h => ?_) (fun h => ?_) | refine hx_next ?_ | refine hw_seq ?_ | refine hw_region ?_ | refine hw_dr ?_ | refine hw_block ?_ | refine hx_block ?_ | refine hw_tt ?_ | refine hw_ff ?_ | refine hw_iT ?_ | refine hw_iF ?_ | refine hw_skip ?_ | refine hw_ret ?_ | refine hw_exit ?_ | refine hx_then_ret ?_ | refine hx_block_ret ?_ | refine hx_then_exit ?_ | refine hx_block_here ?_ | refine hx_far ?_ | refine hx_any ?_ | (apply ha_end; decide +kernel))
  refine hl_build1 (u := .slice (some ⟨b1, 0, none⟩) 1 1) (by decide) rfl rfl rfl (fun b2 => ?_)
  repeat' (first | refine hl_a ?_ | refine hq_a ?_ | refine hl_nil ?_ | refine hq_nil ?_ | refine hq_ga ?_ | refine hq_sk ?_ | refine hq_su ?_ | refine hq_gT ?_ | refine hq_gF ?_ | refine hq_gd (fun h => ?_) (fun h => ?_) | refine hl_ga ?_ | refine hl_sk ?_ | refine hl_su ?_ | refine hl_gT ?_ | refine hl_gF ?_ | refine hl_gd (fun h => ?_) (fun h => ?_) | refine hx_next ?_ | refine hw_seq ?_ | refine hw_region ?_ | refine hw_dr ?_ | refine hw_block ?_ | refine hx_block ?_ | refine hw_tt ?_ | refine hw_ff ?_ | refine hw_iT ?_ | refine hw_iF ?_ | refine hw_skip ?_ | refine hw_ret ?_ | refine hw_exit ?_ | refine hx_then_ret ?_ | refine hx_block_ret ?_ | refine hx_then_exit ?_ | refine hx_block_here ?_ | refine hx_far ?_ | refine hx_any ?_ | (apply ha_end; decide +kernel))
  refine hw_mem (rs' := [rRows 26 2 eN (.slice (some ⟨b2, 0, none⟩) 1 1) [.slice (some ⟨b1, 0, none⟩) 1 1] [[s]]]) (fun w hm => ?_) ?_
  · have h9 : Mem _ ([rOwn 26 1 (.slice (some ⟨b2, 0, none⟩) 1 1) 1 [.slice (some ⟨b1, 0, none⟩) 1 1]] ++ [rStar [], rE 2 eN (.slice (some ⟨b1, 0, none⟩) 1 1) [s]]) w := hm.empty.pick [1, 2, 0] (by decide) rfl
    exact (Mem.pack [_] h9).rows (n := 1) (xss := [[s]]) 0 1 rfl (by decide) rfl rfl
  refine hw_loop (fun e r m => ∃ (k : Nat) (u : Value) (vs : List Value), r = [rRows 26 2 eN u vs (levs xss k [[s]])] ∧ vs.length = (levs xss k [[s]]).length ∧ SlOk u vs.length ∧ k ≤ D s ∧ m = D s - k ∧ e = [(0, .pointer (some pt)), (2, .int .i64 t), (7, u)])
    ⟨0, _, _, rfl, rfl, lit_ok _ 1 (by decide), Nat.zero_le _, rfl, rfl⟩ ⟨rfl, rfl, rfl, trivial⟩ ?_
  rintro _ _ _ ⟨k, u, vs, rfl, hvs, hu, hk, rfl, rfl⟩
  obtain ⟨LV, hLV⟩ : ∃ LV, levs xss k [[s]] = LV := ⟨_, rfl⟩
  have hpath := levs_path hs k
  have hbdl := levs_bd hs hn2 k
  have hfark := hfar k
  have hsucc := levs_succ xss k [[s]]
  rw [hLV] at hvs hpath hbdl hfark hsucc ⊢
  have hneark : k = D s → ends t LV = some (fpL xss s t) := fun e => by rw [← hLV, e]; exact hnear
  repeat' (first | refine hl_a ?_ | refine hq_a ?_ | refine hl_nil ?_ | refine hq_nil ?_ | refine hq_ga ?_ | refine hq_sk ?_ | refine hq_su ?_ | refine hq_gT ?_ | refine hq_gF ?_ | refine hq_gd (fun h => ?_) (fun h => ?_) | refine hl_ga ?_ | refine hl_sk ?_ | refine hl_su ?_ | refine hl_gT ?_ | refine hl_gF ?_ | refine hl_gd (fun h => ?_) (fun h => ?_) | refine hx_next ?_ | refine hw_seq ?_ | refine hw_region ?_ | refine hw_dr ?_ | refine hw_block ?_ | refine hx_block ?_ | refine hw_tt ?_ | refine hw_ff ?_ | refine hw_iT ?_ | refine hw_iF ?_ | refine hw_skip ?_ | refine hw_ret ?_ | refine hw_exit ?_ | refine hx_then_ret ?_ | refine hx_block_ret ?_ | refine hx_then_exit ?_ | refine hx_block_here ?_ | refine hx_far ?_ | refine hx_any ?_ | (apply ha_end; decide +kernel))
  refine hl_build0 (by decide) (fun b3 => ?_)
  repeat' (first | refine hl_a ?_ | refine hq_a ?_ | refine hl_nil ?_ | refine hq_nil ?_ | refine hq_ga ?_ | refine hq_sk ?_ | refine hq_su ?_ | refine hq_gT ?_ | refine hq_gF ?_ | refine hq_gd (fun h => ?_) (fun h => ?_) | refine hl_ga ?_ | refine hl_sk ?_ | refine hl_su ?_ | refine hl_gT ?_ | refine hl_gF ?_ | refine hl_gd (fun h => ?_) (fun h => ?_) | refine hx_next ?_ | refine hw_seq ?_ | refine hw_region ?_ | refine hw_dr ?_ | refine hw_block ?_ | refine hx_block ?_ | refine hw_tt ?_ | refine hw_ff ?_ | refine hw_iT ?_ | refine hw_iF ?_ | refine hw_skip ?_ | refine hw_ret ?_ | refine hw_exit ?_ | refine hx_then_ret ?_ | refine hx_block_ret ?_ | refine hx_then_exit ?_ | refine hx_block_here ?_ | refine hx_far ?_ | refine hx_any ?_ | (apply ha_end; decide +kernel))
  refine hw_mem (fun w hm => hm.empty) ?_
  refine hw_loop (fun e r m => ∃ (i : Nat) (un : Value) (vn : List Value), r = [rRows 26 2 eN u vs LV, rOwn 26 1 un vn.length vn, rStar (rRow 2 eN vn (nextL xss (LV.take i)))] ∧ vn.length = (nextL xss (LV.take i)).length ∧ SlOk un vn.length ∧ i ≤ LV.length ∧ (∀ j, j < i → lastN (LV.getD j []) ≠ t) ∧ m = LV.length - i ∧ e = [(0, .pointer (some pt)), (2, .int .i64 t), (7, u), (8, un), (9, .int .i64 i)])
    ⟨0, _, [], rfl, rfl, lit_ok _ 0 (by decide), Nat.zero_le _, by omega, rfl, rfl⟩ ⟨rfl, rfl, rfl, rfl, rfl, trivial⟩ ?_
  rintro _ _ _ ⟨i, un, vn, rfl, hvn, hun, hi, hno, rfl, rfl⟩
  repeat' (first | refine hl_a ?_ | refine hq_a ?_ | refine hl_nil ?_ | refine hq_nil ?_ | refine hq_ga ?_ | refine hq_sk ?_ | refine hq_su ?_ | refine hq_gT ?_ | refine hq_gF ?_ | refine hq_gd (fun h => ?_) (fun h => ?_) | refine hl_ga ?_ | refine hl_sk ?_ | refine hl_su ?_ | refine hl_gT ?_ | refine hl_gF ?_ | refine hl_gd (fun h => ?_) (fun h => ?_) | refine hx_next ?_ | refine hw_seq ?_ | refine hw_region ?_ | refine hw_dr ?_ | refine hw_block ?_ | refine hx_block ?_ | refine hw_tt ?_ | refine hw_ff ?_ | refine hw_iT ?_ | refine hw_iF ?_ | refine hw_skip ?_ | refine hw_ret ?_ | refine hw_exit ?_ | refine hx_then_ret ?_ | refine hx_block_ret ?_ | refine hx_then_exit ?_ | refine hx_block_here ?_ | refine hx_far ?_ | refine hx_any ?_ | (apply ha_end; decide +kernel))
  refine hw_if rfl (fun hlt => ?_) (fun hge => ?_)
  · have hi2 : i < LV.length := by omega
    have hi3 : i < vs.length := by omega
    obtain ⟨p, hpe⟩ : ∃ p, LV.getD i [] = p := ⟨_, rfl⟩
    have hpk : PathK xss k p := hpath p (by rw [← hpe, getD_lt _ _ _ hi2]; exact List.getElem_mem hi2)
    have hpn := hpk.le
    have hplen := hpk.len
    have hlast := lastN_get hplen
    have ha : lastN p < xss.length := hpk.lt _ (by rw [← hlast]; exact nget_mem (by omega))
    have hnl := nextL_len xss (LV.take i)
    have htk : (LV.take i).length ≤ 7776 := by rw [List.length_take]; omega
    have hnl2 := Nat.mul_le_mul hn2 htk
    refine hw_fact (fun w hm => ((hm.rdS 0 rfl hvs 0).row i hi2).sl) (fun hs0 => ?_)
    rw [hpe, hplen] at hs0
    have hld1 : Ld w [rRows 26 2 eN u vs LV, rOwn 26 1 un vn.length vn, rStar (rRow 2 eN vn (nextL xss (LV.take i)))] (vAt u i) (vs.getD i undef) := ld_rows 0 rfl hi3
    have hkk : k < k + 1 := by omega
    have hld2 : Ld w [rRows 26 2 eN u vs LV, rOwn 26 1 un vn.length vn, rStar (rRow 2 eN vn (nextL xss (LV.take i)))] (vAt (vs.getD i undef) k) (.int .i64 (lastN p : Int)) := ld_res 0 rfl fun w h => by
      have := ((rRows.rd 0 hvs h).row i hi2).get k (by rw [hpe]; omega)
      rw [hpe, hlast] at this; exact this
    have hsub : (((k + 1 : Nat) : Int) - 1) = (k : Int) := by omega
    repeat' (first | refine hl_a ?_ | refine hq_a ?_ | refine hl_nil ?_ | refine hq_nil ?_ | refine hq_ga ?_ | refine hq_sk ?_ | refine hq_su ?_ | refine hq_gT ?_ | refine hq_gF ?_ | refine hq_gd (fun h => ?_) (fun h => ?_) | refine hl_ga ?_ | refine hl_sk ?_ | refine hl_su ?_ | refine hl_gT ?_ | refine hl_gF ?_ | refine hl_gd (fun h => ?_) (fun h => ?_) | refine hx_next ?_ | refine hw_seq ?_ | refine hw_region ?_ | refine hw_dr ?_ | refine hw_block ?_ | refine hx_block ?_ | refine hw_tt ?_ | refine hw_ff ?_ | refine hw_iT ?_ | refine hw_iF ?_ | refine hw_skip ?_ | refine hw_ret ?_ | refine hw_exit ?_ | refine hx_then_ret ?_ | refine hx_block_ret ?_ | refine hx_then_exit ?_ | refine hx_block_here ?_ | refine hx_far ?_ | refine hx_any ?_ | (apply ha_end; decide +kernel))
    rw [hsub]
    repeat' (first | refine hl_a ?_ | refine hq_a ?_ | refine hl_nil ?_ | refine hq_nil ?_ | refine hq_ga ?_ | refine hq_sk ?_ | refine hq_su ?_ | refine hq_gT ?_ | refine hq_gF ?_ | refine hq_gd (fun h => ?_) (fun h => ?_) | refine hl_ga ?_ | refine hl_sk ?_ | refine hl_su ?_ | refine hl_gT ?_ | refine hl_gF ?_ | refine hl_gd (fun h => ?_) (fun h => ?_) | refine hx_next ?_ | refine hw_seq ?_ | refine hw_region ?_ | refine hw_dr ?_ | refine hw_block ?_ | refine hx_block ?_ | refine hw_tt ?_ | refine hw_ff ?_ | refine hw_iT ?_ | refine hw_iF ?_ | refine hw_skip ?_ | refine hw_ret ?_ | refine hw_exit ?_ | refine hx_then_ret ?_ | refine hx_block_ret ?_ | refine hx_then_exit ?_ | refine hx_block_here ?_ | refine hx_far ?_ | refine hx_any ?_ | (apply ha_end; decide +kernel))
    refine hw_if rfl (fun heq => ?_) (fun hne => ?_)
    · have hlt' : lastN p = t := by omega
      have hfind : ends t LV = some p := by
        rw [← hpe]
        exact find_first LV i hi2 (by rw [hpe]; exact decide_eq_true hlt') (fun j hj => decide_eq_false (hno j hj))
      have hkD : k = D s := by
        by_cases e : k < D s
        · rw [hfark e] at hfind; cases hfind
        · omega
      have hpf : p = fpL xss s t := by
        have := hneark hkD
        rw [hfind] at this
        exact Option.some.inj this
      repeat' (first | refine hl_a ?_ | refine hq_a ?_ | refine hl_nil ?_ | refine hq_nil ?_ | refine hq_ga ?_ | refine hq_sk ?_ | refine hq_su ?_ | refine hq_gT ?_ | refine hq_gF ?_ | refine hq_gd (fun h => ?_) (fun h => ?_) | refine hl_ga ?_ | refine hl_sk ?_ | refine hl_su ?_ | refine hl_gT ?_ | refine hl_gF ?_ | refine hl_gd (fun h => ?_) (fun h => ?_) | refine hx_next ?_ | refine hw_seq ?_ | refine hw_region ?_ | refine hw_dr ?_ | refine hw_block ?_ | refine hx_block ?_ | refine hw_tt ?_ | refine hw_ff ?_ | refine hw_iT ?_ | refine hw_iF ?_ | refine hw_skip ?_ | refine hw_ret ?_ | refine hw_exit ?_ | refine hx_then_ret ?_ | refine hx_block_ret ?_ | refine hx_then_exit ?_ | refine hx_block_here ?_ | refine hx_far ?_ | refine hx_any ?_ | (apply ha_end; decide +kernel))
      refine hx_ret1 rfl rfl (fun w hm => ⟨_, _, rfl, mem_star (r := rE 2 eN (vs.getD i undef) p) 0 hm rfl (List.mem_cons_of_mem _ ?_), by rw [hpf], by rw [← hpf, hplen]; exact hs0⟩)
      have h9 := rRow_get (e := 2) (enc := eN) vs LV i hi3 hi2
      rw [hpe] at h9
      exact List.mem_of_getElem? h9
    · have hne2 : lastN p ≠ t := fun e => hne (by rw [e])
      have csa := hr.get _ ha
      have ssa := (hr.row _ ha).sl
      have hal := hv.rlen _ ha
      rw [hal] at ssa
      repeat' (first | refine hl_a ?_ | refine hq_a ?_ | refine hl_nil ?_ | refine hq_nil ?_ | refine hq_ga ?_ | refine hq_sk ?_ | refine hq_su ?_ | refine hq_gT ?_ | refine hq_gF ?_ | refine hq_gd (fun h => ?_) (fun h => ?_) | refine hl_ga ?_ | refine hl_sk ?_ | refine hl_su ?_ | refine hl_gT ?_ | refine hl_gF ?_ | refine hl_gd (fun h => ?_) (fun h => ?_) | refine hx_next ?_ | refine hw_seq ?_ | refine hw_region ?_ | refine hw_dr ?_ | refine hw_block ?_ | refine hx_block ?_ | refine hw_tt ?_ | refine hw_ff ?_ | refine hw_iT ?_ | refine hw_iF ?_ | refine hw_skip ?_ | refine hw_ret ?_ | refine hw_exit ?_ | refine hx_then_ret ?_ | refine hx_block_ret ?_ | refine hx_then_exit ?_ | refine hx_block_here ?_ | refine hx_far ?_ | refine hx_any ?_ | (apply ha_end; decide +kernel))
      refine hw_loop (fun e r m => ∃ (x : Nat) (un : Value) (vn : List Value), r = [rRows 26 2 eN u vs LV, rOwn 26 1 un vn.length vn, rStar (rRow 2 eN vn (nextL xss (LV.take i) ++ extK xss p x))] ∧ vn.length = (nextL xss (LV.take i) ++ extK xss p x).length ∧ SlOk un vn.length ∧ x ≤ xss.length ∧ m = xss.length - x ∧ e = [(0, .pointer (some pt)), (2, .int .i64 t), (7, u), (8, un), (9, .int .i64 i), (10, .int .i64 (lastN p : Int)), (11, .int .i64 x)])
        ⟨0, un, vn, by simp [extK], by simpa [extK] using hvn, hun, Nat.zero_le _, rfl, rfl⟩ ⟨rfl, rfl, rfl, rfl, rfl, rfl, rfl, trivial⟩ ?_
      clear hld1 hld2 hvn hun un vn
      rintro _ _ _ ⟨x, un, vn, rfl, hvn, hun, hx, rfl, rfl⟩
      have hel := extK_len xss p x
      repeat' (first | refine hl_a ?_ | refine hq_a ?_ | refine hl_nil ?_ | refine hq_nil ?_ | refine hq_ga ?_ | refine hq_sk ?_ | refine hq_su ?_ | refine hq_gT ?_ | refine hq_gF ?_ | refine hq_gd (fun h => ?_) (fun h => ?_) | refine hl_ga ?_ | refine hl_sk ?_ | refine hl_su ?_ | refine hl_gT ?_ | refine hl_gF ?_ | refine hl_gd (fun h => ?_) (fun h => ?_) | refine hx_next ?_ | refine hw_seq ?_ | refine hw_region ?_ | refine hw_dr ?_ | refine hw_block ?_ | refine hx_block ?_ | refine hw_tt ?_ | refine hw_ff ?_ | refine hw_iT ?_ | refine hw_iF ?_ | refine hw_skip ?_ | refine hw_ret ?_ | refine hw_exit ?_ | refine hx_then_ret ?_ | refine hx_block_ret ?_ | refine hx_then_exit ?_ | refine hx_block_here ?_ | refine hx_far ?_ | refine hx_any ?_ | (apply ha_end; decide +kernel))
      refine hw_if rfl (fun hlt2 => ?_) (fun hge2 => ?_)
      · have hx2 : x < xss.length := by omega
        have ct : w.cell? (vAt (row (lastN p)) x) = some (.int .i64 (cAt xss (lastN p) x)) := (hr.row _ ha).get x (by rw [hal]; exact hx2)
        have hld1 : Ld w [rRows 26 2 eN u vs LV, rOwn 26 1 un vn.length vn, rStar (rRow 2 eN vn (nextL xss (LV.take i) ++ extK xss p x))] (vAt u i) (vs.getD i undef) := ld_rows 0 rfl hi3
        rcases Classical.em (0 < cAt xss (lastN p) x) with h1 | h1
        · rcases Classical.em ((x : Int) ∈ p.map fun j : Nat => (j : Int)) with h2 | h2
          · have h2n : ¬ ¬ ((x : Int) ∈ p.map fun j : Nat => (j : Int)) := fun e => e h2
            have h2' : x ∈ p := by
              obtain ⟨j, hj, e⟩ := List.mem_map.1 h2
              have : j = x := by omega
              exact this ▸ hj
            have hE : extK xss p (x + 1) = extK xss p x := by rw [extK, if_neg (fun e => e.2 h2'), List.append_nil]
            repeat' (first | refine hl_a ?_ | refine hq_a ?_ | refine hl_nil ?_ | refine hq_nil ?_ | refine hq_ga ?_ | refine hq_sk ?_ | refine hq_su ?_ | refine hq_gT ?_ | refine hq_gF ?_ | refine hq_gd (fun h => ?_) (fun h => ?_) | refine hl_ga ?_ | refine hl_sk ?_ | refine hl_su ?_ | refine hl_gT ?_ | refine hl_gF ?_ | refine hl_gd (fun h => ?_) (fun h => ?_) | refine hx_next ?_ | refine hw_seq ?_ | refine hw_region ?_ | refine hw_dr ?_ | refine hw_block ?_ | refine hx_block ?_ | refine hw_tt ?_ | refine hw_ff ?_ | refine hw_iT ?_ | refine hw_iF ?_ | refine hw_skip ?_ | refine hw_ret ?_ | refine hw_exit ?_ | refine hx_then_ret ?_ | refine hx_block_ret ?_ | refine hx_then_exit ?_ | refine hx_block_here ?_ | refine hx_far ?_ | refine hx_any ?_ | (apply ha_end; decide +kernel))
            first | refine hl_q (by decide) (q_call (fun w hm => l00Has_c (vs.getD i undef) (p.map fun j : Nat => (j : Int)) (x : Int) w (rdN (by have h9 := (hm.rdS 0 rfl hvs 0).row i hi2; rw [hpe] at h9; exact h9))) rfl) ?_ | refine hq_q (by decide) (q_call (fun w hm => l00Has_c (vs.getD i undef) (p.map fun j : Nat => (j : Int)) (x : Int) w (rdN (by have h9 := (hm.rdS 0 rfl hvs 0).row i hi2; rw [hpe] at h9; exact h9))) rfl) ?_ | refine hl_g _ _ rfl rfl (by decide) (q_call (fun w hm => l00Has_c (vs.getD i undef) (p.map fun j : Nat => (j : Int)) (x : Int) w (rdN (by have h9 := (hm.rdS 0 rfl hvs 0).row i hi2; rw [hpe] at h9; exact h9))) rfl) ?_ | refine hq_g _ _ rfl rfl (by decide) (q_call (fun w hm => l00Has_c (vs.getD i undef) (p.map fun j : Nat => (j : Int)) (x : Int) w (rdN (by have h9 := (hm.rdS 0 rfl hvs 0).row i hi2; rw [hpe] at h9; exact h9))) rfl) ?_
            repeat' (first | refine hl_a ?_ | refine hq_a ?_ | refine hl_nil ?_ | refine hq_nil ?_ | refine hq_ga ?_ | refine hq_sk ?_ | refine hq_su ?_ | refine hq_gT ?_ | refine hq_gF ?_ | refine hq_gd (fun h => ?_) (fun h => ?_) | refine hl_ga ?_ | refine hl_sk ?_ | refine hl_su ?_ | refine hl_gT ?_ | refine hl_gF ?_ | refine hl_gd (fun h => ?_) (fun h => ?_) | refine hx_next ?_ | refine hw_seq ?_ | refine hw_region ?_ | refine hw_dr ?_ | refine hw_block ?_ | refine hx_block ?_ | refine hw_tt ?_ | refine hw_ff ?_ | refine hw_iT ?_ | refine hw_iF ?_ | refine hw_skip ?_ | refine hw_ret ?_ | refine hw_exit ?_ | refine hx_then_ret ?_ | refine hx_block_ret ?_ | refine hx_then_exit ?_ | refine hx_block_here ?_ | refine hx_far ?_ | refine hx_any ?_ | (apply ha_end; decide +kernel))
            exact hx_round ⟨x + 1, un, vn, by rw [hE], by rw [hE]; exact hvn, hun, hx2, rfl, rfl⟩ (by omega) ⟨rfl, rfl, rfl, rfl, rfl, rfl, rfl, trivial⟩
          · have h2' : x ∉ p := fun e => h2 (List.mem_map.2 ⟨x, e, rfl⟩)
            have hE : extK xss p (x + 1) = extK xss p x ++ [p ++ [x]] := by rw [extK, if_pos ⟨⟨ha, hx2, h1⟩, h2'⟩]
            have hvn2 := hvn
            rw [List.length_append] at hvn2
            repeat' (first | refine hl_a ?_ | refine hq_a ?_ | refine hl_nil ?_ | refine hq_nil ?_ | refine hq_ga ?_ | refine hq_sk ?_ | refine hq_su ?_ | refine hq_gT ?_ | refine hq_gF ?_ | refine hq_gd (fun h => ?_) (fun h => ?_) | refine hl_ga ?_ | refine hl_sk ?_ | refine hl_su ?_ | refine hl_gT ?_ | refine hl_gF ?_ | refine hl_gd (fun h => ?_) (fun h => ?_) | refine hx_next ?_ | refine hw_seq ?_ | refine hw_region ?_ | refine hw_dr ?_ | refine hw_block ?_ | refine hx_block ?_ | refine hw_tt ?_ | refine hw_ff ?_ | refine hw_iT ?_ | refine hw_iF ?_ | refine hw_skip ?_ | refine hw_ret ?_ | refine hw_exit ?_ | refine hx_then_ret ?_ | refine hx_block_ret ?_ | refine hx_then_exit ?_ | refine hx_block_here ?_ | refine hx_far ?_ | refine hx_any ?_ | (apply ha_end; decide +kernel))
            first | refine hl_q (by decide) (q_call (fun w hm => l00Has_c (vs.getD i undef) (p.map fun j : Nat => (j : Int)) (x : Int) w (rdN (by have h9 := (hm.rdS 0 rfl hvs 0).row i hi2; rw [hpe] at h9; exact h9))) rfl) ?_ | refine hq_q (by decide) (q_call (fun w hm => l00Has_c (vs.getD i undef) (p.map fun j : Nat => (j : Int)) (x : Int) w (rdN (by have h9 := (hm.rdS 0 rfl hvs 0).row i hi2; rw [hpe] at h9; exact h9))) rfl) ?_ | refine hl_g _ _ rfl rfl (by decide) (q_call (fun w hm => l00Has_c (vs.getD i undef) (p.map fun j : Nat => (j : Int)) (x : Int) w (rdN (by have h9 := (hm.rdS 0 rfl hvs 0).row i hi2; rw [hpe] at h9; exact h9))) rfl) ?_ | refine hq_g _ _ rfl rfl (by decide) (q_call (fun w hm => l00Has_c (vs.getD i undef) (p.map fun j : Nat => (j : Int)) (x : Int) w (rdN (by have h9 := (hm.rdS 0 rfl hvs 0).row i hi2; rw [hpe] at h9; exact h9))) rfl) ?_
            repeat' (first | refine hl_a ?_ | refine hq_a ?_ | refine hl_nil ?_ | refine hq_nil ?_ | refine hq_ga ?_ | refine hq_sk ?_ | refine hq_su ?_ | refine hq_gT ?_ | refine hq_gF ?_ | refine hq_gd (fun h => ?_) (fun h => ?_) | refine hl_ga ?_ | refine hl_sk ?_ | refine hl_su ?_ | refine hl_gT ?_ | refine hl_gF ?_ | refine hl_gd (fun h => ?_) (fun h => ?_) | refine hx_next ?_ | refine hw_seq ?_ | refine hw_region ?_ | refine hw_dr ?_ | refine hw_block ?_ | refine hx_block ?_ | refine hw_tt ?_ | refine hw_ff ?_ | refine hw_iT ?_ | refine hw_iF ?_ | refine hw_skip ?_ | refine hw_ret ?_ | refine hw_exit ?_ | refine hx_then_ret ?_ | refine hx_block_ret ?_ | refine hx_then_exit ?_ | refine hx_block_here ?_ | refine hx_far ?_ | refine hx_any ?_ | (apply ha_end; decide +kernel))
            refine hl_call (by decide) (fun w hm => l00Own_v (vs.getD i undef) (p.map fun j : Nat => (j : Int)) (by rw [List.length_map]; omega) (by rw [List.length_map]; omega) w (rdN (by have h9 := (hm.rdS 0 rfl hvs 0).row i hi2; rw [hpe] at h9; exact h9))) rfl ?_
            rintro v1 _ ⟨rfl, hv1⟩
            rw [rE_N]
            repeat' (first | refine hl_a ?_ | refine hq_a ?_ | refine hl_nil ?_ | refine hq_nil ?_ | refine hq_ga ?_ | refine hq_sk ?_ | refine hq_su ?_ | refine hq_gT ?_ | refine hq_gF ?_ | refine hq_gd (fun h => ?_) (fun h => ?_) | refine hl_ga ?_ | refine hl_sk ?_ | refine hl_su ?_ | refine hl_gT ?_ | refine hl_gF ?_ | refine hl_gd (fun h => ?_) (fun h => ?_) | refine hx_next ?_ | refine hw_seq ?_ | refine hw_region ?_ | refine hw_dr ?_ | refine hw_block ?_ | refine hx_block ?_ | refine hw_tt ?_ | refine hw_ff ?_ | refine hw_iT ?_ | refine hw_iF ?_ | refine hw_skip ?_ | refine hw_ret ?_ | refine hw_exit ?_ | refine hx_then_ret ?_ | refine hx_block_ret ?_ | refine hx_then_exit ?_ | refine hx_block_here ?_ | refine hx_far ?_ | refine hx_any ?_ | (apply ha_end; decide +kernel))
            refine hl_pushE 3 rfl (by decide) (by decide) x rfl rfl rfl (fun b => rfl) (by omega) (by decide) (fun v2 b4 hv2 => ?_)
            repeat' (first | refine hl_a ?_ | refine hq_a ?_ | refine hl_nil ?_ | refine hq_nil ?_ | refine hq_ga ?_ | refine hq_sk ?_ | refine hq_su ?_ | refine hq_gT ?_ | refine hq_gF ?_ | refine hq_gd (fun h => ?_) (fun h => ?_) | refine hl_ga ?_ | refine hl_sk ?_ | refine hl_su ?_ | refine hl_gT ?_ | refine hl_gF ?_ | refine hl_gd (fun h => ?_) (fun h => ?_) | refine hx_next ?_ | refine hw_seq ?_ | refine hw_region ?_ | refine hw_dr ?_ | refine hw_block ?_ | refine hx_block ?_ | refine hw_tt ?_ | refine hw_ff ?_ | refine hw_iT ?_ | refine hw_iF ?_ | refine hw_skip ?_ | refine hw_ret ?_ | refine hw_exit ?_ | refine hx_then_ret ?_ | refine hx_block_ret ?_ | refine hx_then_exit ?_ | refine hx_block_here ?_ | refine hx_far ?_ | refine hx_any ?_ | (apply ha_end; decide +kernel))
            refine hl_push 1 rfl (by decide) (by decide) rfl hv2.one rfl (fun b => rfl) (by omega) (by decide) (fun un' b9 hun' => ?_)
            repeat' (first | refine hl_a ?_ | refine hq_a ?_ | refine hl_nil ?_ | refine hq_nil ?_ | refine hq_ga ?_ | refine hq_sk ?_ | refine hq_su ?_ | refine hq_gT ?_ | refine hq_gF ?_ | refine hq_gd (fun h => ?_) (fun h => ?_) | refine hl_ga ?_ | refine hl_sk ?_ | refine hl_su ?_ | refine hl_gT ?_ | refine hl_gF ?_ | refine hl_gd (fun h => ?_) (fun h => ?_) | refine hx_next ?_ | refine hw_seq ?_ | refine hw_region ?_ | refine hw_dr ?_ | refine hw_block ?_ | refine hx_block ?_ | refine hw_tt ?_ | refine hw_ff ?_ | refine hw_iT ?_ | refine hw_iF ?_ | refine hw_skip ?_ | refine hw_ret ?_ | refine hw_exit ?_ | refine hx_then_ret ?_ | refine hx_block_ret ?_ | refine hx_then_exit ?_ | refine hx_block_here ?_ | refine hx_far ?_ | refine hx_any ?_ | (apply ha_end; decide +kernel))
            refine hx_mem (rs' := [rRows 26 2 eN u vs LV, rOwn 26 1 un' (vn ++ [v2]).length (vn ++ [v2]), rStar (rRow 2 eN (vn ++ [v2]) (nextL xss (LV.take i) ++ extK xss p (x + 1)))]) (fun w hm => ?_) ?_
            · rw [hE, ← List.append_assoc, rRow_snoc _ _ _ _ hvn, List.length_append]
              exact Mem.pack [_, _] (hm.pick [0, 1, 2, 3] (by decide) rfl)
            · exact hx_round ⟨x + 1, un', vn ++ [v2], rfl, by rw [hE, ← List.append_assoc, List.length_append, List.length_append, hvn]; simp, by simpa using hun', hx2, rfl, rfl⟩ (by omega) ⟨rfl, rfl, rfl, rfl, rfl, rfl, rfl, trivial⟩
        · have hE : extK xss p (x + 1) = extK xss p x := by rw [extK, if_neg (fun e => h1 e.1.2.2), List.append_nil]
          repeat' (first | refine hl_a ?_ | refine hq_a ?_ | refine hl_nil ?_ | refine hq_nil ?_ | refine hq_ga ?_ | refine hq_sk ?_ | refine hq_su ?_ | refine hq_gT ?_ | refine hq_gF ?_ | refine hq_gd (fun h => ?_) (fun h => ?_) | refine hl_ga ?_ | refine hl_sk ?_ | refine hl_su ?_ | refine hl_gT ?_ | refine hl_gF ?_ | refine hl_gd (fun h => ?_) (fun h => ?_) | refine hx_next ?_ | refine hw_seq ?_ | refine hw_region ?_ | refine hw_dr ?_ | refine hw_block ?_ | refine hx_block ?_ | refine hw_tt ?_ | refine hw_ff ?_ | refine hw_iT ?_ | refine hw_iF ?_ | refine hw_skip ?_ | refine hw_ret ?_ | refine hw_exit ?_ | refine hx_then_ret ?_ | refine hx_block_ret ?_ | refine hx_then_exit ?_ | refine hx_block_here ?_ | refine hx_far ?_ | refine hx_any ?_ | (apply ha_end; decide +kernel))
          exact hx_round ⟨x + 1, un, vn, by rw [hE], by rw [hE]; exact hvn, hun, hx2, rfl, rfl⟩ (by omega) ⟨rfl, rfl, rfl, rfl, rfl, rfl, rfl, trivial⟩
      · have e : x = xss.length := by omega
        subst e
        have hN := take_next xss LV i hi2
        rw [hpe] at hN
        repeat' (first | refine hl_a ?_ | refine hq_a ?_ | refine hl_nil ?_ | refine hq_nil ?_ | refine hq_ga ?_ | refine hq_sk ?_ | refine hq_su ?_ | refine hq_gT ?_ | refine hq_gF ?_ | refine hq_gd (fun h => ?_) (fun h => ?_) | refine hl_ga ?_ | refine hl_sk ?_ | refine hl_su ?_ | refine hl_gT ?_ | refine hl_gF ?_ | refine hl_gd (fun h => ?_) (fun h => ?_) | refine hx_next ?_ | refine hw_seq ?_ | refine hw_region ?_ | refine hw_dr ?_ | refine hw_block ?_ | refine hx_block ?_ | refine hw_tt ?_ | refine hw_ff ?_ | refine hw_iT ?_ | refine hw_iF ?_ | refine hw_skip ?_ | refine hw_ret ?_ | refine hw_exit ?_ | refine hx_then_ret ?_ | refine hx_block_ret ?_ | refine hx_then_exit ?_ | refine hx_block_here ?_ | refine hx_far ?_ | refine hx_any ?_ | (apply ha_end; decide +kernel))
        refine hx_round ⟨i + 1, un, vn, by rw [hN], by rw [hN]; exact hvn, hun, hi2, fun j hj => ?_, rfl, rfl⟩ (by omega) ⟨rfl, rfl, rfl, rfl, rfl, trivial⟩
        by_cases e : j = i
        · rw [e, hpe]; exact hne2
        · exact hno j (by omega)
  · have e : i = LV.length := by omega
    subst e
    rw [List.take_length] at hvn ⊢
    have hkD : k < D s := by
      by_cases e : k < D s
      · exact e
      · have h9 := hneark (by omega)
        have h8 := List.find?_some h9
        have h7 := List.mem_of_find?_eq_some h9
        obtain ⟨j, hj, hje⟩ := List.mem_iff_getElem.1 h7
        exact absurd (of_decide_eq_true h8) (by rw [← hje, ← getD_lt _ _ [] hj]; exact hno j hj)
    repeat' (first | refine hl_a ?_ | refine hq_a ?_ | refine hl_nil ?_ | refine hq_nil ?_ | refine hq_ga ?_ | refine hq_sk ?_ | refine hq_su ?_ | refine hq_gT ?_ | refine hq_gF ?_ | refine hq_gd (fun h => ?_) (fun h => ?_) | refine hl_ga ?_ | refine hl_sk ?_ | refine hl_su ?_ | refine hl_gT ?_ | refine hl_gF ?_ | refine hl_gd (fun h => ?_) (fun h => ?_) | refine hx_next ?_ | refine hw_seq ?_ | refine hw_region ?_ | refine hw_dr ?_ | refine hw_block ?_ | refine hx_block ?_ | refine hw_tt ?_ | refine hw_ff ?_ | refine hw_iT ?_ | refine hw_iF ?_ | refine hw_skip ?_ | refine hw_ret ?_ | refine hw_exit ?_ | refine hx_then_ret ?_ | refine hx_block_ret ?_ | refine hx_then_exit ?_ | refine hx_block_here ?_ | refine hx_far ?_ | refine hx_any ?_ | (apply ha_end; decide +kernel))
    refine hx_mem (rs' := [rRows 26 2 eN un vn (nextL xss LV)]) (fun w hm => hm.rows 1 2 rfl (by decide) rfl rfl) ?_
    rw [← hsucc] at hvn ⊢
    exact hx_round ⟨k + 1, un, vn, rfl, hvn, hun, hkD, rfl, rfl⟩ (by omega) ⟨rfl, rfl, rfl, trivial⟩
end Go.Proofs.Ytaeoiibmkbkaeaa
