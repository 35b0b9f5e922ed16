/- The laws' text over maps: marks; what functions that make maps hand back. -/
import Derived.Test.YtgeidbjcphjbiaaH4
import Derived.Test.YtgeidbjcphjbiaaH5
import Derived.Test.YtgeidbjcphjbiaaLibP
namespace Go.Proofs.Ytgeidbjcphjbiaa
open Go.Eng Go.RowKit
set_option linter.unusedVariables false

/-- Maps with a code. -/
structure MpM where
  st : Int
  tot : Int
  ks : List Int
  xss : List (List Int)
  code : Int
def MpOut (e1 e2 : TypeId) (m : MpM) (v : Value) (rs : List Res) : Prop :=
  ∃ (u : Value) (us : List Value), v = .tuple #[chV m.st m.tot u, .int .i64 m.code] ∧ rs = [rMaps e1 e2 u us m.ks m.xss] ∧ us.length = m.xss.length ∧ SlOk u m.xss.length

def markLen (xss : List (List Int)) : Nat := lens xss + xss.length
def mkK (k : Int) (xss : List (List Int)) : List Int := tab xss.length fun j => k + ((lens (xss.take j) + j : Nat) : Int)
def mkM (k : Int) (xss : List (List Int)) : List (List Int) := tab xss.length fun j => mk (fun k : Int => k) (k + ((lens (xss.take j) + j : Nat) : Int) + 1) (xss.getD j []).length
theorem mkK_length (k : Int) (xss : List (List Int)) : (mkK k xss).length = xss.length := tab_length _ _
theorem mkM_length (k : Int) (xss : List (List Int)) : (mkM k xss).length = xss.length := tab_length _ _
theorem mkK_getD (k : Int) (xss : List (List Int)) (j : Nat) (h : j < xss.length) : (mkK k xss).getD j 0 = k + ((lens (xss.take j) + j : Nat) : Int) := tab_getD _ _ _ _ h
theorem mkM_getD (k : Int) (xss : List (List Int)) (j : Nat) (h : j < xss.length) : (mkM k xss).getD j [] = mk (fun k : Int => k) (k + ((lens (xss.take j) + j : Nat) : Int) + 1) (xss.getD j []).length := tab_getD _ _ _ _ h
theorem td_set {α : Type} (d : α) (A B : List α) (j : Nat) (h : j < A.length) (hl : A.length = B.length) : (A.take j ++ B.drop j).set j (A.getD j d) = A.take (j + 1) ++ B.drop (j + 1) := by
  have h1 : (A.take j).length = j := by rw [List.length_take]; omega
  rw [List.set_append_right _ _ (by omega), h1, Nat.sub_self, List.drop_eq_getElem_cons (by omega : j < B.length), List.set_cons_zero, take_succ_getD d A j h, List.append_assoc]; rfl
theorem td_getD {α : Type} (d : α) (A B : List α) (j : Nat) (h : j < A.length) (hl : A.length = B.length) : (A.take j ++ B.drop j).getD j d = B.getD j d := by
  have h1 : (A.take j).length = j := by rw [List.length_take]; omega
  rw [List.getD_eq_getElem?_getD, List.getElem?_append_right (by omega), h1, Nat.sub_self, List.getElem?_drop, Nat.add_zero, ← List.getD_eq_getElem?_getD]
theorem cells2_set0 : ∀ (ks : List Int) (us : List Value) (i : Nat) (a : Int), ks.length = us.length → (cells2 ks us).set (i * 2) (.int .i64 a) = cells2 (ks.set i a) us
  | [], [], i, a, _ => by simp [cells2]
  | k :: ks, v :: us, 0, a, _ => rfl
  | k :: ks, v :: us, i + 1, a, h => by
    have := cells2_set0 ks us i a (by simpa using h)
    rw [show (i + 1) * 2 = i * 2 + 1 + 1 by omega]
    simpa [cells2] using this
  | [], _ :: _, _, _, h => by simp at h
  | _ :: _, [], _, _, h => by simp at h
theorem cells2_snoc : ∀ (ks : List Int) (us : List Value) (a : Int) (u : Value), ks.length = us.length → cells2 (ks ++ [a]) (us ++ [u]) = cells2 ks us ++ [.int .i64 a, u]
  | [], [], a, u, _ => rfl
  | k :: ks, v :: us, a, u, h => by
    have := cells2_snoc ks us a u (by simpa using h)
    simp [cells2, this]
  | [], _ :: _, _, _, h => by simp at h
  | _ :: _, [], _, _, h => by simp at h
theorem _root_.Go.Eng.Mem.rdMk {w0 w : World} {rs : List Res} {e1 e2 : TypeId} {v : Value} {us : List Value} {ks : List Int} {xss : List (List Int)} {k : Int} (hm : Mem w0 rs w) (i : Nat) (hi : rs[i]? = some (rMaps e1 e2 v us (mkK k xss) (mkM k xss))) (hl : us.length = xss.length) (hk : ks.length = xss.length) :
    RdM w v (mkK k xss) (mkM k xss) (fun i => us.getD i undef) := hm.rdM i hi (by rw [mkM_length]; exact hl) (by rw [mkM_length, mkK_length])

set_option maxHeartbeats 1000000 in
theorem markMapS_c (v : Value) (us : List Value) (ks : List Int) (xss : List (List Int)) (k : Int) (h0 : 0 ≤ k) (h1 : k ≤ 1152921504606846976) (hsm : Small xss) (hl : us.length = xss.length) (hk : ks.length = xss.length) :
    Mut Try.prog 88 [v, .int .i64 k] (rMaps 115 2 v us ks xss) fun v' r' => v' = .int .i64 (k + (markLen xss : Nat)) ∧ r' = rMaps 115 2 v us (mkK k xss) (mkM k xss) := by
  refine mut_hw Try.func88 Try.ntmps88 rfl rfl (fun w0 F => ?_)
  refine hw_mem (rs' := rOwn 115 2 v us.length (cells2 ks us) :: (rRow 2 (Value.int .i64) us xss ++ [F])) (fun w hm => hm.flat) ?_
  refine hw_own 0 rfl (fun hs => ?_)
  rw [hl] at hs
  have hkl := mkK_length k xss
  have hml := mkM_length k xss
  repeat' (first | refine hl_a ?_ | refine hq_a ?_ | refine hl_nil ?_ | refine hq_nil ?_ | refine hq_ga ?_ | refine hq_sk ?_ | refine hq_su ?_ | refine hq_gT ?_ | refine hq_gF ?_ | refine hq_gd (fun h => ?_) (fun h => ?_) | refine hl_ga ?_ | refine hl_sk ?_ | refine hl_su ?_ | refine hl_gT ?_ | refine hl_gF ?_ | refine hl_gd (fun h => ?_) (fun h => ?_) | refine hx_next ?_ | refine hw_seq ?_ | refine hw_region ?_ | refine hw_dr ?_ | refine hw_block ?_ | refine hx_block ?_ | refine hw_tt ?_ | refine hw_ff ?_ | refine hw_iT ?_ | refine hw_iF ?_ | refine hw_skip ?_ | refine hw_ret ?_ | refine hw_exit ?_ | refine hx_then_ret ?_ | refine hx_block_ret ?_ | refine hx_then_exit ?_ | refine hx_block_here ?_ | refine hx_far ?_ | refine hx_any ?_ | (apply ha_end; decide +kernel))
  refine hw_loop (fun e r m => ∃ j : Nat, r = rOwn 115 2 v us.length (cells2 ((mkK k xss).take j ++ ks.drop j) us) :: (rRow 2 (Value.int .i64) us ((mkM k xss).take j ++ xss.drop j) ++ [F]) ∧ j ≤ xss.length ∧ m = xss.length - j ∧ e = [(0, v), (1, .int .i64 (k + ((lens (xss.take j) + j : Nat) : Int))), (5, .int .i64 j)])
    ⟨0, by simp, Nat.zero_le _, rfl, rfl⟩ ⟨rfl, by simp [Env.at, envOf, lens], rfl, trivial⟩ ?_
  rintro _ _ _ ⟨j, rfl, hj, rfl, rfl⟩
  have hlj := lens_le 1048576 xss hsm.2 j hj
  have hsm1 := hsm.1
  repeat' (first | refine hl_a ?_ | refine hq_a ?_ | refine hl_nil ?_ | refine hq_nil ?_ | refine hq_ga ?_ | refine hq_sk ?_ | refine hq_su ?_ | refine hq_gT ?_ | refine hq_gF ?_ | refine hq_gd (fun h => ?_) (fun h => ?_) | refine hl_ga ?_ | refine hl_sk ?_ | refine hl_su ?_ | refine hl_gT ?_ | refine hl_gF ?_ | refine hl_gd (fun h => ?_) (fun h => ?_) | refine hx_next ?_ | refine hw_seq ?_ | refine hw_region ?_ | refine hw_dr ?_ | refine hw_block ?_ | refine hx_block ?_ | refine hw_tt ?_ | refine hw_ff ?_ | refine hw_iT ?_ | refine hw_iF ?_ | refine hw_skip ?_ | refine hw_ret ?_ | refine hw_exit ?_ | refine hx_then_ret ?_ | refine hx_block_ret ?_ | refine hx_then_exit ?_ | refine hx_block_here ?_ | refine hx_far ?_ | refine hx_any ?_ | (apply ha_end; decide +kernel))
  refine hw_if rfl (fun hlt => ?_) (fun hge => ?_)
  · have hj2 : j < xss.length := by omega
    have hj3 : j < us.length := by omega
    have hrj := hsm.2 j hj2
    have hset : (cells2 ((mkK k xss).take j ++ ks.drop j) us).set (j * 2) (.int .i64 (k + ((lens (xss.take j) + j : Nat) : Int))) = cells2 ((mkK k xss).take (j + 1) ++ ks.drop (j + 1)) us := by
      rw [cells2_set0 _ _ _ _ (by simp; omega), ← mkK_getD k xss j hj2, td_set 0 _ _ _ (by omega) (by omega)]
    repeat' (first | refine hl_a ?_ | refine hq_a ?_ | refine hl_nil ?_ | refine hq_nil ?_ | refine hq_ga ?_ | refine hq_sk ?_ | refine hq_su ?_ | refine hq_gT ?_ | refine hq_gF ?_ | refine hq_gd (fun h => ?_) (fun h => ?_) | refine hl_ga ?_ | refine hl_sk ?_ | refine hl_su ?_ | refine hl_gT ?_ | refine hl_gF ?_ | refine hl_gd (fun h => ?_) (fun h => ?_) | refine hx_next ?_ | refine hw_seq ?_ | refine hw_region ?_ | refine hw_dr ?_ | refine hw_block ?_ | refine hx_block ?_ | refine hw_tt ?_ | refine hw_ff ?_ | refine hw_iT ?_ | refine hw_iF ?_ | refine hw_skip ?_ | refine hw_ret ?_ | refine hw_exit ?_ | refine hx_then_ret ?_ | refine hx_block_ret ?_ | refine hx_then_exit ?_ | refine hx_block_here ?_ | refine hx_far ?_ | refine hx_any ?_ | (apply ha_end; decide +kernel))
    refine hl_storeC 0 (i := j * 2) rfl rfl (by rw [vAt_add hs hj2, Nat.add_zero]) (by omega) rfl rfl ?_
    rw [hset]
    have hld : Ld w0 (rOwn 115 2 v us.length (cells2 ((mkK k xss).take (j + 1) ++ ks.drop (j + 1)) us) :: (rRow 2 (Value.int .i64) us ((mkM k xss).take j ++ xss.drop j) ++ [F])) ((vAt v (j * 2)).add 1) (us.getD j undef) := by
      rw [vAt_add hs hj2]
      exact ld_own 0 rfl (cells2_1 _ _ _ (by simp; omega) hj3)
    refine hl_mem (rs' := rOwn 115 2 v us.length (cells2 ((mkK k xss).take (j + 1) ++ ks.drop (j + 1)) us) :: (rRow 2 (Value.int .i64) us ((mkM k xss).take j ++ xss.drop j) ++ [F])) (fun w hm => hm) ?_
    repeat' (first | refine hl_a ?_ | refine hq_a ?_ | refine hl_nil ?_ | refine hq_nil ?_ | refine hq_ga ?_ | refine hq_sk ?_ | refine hq_su ?_ | refine hq_gT ?_ | refine hq_gF ?_ | refine hq_gd (fun h => ?_) (fun h => ?_) | refine hl_ga ?_ | refine hl_sk ?_ | refine hl_su ?_ | refine hl_gT ?_ | refine hl_gF ?_ | refine hl_gd (fun h => ?_) (fun h => ?_) | refine hx_next ?_ | refine hw_seq ?_ | refine hw_region ?_ | refine hw_dr ?_ | refine hw_block ?_ | refine hx_block ?_ | refine hw_tt ?_ | refine hw_ff ?_ | refine hw_iT ?_ | refine hw_iF ?_ | refine hw_skip ?_ | refine hw_ret ?_ | refine hw_exit ?_ | refine hx_then_ret ?_ | refine hx_block_ret ?_ | refine hx_then_exit ?_ | refine hx_block_here ?_ | refine hx_far ?_ | refine hx_any ?_ | (apply ha_end; decide +kernel))
    have hrl : (rRow 2 (Value.int .i64) us ((mkM k xss).take j ++ xss.drop j)).length = us.length := by simp [rRow, List.length_zipWith]; omega
    have hget := td_getD ([] : List Int) (mkM k xss) xss j (by omega) (by omega)
    refine hl_mut (j + 1) (r := rE 2 (Value.int .i64) (us.getD j undef) (xss.getD j [])) ?_ (by decide) (markInt64S_c (us.getD j undef) (xss.getD j []) (k + ((lens (xss.take j) + j : Nat) : Int) + 1) (by omega) (by omega) hrj) rfl ?_
    · rw [List.getElem?_cons_succ, List.getElem?_append_left (by omega), rRow_get _ _ _ hj3 (by simp; omega), hget]
    rintro _ _ ⟨rfl, rfl⟩
    refine hl_mem (rs' := rOwn 115 2 v us.length (cells2 ((mkK k xss).take (j + 1) ++ ks.drop (j + 1)) us) :: (rRow 2 (Value.int .i64) us ((mkM k xss).take (j + 1) ++ xss.drop (j + 1)) ++ [F])) (fun w hm => ?_) ?_
    · rw [List.set_cons_succ, List.set_append_left _ _ (by omega), rRow_set _ _ _ _ hj3, ← mkM_getD k xss j hj2, td_set [] _ _ _ (by omega) (by omega)] at hm
      exact hm
    repeat' (first | refine hl_a ?_ | refine hq_a ?_ | refine hl_nil ?_ | refine hq_nil ?_ | refine hq_ga ?_ | refine hq_sk ?_ | refine hq_su ?_ | refine hq_gT ?_ | refine hq_gF ?_ | refine hq_gd (fun h => ?_) (fun h => ?_) | refine hl_ga ?_ | refine hl_sk ?_ | refine hl_su ?_ | refine hl_gT ?_ | refine hl_gF ?_ | refine hl_gd (fun h => ?_) (fun h => ?_) | refine hx_next ?_ | refine hw_seq ?_ | refine hw_region ?_ | refine hw_dr ?_ | refine hw_block ?_ | refine hx_block ?_ | refine hw_tt ?_ | refine hw_ff ?_ | refine hw_iT ?_ | refine hw_iF ?_ | refine hw_skip ?_ | refine hw_ret ?_ | refine hw_exit ?_ | refine hx_then_ret ?_ | refine hx_block_ret ?_ | refine hx_then_exit ?_ | refine hx_block_here ?_ | refine hx_far ?_ | refine hx_any ?_ | (apply ha_end; decide +kernel))
    refine hx_round ⟨j + 1, rfl, hj2, rfl, rfl⟩ (by omega) ⟨rfl, ?_, rfl, trivial⟩
    simp [Env.at, lens_take_succ xss j hj2]; omega
  · have e : j = xss.length := by omega
    subst e
    repeat' (first | refine hl_a ?_ | refine hq_a ?_ | refine hl_nil ?_ | refine hq_nil ?_ | refine hq_ga ?_ | refine hq_sk ?_ | refine hq_su ?_ | refine hq_gT ?_ | refine hq_gF ?_ | refine hq_gd (fun h => ?_) (fun h => ?_) | refine hl_ga ?_ | refine hl_sk ?_ | refine hl_su ?_ | refine hl_gT ?_ | refine hl_gF ?_ | refine hl_gd (fun h => ?_) (fun h => ?_) | refine hx_next ?_ | refine hw_seq ?_ | refine hw_region ?_ | refine hw_dr ?_ | refine hw_block ?_ | refine hx_block ?_ | refine hw_tt ?_ | refine hw_ff ?_ | refine hw_iT ?_ | refine hw_iF ?_ | refine hw_skip ?_ | refine hw_ret ?_ | refine hw_exit ?_ | refine hx_then_ret ?_ | refine hx_block_ret ?_ | refine hx_then_exit ?_ | refine hx_block_here ?_ | refine hx_far ?_ | refine hx_any ?_ | (apply ha_end; decide +kernel))
    refine hx_ret1 rfl rfl (fun w hm => ⟨_, _, rfl, ⟨?_, rfl⟩, ?_⟩)
    · rw [List.take_length]; rfl
    · have e1 : (mkK k xss).take xss.length = mkK k xss := by rw [← hkl]; exact List.take_length
      have e2 : (mkM k xss).take xss.length = mkM k xss := by rw [← hml]; exact List.take_length
      have e3 : ks.drop xss.length = [] := List.drop_eq_nil_of_le (by omega)
      rw [e1, e2, e3, List.drop_length, List.append_nil, List.append_nil] at hm
      exact hm.star (l := rOwn 115 2 v us.length (cells2 (mkK k xss) us) :: rRow 2 (Value.int .i64) us (mkM k xss))
theorem markMaps_c (st tot : Int) (v : Value) (us : List Value) (ks : List Int) (xss : List (List Int)) (k : Int) (h0 : 0 ≤ k) (h1 : k ≤ 1152921504606846976) (hsm : Small xss) (hl : us.length = xss.length) (hk : ks.length = xss.length) :
    Mut Try.prog 43 [chV st tot v, .int .i64 k] (rMaps 115 2 v us ks xss) fun v' r' => v' = .int .i64 (k + (markLen xss : Nat)) ∧ r' = rMaps 115 2 v us (mkK k xss) (mkM k xss) := by
  refine mut_hw Try.func43 Try.ntmps43 rfl rfl (fun w0 F => ?_)
  repeat' (first | refine hl_a ?_ | refine hq_a ?_ | refine hl_nil ?_ | refine hq_nil ?_ | refine hq_ga ?_ | refine hq_sk ?_ | refine hq_su ?_ | refine hq_gT ?_ | refine hq_gF ?_ | refine hq_gd (fun h => ?_) (fun h => ?_) | refine hl_ga ?_ | refine hl_sk ?_ | refine hl_su ?_ | refine hl_gT ?_ | refine hl_gF ?_ | refine hl_gd (fun h => ?_) (fun h => ?_) | refine hx_next ?_ | refine hw_seq ?_ | refine hw_region ?_ | refine hw_dr ?_ | refine hw_block ?_ | refine hx_block ?_ | refine hw_tt ?_ | refine hw_ff ?_ | refine hw_iT ?_ | refine hw_iF ?_ | refine hw_skip ?_ | refine hw_ret ?_ | refine hw_exit ?_ | refine hx_then_ret ?_ | refine hx_block_ret ?_ | refine hx_then_exit ?_ | refine hx_block_here ?_ | refine hx_far ?_ | refine hx_any ?_ | (apply ha_end; decide +kernel))
  refine hl_box (by decide) rfl (fun b => ?_)
  repeat' (first | refine hl_a ?_ | refine hq_a ?_ | refine hl_nil ?_ | refine hq_nil ?_ | refine hq_ga ?_ | refine hq_sk ?_ | refine hq_su ?_ | refine hq_gT ?_ | refine hq_gF ?_ | refine hq_gd (fun h => ?_) (fun h => ?_) | refine hl_ga ?_ | refine hl_sk ?_ | refine hl_su ?_ | refine hl_gT ?_ | refine hl_gF ?_ | refine hl_gd (fun h => ?_) (fun h => ?_) | refine hx_next ?_ | refine hw_seq ?_ | refine hw_region ?_ | refine hw_dr ?_ | refine hw_block ?_ | refine hx_block ?_ | refine hw_tt ?_ | refine hw_ff ?_ | refine hw_iT ?_ | refine hw_iF ?_ | refine hw_skip ?_ | refine hw_ret ?_ | refine hw_exit ?_ | refine hx_then_ret ?_ | refine hx_block_ret ?_ | refine hx_then_exit ?_ | refine hx_block_here ?_ | refine hx_far ?_ | refine hx_any ?_ | (apply ha_end; decide +kernel))
  refine hl_mut 0 rfl (by decide) (markMapS_c v us ks xss k h0 h1 hsm hl hk) rfl ?_
  rintro _ _ ⟨rfl, rfl⟩
  repeat' (first | refine hl_a ?_ | refine hq_a ?_ | refine hl_nil ?_ | refine hq_nil ?_ | refine hq_ga ?_ | refine hq_sk ?_ | refine hq_su ?_ | refine hq_gT ?_ | refine hq_gF ?_ | refine hq_gd (fun h => ?_) (fun h => ?_) | refine hl_ga ?_ | refine hl_sk ?_ | refine hl_su ?_ | refine hl_gT ?_ | refine hl_gF ?_ | refine hl_gd (fun h => ?_) (fun h => ?_) | refine hx_next ?_ | refine hw_seq ?_ | refine hw_region ?_ | refine hw_dr ?_ | refine hw_block ?_ | refine hx_block ?_ | refine hw_tt ?_ | refine hw_ff ?_ | refine hw_iT ?_ | refine hw_iF ?_ | refine hw_skip ?_ | refine hw_ret ?_ | refine hw_exit ?_ | refine hx_then_ret ?_ | refine hx_block_ret ?_ | refine hx_then_exit ?_ | refine hx_block_here ?_ | refine hx_far ?_ | refine hx_any ?_ | (apply ha_end; decide +kernel))
  exact hx_ret1 rfl rfl (fun w hm => ⟨_, _, rfl, ⟨rfl, rfl⟩, Mem.keep [_, _] hm⟩)
theorem markLen_small {xss : List (List Int)} (h : Small xss) : markLen xss ≤ 2199023255552 := by
  have h1 := lens_small h
  have h2 := h.1
  unfold markLen; omega
set_option maxHeartbeats 1000000 in
theorem heldMapS_c (v : Value) (xss : List (List Int)) (row : Nat → Value) (k : Int) (h0 : 0 ≤ k) (h1 : k ≤ 1152921504606846976) (hsm : Small xss) (w : World) (hx : RdM w v (mkK k xss) (mkM k xss) row) :
    Ret Try.prog 89 [v, .int .i64 k] w (.int .i64 (k + (markLen xss : Nat))) := by
  refine calls_hw Try.func89 Try.ntmps89 rfl rfl ?_
  have hkl := mkK_length k xss
  have hml := mkM_length k xss
  have hs := hx.sl
  rw [hml] at hs
  have hsm1 := hsm.1
  repeat' (first | refine hl_a ?_ | refine hq_a ?_ | refine hl_nil ?_ | refine hq_nil ?_ | refine hq_ga ?_ | refine hq_sk ?_ | refine hq_su ?_ | refine hq_gT ?_ | refine hq_gF ?_ | refine hq_gd (fun h => ?_) (fun h => ?_) | refine hl_ga ?_ | refine hl_sk ?_ | refine hl_su ?_ | refine hl_gT ?_ | refine hl_gF ?_ | refine hl_gd (fun h => ?_) (fun h => ?_) | refine hx_next ?_ | refine hw_seq ?_ | refine hw_region ?_ | refine hw_dr ?_ | refine hw_block ?_ | refine hx_block ?_ | refine hw_tt ?_ | refine hw_ff ?_ | refine hw_iT ?_ | refine hw_iF ?_ | refine hw_skip ?_ | refine hw_ret ?_ | refine hw_exit ?_ | refine hx_then_ret ?_ | refine hx_block_ret ?_ | refine hx_then_exit ?_ | refine hx_block_here ?_ | refine hx_far ?_ | refine hx_any ?_ | (apply ha_end; decide +kernel))
  refine hw_loop (fun e r m => r = [] ∧ ∃ j : Nat, j ≤ xss.length ∧ m = xss.length - j ∧ e = [(0, v), (1, .int .i64 (k + ((lens (xss.take j) + j : Nat) : Int))), (5, .int .i64 j)])
    ⟨rfl, 0, Nat.zero_le _, rfl, rfl⟩ ⟨rfl, by simp [Env.at, envOf, lens], rfl, trivial⟩ ?_
  rintro _ _ _ ⟨rfl, j, hj, rfl, rfl⟩
  have hlj := lens_le 1048576 xss hsm.2 j hj
  repeat' (first | refine hl_a ?_ | refine hq_a ?_ | refine hl_nil ?_ | refine hq_nil ?_ | refine hq_ga ?_ | refine hq_sk ?_ | refine hq_su ?_ | refine hq_gT ?_ | refine hq_gF ?_ | refine hq_gd (fun h => ?_) (fun h => ?_) | refine hl_ga ?_ | refine hl_sk ?_ | refine hl_su ?_ | refine hl_gT ?_ | refine hl_gF ?_ | refine hl_gd (fun h => ?_) (fun h => ?_) | refine hx_next ?_ | refine hw_seq ?_ | refine hw_region ?_ | refine hw_dr ?_ | refine hw_block ?_ | refine hx_block ?_ | refine hw_tt ?_ | refine hw_ff ?_ | refine hw_iT ?_ | refine hw_iF ?_ | refine hw_skip ?_ | refine hw_ret ?_ | refine hw_exit ?_ | refine hx_then_ret ?_ | refine hx_block_ret ?_ | refine hx_then_exit ?_ | refine hx_block_here ?_ | refine hx_far ?_ | refine hx_any ?_ | (apply ha_end; decide +kernel))
  refine hw_if rfl (fun hlt => ?_) (fun hge => ?_)
  · have hj2 : j < xss.length := by omega
    have hrj := hsm.2 j hj2
    have c0 := hx.key j (by omega)
    have c1 := hx.get j (by omega)
    have hrow := hx.row j (by omega)
    rw [mkK_getD k xss j hj2] at c0
    rw [mkM_getD k xss j hj2] at hrow
    have hne : ¬ (k + ((lens (xss.take j) + j : Nat) : Int) ≠ k + ((lens (xss.take j) + j : Nat) : Int)) := fun h => h rfl
    repeat' (first | refine hl_a ?_ | refine hq_a ?_ | refine hl_nil ?_ | refine hq_nil ?_ | refine hq_ga ?_ | refine hq_sk ?_ | refine hq_su ?_ | refine hq_gT ?_ | refine hq_gF ?_ | refine hq_gd (fun h => ?_) (fun h => ?_) | refine hl_ga ?_ | refine hl_sk ?_ | refine hl_su ?_ | refine hl_gT ?_ | refine hl_gF ?_ | refine hl_gd (fun h => ?_) (fun h => ?_) | refine hx_next ?_ | refine hw_seq ?_ | refine hw_region ?_ | refine hw_dr ?_ | refine hw_block ?_ | refine hx_block ?_ | refine hw_tt ?_ | refine hw_ff ?_ | refine hw_iT ?_ | refine hw_iF ?_ | refine hw_skip ?_ | refine hw_ret ?_ | refine hw_exit ?_ | refine hx_then_ret ?_ | refine hx_block_ret ?_ | refine hx_then_exit ?_ | refine hx_block_here ?_ | refine hx_far ?_ | refine hx_any ?_ | (apply ha_end; decide +kernel))
    first | refine hl_q (by decide) (q_call (fun w hm => heldInt64S_c (row j) (k + ((lens (xss.take j) + j : Nat) : Int) + 1) (xss.getD j []).length (by omega) (by omega) hrj w (hrow.up hm.below)) rfl) ?_ | refine hq_q (by decide) (q_call (fun w hm => heldInt64S_c (row j) (k + ((lens (xss.take j) + j : Nat) : Int) + 1) (xss.getD j []).length (by omega) (by omega) hrj w (hrow.up hm.below)) rfl) ?_ | refine hl_g _ _ rfl rfl (by decide) (q_call (fun w hm => heldInt64S_c (row j) (k + ((lens (xss.take j) + j : Nat) : Int) + 1) (xss.getD j []).length (by omega) (by omega) hrj w (hrow.up hm.below)) rfl) ?_ | refine hq_g _ _ rfl rfl (by decide) (q_call (fun w hm => heldInt64S_c (row j) (k + ((lens (xss.take j) + j : Nat) : Int) + 1) (xss.getD j []).length (by omega) (by omega) hrj w (hrow.up hm.below)) rfl) ?_
    repeat' (first | refine hl_a ?_ | refine hq_a ?_ | refine hl_nil ?_ | refine hq_nil ?_ | refine hq_ga ?_ | refine hq_sk ?_ | refine hq_su ?_ | refine hq_gT ?_ | refine hq_gF ?_ | refine hq_gd (fun h => ?_) (fun h => ?_) | refine hl_ga ?_ | refine hl_sk ?_ | refine hl_su ?_ | refine hl_gT ?_ | refine hl_gF ?_ | refine hl_gd (fun h => ?_) (fun h => ?_) | refine hx_next ?_ | refine hw_seq ?_ | refine hw_region ?_ | refine hw_dr ?_ | refine hw_block ?_ | refine hx_block ?_ | refine hw_tt ?_ | refine hw_ff ?_ | refine hw_iT ?_ | refine hw_iF ?_ | refine hw_skip ?_ | refine hw_ret ?_ | refine hw_exit ?_ | refine hx_then_ret ?_ | refine hx_block_ret ?_ | refine hx_then_exit ?_ | refine hx_block_here ?_ | refine hx_far ?_ | refine hx_any ?_ | (apply ha_end; decide +kernel))
    refine hw_if rfl (fun h => by omega) (fun h => ?_)
    repeat' (first | refine hl_a ?_ | refine hq_a ?_ | refine hl_nil ?_ | refine hq_nil ?_ | refine hq_ga ?_ | refine hq_sk ?_ | refine hq_su ?_ | refine hq_gT ?_ | refine hq_gF ?_ | refine hq_gd (fun h => ?_) (fun h => ?_) | refine hl_ga ?_ | refine hl_sk ?_ | refine hl_su ?_ | refine hl_gT ?_ | refine hl_gF ?_ | refine hl_gd (fun h => ?_) (fun h => ?_) | refine hx_next ?_ | refine hw_seq ?_ | refine hw_region ?_ | refine hw_dr ?_ | refine hw_block ?_ | refine hx_block ?_ | refine hw_tt ?_ | refine hw_ff ?_ | refine hw_iT ?_ | refine hw_iF ?_ | refine hw_skip ?_ | refine hw_ret ?_ | refine hw_exit ?_ | refine hx_then_ret ?_ | refine hx_block_ret ?_ | refine hx_then_exit ?_ | refine hx_block_here ?_ | refine hx_far ?_ | refine hx_any ?_ | (apply ha_end; decide +kernel))
    refine hx_round ⟨rfl, j + 1, hj2, rfl, rfl⟩ (by omega) ⟨rfl, ?_, rfl, trivial⟩
    simp [Env.at, lens_take_succ xss j hj2]; omega
  · have e : j = xss.length := by omega
    subst e
    repeat' (first | refine hl_a ?_ | refine hq_a ?_ | refine hl_nil ?_ | refine hq_nil ?_ | refine hq_ga ?_ | refine hq_sk ?_ | refine hq_su ?_ | refine hq_gT ?_ | refine hq_gF ?_ | refine hq_gd (fun h => ?_) (fun h => ?_) | refine hl_ga ?_ | refine hl_sk ?_ | refine hl_su ?_ | refine hl_gT ?_ | refine hl_gF ?_ | refine hl_gd (fun h => ?_) (fun h => ?_) | refine hx_next ?_ | refine hw_seq ?_ | refine hw_region ?_ | refine hw_dr ?_ | refine hw_block ?_ | refine hx_block ?_ | refine hw_tt ?_ | refine hw_ff ?_ | refine hw_iT ?_ | refine hw_iF ?_ | refine hw_skip ?_ | refine hw_ret ?_ | refine hw_exit ?_ | refine hx_then_ret ?_ | refine hx_block_ret ?_ | refine hx_then_exit ?_ | refine hx_block_here ?_ | refine hx_far ?_ | refine hx_any ?_ | (apply ha_end; decide +kernel))
    refine hx_ret1 rfl rfl (fun w hm => ⟨?_, hm.none⟩)
    rw [List.take_length]; rfl
theorem heldMaps_c (st tot : Int) (v : Value) (ks : List Int) (xss : List (List Int)) (row : Nat → Value) (k : Int) (h0 : 0 ≤ k) (h1 : k ≤ 1152921504606846976) (hsm : Small xss) (hk : ks.length = xss.length) (w : World) (hx : RdM w v (mkK k xss) (mkM k xss) row) :
    Ret Try.prog 44 [chV st tot v, .int .i64 k] w (.int .i64 (k + (markLen xss : Nat))) := by
  refine calls_hw Try.func44 Try.ntmps44 rfl rfl ?_
  have hml := markLen_small hsm
  repeat' (first | refine hl_a ?_ | refine hq_a ?_ | refine hl_nil ?_ | refine hq_nil ?_ | refine hq_ga ?_ | refine hq_sk ?_ | refine hq_su ?_ | refine hq_gT ?_ | refine hq_gF ?_ | refine hq_gd (fun h => ?_) (fun h => ?_) | refine hl_ga ?_ | refine hl_sk ?_ | refine hl_su ?_ | refine hl_gT ?_ | refine hl_gF ?_ | refine hl_gd (fun h => ?_) (fun h => ?_) | refine hx_next ?_ | refine hw_seq ?_ | refine hw_region ?_ | refine hw_dr ?_ | refine hw_block ?_ | refine hx_block ?_ | refine hw_tt ?_ | refine hw_ff ?_ | refine hw_iT ?_ | refine hw_iF ?_ | refine hw_skip ?_ | refine hw_ret ?_ | refine hw_exit ?_ | refine hx_then_ret ?_ | refine hx_block_ret ?_ | refine hx_then_exit ?_ | refine hx_block_here ?_ | refine hx_far ?_ | refine hx_any ?_ | (apply ha_end; decide +kernel))
  refine hl_box (by decide) rfl (fun b => ?_)
  repeat' (first | refine hl_a ?_ | refine hq_a ?_ | refine hl_nil ?_ | refine hq_nil ?_ | refine hq_ga ?_ | refine hq_sk ?_ | refine hq_su ?_ | refine hq_gT ?_ | refine hq_gF ?_ | refine hq_gd (fun h => ?_) (fun h => ?_) | refine hl_ga ?_ | refine hl_sk ?_ | refine hl_su ?_ | refine hl_gT ?_ | refine hl_gF ?_ | refine hl_gd (fun h => ?_) (fun h => ?_) | refine hx_next ?_ | refine hw_seq ?_ | refine hw_region ?_ | refine hw_dr ?_ | refine hw_block ?_ | refine hx_block ?_ | refine hw_tt ?_ | refine hw_ff ?_ | refine hw_iT ?_ | refine hw_iF ?_ | refine hw_skip ?_ | refine hw_ret ?_ | refine hw_exit ?_ | refine hx_then_ret ?_ | refine hx_block_ret ?_ | refine hx_then_exit ?_ | refine hx_block_here ?_ | refine hx_far ?_ | refine hx_any ?_ | (apply ha_end; decide +kernel))
  first | refine hl_q (by decide) (q_call (fun w hm => heldMapS_c v xss row k h0 h1 hsm w (hx.up hm.below)) rfl) ?_ | refine hq_q (by decide) (q_call (fun w hm => heldMapS_c v xss row k h0 h1 hsm w (hx.up hm.below)) rfl) ?_ | refine hl_g _ _ rfl rfl (by decide) (q_call (fun w hm => heldMapS_c v xss row k h0 h1 hsm w (hx.up hm.below)) rfl) ?_ | refine hq_g _ _ rfl rfl (by decide) (q_call (fun w hm => heldMapS_c v xss row k h0 h1 hsm w (hx.up hm.below)) rfl) ?_
  repeat' (first | refine hl_a ?_ | refine hq_a ?_ | refine hl_nil ?_ | refine hq_nil ?_ | refine hq_ga ?_ | refine hq_sk ?_ | refine hq_su ?_ | refine hq_gT ?_ | refine hq_gF ?_ | refine hq_gd (fun h => ?_) (fun h => ?_) | refine hl_ga ?_ | refine hl_sk ?_ | refine hl_su ?_ | refine hl_gT ?_ | refine hl_gF ?_ | refine hl_gd (fun h => ?_) (fun h => ?_) | refine hx_next ?_ | refine hw_seq ?_ | refine hw_region ?_ | refine hw_dr ?_ | refine hw_block ?_ | refine hx_block ?_ | refine hw_tt ?_ | refine hw_ff ?_ | refine hw_iT ?_ | refine hw_iF ?_ | refine hw_skip ?_ | refine hw_ret ?_ | refine hw_exit ?_ | refine hx_then_ret ?_ | refine hx_block_ret ?_ | refine hx_then_exit ?_ | refine hx_block_here ?_ | refine hx_far ?_ | refine hx_any ?_ | (apply ha_end; decide +kernel))
  refine hw_if rfl (fun h => by omega) (fun h => ?_)
  repeat' (first | refine hl_a ?_ | refine hq_a ?_ | refine hl_nil ?_ | refine hq_nil ?_ | refine hq_ga ?_ | refine hq_sk ?_ | refine hq_su ?_ | refine hq_gT ?_ | refine hq_gF ?_ | refine hq_gd (fun h => ?_) (fun h => ?_) | refine hl_ga ?_ | refine hl_sk ?_ | refine hl_su ?_ | refine hl_gT ?_ | refine hl_gF ?_ | refine hl_gd (fun h => ?_) (fun h => ?_) | refine hx_next ?_ | refine hw_seq ?_ | refine hw_region ?_ | refine hw_dr ?_ | refine hw_block ?_ | refine hx_block ?_ | refine hw_tt ?_ | refine hw_ff ?_ | refine hw_iT ?_ | refine hw_iF ?_ | refine hw_skip ?_ | refine hw_ret ?_ | refine hw_exit ?_ | refine hx_then_ret ?_ | refine hx_block_ret ?_ | refine hx_then_exit ?_ | refine hx_block_here ?_ | refine hx_far ?_ | refine hx_any ?_ | (apply ha_end; decide +kernel))
  exact hx_ret1 rfl rfl (fun w hm => ⟨rfl, hm.none⟩)
end Go.Proofs.Ytgeidbjcphjbiaa
