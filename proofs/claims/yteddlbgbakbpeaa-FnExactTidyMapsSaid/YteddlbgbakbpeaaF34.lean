/- Contracts: MapsByDraws, ThenMaps. -/
import Derived.Test.YteddlbgbakbpeaaF33
import Derived.Test.YteddlbgbakbpeaaH6
namespace Go.Eng
open Go.RowKit
section
variable {w0 w : World} {rs : List Res}
/-- A resource and the star of others become one star, behind others. -/
theorem Mem.joinStar {a : Res} {L : List Res} (pre : List Res) (idx : List Nat) (i j : Nat) (h : Mem w0 rs w) (hnd : (idx ++ [i, j]).Nodup) (hp : idx.map (fun i => rs[i]?) = pre.map some) (hi : rs[i]? = some a) (hj : rs[j]? = some (rStar L)) :
    Mem w0 (pre ++ [rStar (a :: L)]) w := by
  have h1 : Mem w0 (pre ++ [a, rStar L]) w := h.pick (idx ++ [i, j]) hnd (by simp [hp, hi, hj])
  have h2 : Mem w0 (rStar L :: a :: pre) w := h1.weaken (fun k => if k = 0 then pre.length + 1 else if k = 1 then pre.length else k - 2) _ (fun a b e ha hb => by
      simp at ha hb
      split at e <;> split at e <;> (try split at e) <;> (try split at e) <;> omega) (fun a r ha => by
    match a, ha with
    | 0, ha => simp at ha; subst ha; simp
    | 1, ha => simp at ha; subst ha; simp
    | k + 2, ha =>
      simp at ha
      have := (List.getElem?_eq_some_iff.1 ha).1
      simp [List.getElem?_append_left this, ha])
  have h3 : Mem w0 (L ++ (a :: pre)) w := h2.flat
  have h4 : Mem w0 ((a :: L) ++ pre) w := h3.weaken (fun k => if k = 0 then L.length else if k ≤ L.length then k - 1 else k) _ (fun a b e ha hb => by
      simp at ha hb
      split at e <;> split at e <;> (try split at e) <;> (try split at e) <;> omega) (fun a r ha => by
    cases a with
    | zero => simp at ha; subst ha; simp
    | succ k =>
      simp only [List.cons_append, List.getElem?_cons_succ] at ha
      by_cases hk : k < L.length
      · rw [List.getElem?_append_left hk] at ha
        have : k + 1 ≤ L.length := hk
        simp only [Nat.succ_ne_zero, if_false, this, if_true, Nat.add_sub_cancel]
        rw [List.getElem?_append_left hk]; exact ha
      · rw [List.getElem?_append_right (by omega)] at ha
        have : ¬ k + 1 ≤ L.length := by omega
        simp only [Nat.succ_ne_zero, if_false, this]
        rw [List.getElem?_append_right (by omega)]
        have e : k + 1 - L.length = (k - L.length) + 1 := by omega
        rw [e, List.getElem?_cons_succ]; exact ha)
  have h5 : Mem w0 (rStar (a :: L) :: pre) w := h4.star
  exact h5.weaken (fun k => if k < pre.length then k + 1 else 0) _ (fun a b e ha hb => by
      simp at ha hb
      split at e <;> split at e <;> omega) (fun a r ha => by
    rw [List.getElem?_append] at ha
    split at ha
    · rename_i hlt; simp only [hlt, if_true]; simpa using ha
    · rename_i hge
      have : a - pre.length = 0 := by have := (List.getElem?_eq_some_iff.1 ha).1; simp at this; omega
      rw [this] at ha; simp at ha; subst ha; simp [hge])
/-- Maps, out of their two halves. -/
theorem Mem.maps {e1 e2 : TypeId} {v : Value} {us : List Value} {ks : List Int} {xss : List (List Int)} {n : Nat} (pre : List Res) (idx : List Nat) (i j : Nat) (h : Mem w0 rs w) (hn : n = us.length) (hnd : (idx ++ [i, j]).Nodup) (hp : idx.map (fun i => rs[i]?) = pre.map some) (hi : rs[i]? = some (rOwn e1 2 v n (cells2 ks us))) (hj : rs[j]? = some (rStar (rRow e2 (Value.int .i64) us xss))) :
    Mem w0 (pre ++ [rMaps e1 e2 v us ks xss]) w := by
  subst hn
  exact h.joinStar pre idx i j hnd hp hi hj
theorem maps_nil (e1 e2 : TypeId) (h : Mem w0 rs w) : Mem w0 (rs ++ [rMaps e1 e2 (.slice none 0 0) [] [] []]) w := by
  have h1 := (h.nilOwn e1 2).empty
  have h2 := h1.joinStar (a := rOwn e1 2 (.slice none 0 0) 0 []) (L := []) rs (List.range rs.length) rs.length (rs.length + 1) (by
      rw [List.nodup_append]
      refine ⟨List.nodup_range, by simp, fun a ha b hb e => ?_⟩
      simp at ha hb; omega) (by
      apply List.ext_getElem?
      intro i
      by_cases hi : i < rs.length
      · simp [hi, List.getElem?_append_left hi, List.getElem?_append_left (show i < (rs ++ [rOwn e1 2 (.slice none 0 0) 0 []]).length by simp; omega)]
      · simp [hi]) (by simp) (by simp)
  exact h2
end
end Go.Eng
namespace Go.Proofs.Yteddlbgbakbpeaa
open Go.Eng Go.RowKit
set_option linter.unusedVariables false

def pErr (c : Int) : MpM := ⟨0, 0, [], [], c⟩
theorem mpErr (e1 e2 : TypeId) (c : Int) {rs : List Res} (h : rs = [rMaps e1 e2 (.slice none 0 0) [] [] []]) : MpOut e1 e2 (pErr c) (.tuple #[.agg #[.int .i64 0, .int .i64 0, .slice none 0 0], .int .i64 c]) rs :=
  ⟨_, [], rfl, h, rfl, nil_ok⟩
theorem pErr_small (c : Int) : Small (pErr c).xss := ⟨by simp [pErr], fun i hi => by simp [pErr] at hi⟩
theorem Mem.lone' {w0 w : World} {r : Res} {rs : List Res} (h : Mem w0 (rs ++ [r]) w) : Mem w0 [r] w := Mem.tail1 h

theorem bldMap {a : Int} {x : Value} {n : Nat} (hx : SlOk x n) : Try.prog.built 92 [(0, .int .i64 a), (1, x)] = some #[.int .i64 a, x] := by
  unfold SlOk at hx
  obtain ⟨p, c, rfl, _⟩ := hx
  kernel_rfl
noncomputable def mbdM (st tot : Int) (xss : List (List Int)) : MpM := if Valid st tot xss then ⟨st, tot, tab tot.toNat (fun _ => 1), tab tot.toNat (fun d => tab xss.length fun s => stepTo xss s d), 0⟩ else pErr 1
theorem mbdM_small (st tot : Int) (xss : List (List Int)) : Small (mbdM st tot xss).xss := by
  unfold mbdM
  split
  · rename_i h
    have h1 := h.t1
    have h2 := h.nat
    refine ⟨by simp only [tab_length]; omega, fun i hi => ?_⟩
    simp only [tab_length] at hi
    simp only [tab_getD _ _ _ _ hi, tab_length]; omega
  · exact pErr_small 1
theorem mbdM_len (st tot : Int) (xss : List (List Int)) : (mbdM st tot xss).ks.length = (mbdM st tot xss).xss.length := by
  unfold mbdM
  split
  · simp only [tab_length]
  · rfl
set_option maxHeartbeats 2000000 in
theorem implMapsByDraws_c (st tot : Int) (v : Value) (xss : List (List Int)) (row : Nat → Value) (w : World) (hr : RdS (Value.int .i64) 0 w v xss row) :
    Gives Try.prog 38 [chV st tot v] w (MpOut 92 2 (mbdM st tot xss)) := by
  refine calls_hw Try.func38 Try.ntmps38 rfl rfl ?_
  repeat' (first | refine hl_a ?_ | refine hq_a ?_ | refine hl_nil ?_ | refine hq_nil ?_ | refine hq_ga ?_ | refine hq_sk ?_ | refine hq_su ?_ | refine hq_gT ?_ | refine hq_gF ?_ | refine hq_gd (fun h => ?_) (fun h => ?_) | refine hl_ga ?_ | refine hl_sk ?_ | refine hl_su ?_ | refine hl_gT ?_ | refine hl_gF ?_ | refine hl_gd (fun h => ?_) (fun h => ?_) | refine hx_next ?_ | refine hw_seq ?_ | refine hw_region ?_ | refine hw_dr ?_ | refine hw_block ?_ | refine hx_block ?_ | refine hw_tt ?_ | refine hw_ff ?_ | refine hw_iT ?_ | refine hw_iF ?_ | refine hw_skip ?_ | refine hw_ret ?_ | refine hw_exit ?_ | refine hx_then_ret ?_ | refine hx_block_ret ?_ | refine hx_then_exit ?_ | refine hx_block_here ?_ | refine hx_far ?_ | refine hx_any ?_ | (apply ha_end; decide +kernel))
  refine hl_box (by decide) rfl (fun b => ?_)
  refine hl_alloc (by decide) (fun b0 => ?_)
  repeat' (first | refine hl_a ?_ | refine hq_a ?_ | refine hl_nil ?_ | refine hq_nil ?_ | refine hq_ga ?_ | refine hq_sk ?_ | refine hq_su ?_ | refine hq_gT ?_ | refine hq_gF ?_ | refine hq_gd (fun h => ?_) (fun h => ?_) | refine hl_ga ?_ | refine hl_sk ?_ | refine hl_su ?_ | refine hl_gT ?_ | refine hl_gF ?_ | refine hl_gd (fun h => ?_) (fun h => ?_) | refine hx_next ?_ | refine hw_seq ?_ | refine hw_region ?_ | refine hw_dr ?_ | refine hw_block ?_ | refine hx_block ?_ | refine hw_tt ?_ | refine hw_ff ?_ | refine hw_iT ?_ | refine hw_iF ?_ | refine hw_skip ?_ | refine hw_ret ?_ | refine hw_exit ?_ | refine hx_then_ret ?_ | refine hx_block_ret ?_ | refine hx_then_exit ?_ | refine hx_block_here ?_ | refine hx_far ?_ | refine hx_any ?_ | (apply ha_end; decide +kernel))
  first | refine hl_q (by decide) (q_call (fun w hm => implValidChain_c st tot v xss row w (hr.up hm.below)) rfl) ?_ | refine hq_q (by decide) (q_call (fun w hm => implValidChain_c st tot v xss row w (hr.up hm.below)) rfl) ?_ | refine hl_g _ _ rfl rfl (by decide) (q_call (fun w hm => implValidChain_c st tot v xss row w (hr.up hm.below)) rfl) ?_ | refine hq_g _ _ rfl rfl (by decide) (q_call (fun w hm => implValidChain_c st tot v xss row w (hr.up hm.below)) rfl) ?_
  repeat' (first | refine hl_a ?_ | refine hq_a ?_ | refine hl_nil ?_ | refine hq_nil ?_ | refine hq_ga ?_ | refine hq_sk ?_ | refine hq_su ?_ | refine hq_gT ?_ | refine hq_gF ?_ | refine hq_gd (fun h => ?_) (fun h => ?_) | refine hl_ga ?_ | refine hl_sk ?_ | refine hl_su ?_ | refine hl_gT ?_ | refine hl_gF ?_ | refine hl_gd (fun h => ?_) (fun h => ?_) | refine hx_next ?_ | refine hw_seq ?_ | refine hw_region ?_ | refine hw_dr ?_ | refine hw_block ?_ | refine hx_block ?_ | refine hw_tt ?_ | refine hw_ff ?_ | refine hw_iT ?_ | refine hw_iF ?_ | refine hw_skip ?_ | refine hw_ret ?_ | refine hw_exit ?_ | refine hx_then_ret ?_ | refine hx_block_ret ?_ | refine hx_then_exit ?_ | refine hx_block_here ?_ | refine hx_far ?_ | refine hx_any ?_ | (apply ha_end; decide +kernel))
  refine hw_if rfl (fun h => ?_) (fun h => ?_)
  · repeat' (first | refine hl_a ?_ | refine hq_a ?_ | refine hl_nil ?_ | refine hq_nil ?_ | refine hq_ga ?_ | refine hq_sk ?_ | refine hq_su ?_ | refine hq_gT ?_ | refine hq_gF ?_ | refine hq_gd (fun h => ?_) (fun h => ?_) | refine hl_ga ?_ | refine hl_sk ?_ | refine hl_su ?_ | refine hl_gT ?_ | refine hl_gF ?_ | refine hl_gd (fun h => ?_) (fun h => ?_) | refine hx_next ?_ | refine hw_seq ?_ | refine hw_region ?_ | refine hw_dr ?_ | refine hw_block ?_ | refine hx_block ?_ | refine hw_tt ?_ | refine hw_ff ?_ | refine hw_iT ?_ | refine hw_iF ?_ | refine hw_skip ?_ | refine hw_ret ?_ | refine hw_exit ?_ | refine hx_then_ret ?_ | refine hx_block_ret ?_ | refine hx_then_exit ?_ | refine hx_block_here ?_ | refine hx_far ?_ | refine hx_any ?_ | (apply ha_end; decide +kernel) | (apply hl_q; decide; (first | exact q_bld [] #[.int .i64 0, .int .i64 0, .slice none 0 0] rfl (by kernel_rfl))) | (apply hq_q; decide; (first | exact q_bld [] #[.int .i64 0, .int .i64 0, .slice none 0 0] rfl (by kernel_rfl))) | (apply hq_g; rfl; rfl; decide; (first | exact q_bld [] #[.int .i64 0, .int .i64 0, .slice none 0 0] rfl (by kernel_rfl))) | (apply hl_g; rfl; rfl; decide; (first | exact q_bld [] #[.int .i64 0, .int .i64 0, .slice none 0 0] rfl (by kernel_rfl))))
    refine hl_storeA 1 rfl rfl rfl rfl rfl (chV_one nil_ok) ?_
    repeat' (first | refine hl_a ?_ | refine hq_a ?_ | refine hl_nil ?_ | refine hq_nil ?_ | refine hq_ga ?_ | refine hq_sk ?_ | refine hq_su ?_ | refine hq_gT ?_ | refine hq_gF ?_ | refine hq_gd (fun h => ?_) (fun h => ?_) | refine hl_ga ?_ | refine hl_sk ?_ | refine hl_su ?_ | refine hl_gT ?_ | refine hl_gF ?_ | refine hl_gd (fun h => ?_) (fun h => ?_) | refine hx_next ?_ | refine hw_seq ?_ | refine hw_region ?_ | refine hw_dr ?_ | refine hw_block ?_ | refine hx_block ?_ | refine hw_tt ?_ | refine hw_ff ?_ | refine hw_iT ?_ | refine hw_iF ?_ | refine hw_skip ?_ | refine hw_ret ?_ | refine hw_exit ?_ | refine hx_then_ret ?_ | refine hx_block_ret ?_ | refine hx_then_exit ?_ | refine hx_block_here ?_ | refine hx_far ?_ | refine hx_any ?_ | (apply ha_end; decide +kernel))
    exact hx_retBt 1 rfl rfl rfl rfl rfl (fun w hm => ⟨_, _, rfl, maps_nil 92 2 hm.none, by rw [mbdM, if_neg h]; exact mpErr _ _ _ rfl⟩)
  have hv := Classical.not_not.1 h
  obtain ⟨rfl, hn1, hn6⟩ := hv.nat
  have ht1 := hv.t1
  obtain ⟨T, rfl⟩ := nat_of (show 0 ≤ tot by omega)
  have hM : mbdM (xss.length : Int) T xss = ⟨xss.length, T, tab T (fun _ => 1), tab T (fun d => tab xss.length fun s => stepTo xss s d), 0⟩ := by rw [mbdM, if_pos hv, Int.toNat_natCast]
  repeat' (first | refine hl_a ?_ | refine hq_a ?_ | refine hl_nil ?_ | refine hq_nil ?_ | refine hq_ga ?_ | refine hq_sk ?_ | refine hq_su ?_ | refine hq_gT ?_ | refine hq_gF ?_ | refine hq_gd (fun h => ?_) (fun h => ?_) | refine hl_ga ?_ | refine hl_sk ?_ | refine hl_su ?_ | refine hl_gT ?_ | refine hl_gF ?_ | refine hl_gd (fun h => ?_) (fun h => ?_) | refine hx_next ?_ | refine hw_seq ?_ | refine hw_region ?_ | refine hw_dr ?_ | refine hw_block ?_ | refine hx_block ?_ | refine hw_tt ?_ | refine hw_ff ?_ | refine hw_iT ?_ | refine hw_iF ?_ | refine hw_skip ?_ | refine hw_ret ?_ | refine hw_exit ?_ | refine hx_then_ret ?_ | refine hx_block_ret ?_ | refine hx_then_exit ?_ | refine hx_block_here ?_ | refine hx_far ?_ | refine hx_any ?_ | (apply ha_end; decide +kernel) | (apply hl_q; decide; exact q_bld [(0, .int .i64 (xss.length : Int)), (1, .int .i64 (T : Int))] #[.int .i64 (xss.length : Int), .int .i64 (T : Int), .slice none 0 0] rfl (by kernel_rfl)) | (apply hq_q; decide; exact q_bld [(0, .int .i64 (xss.length : Int)), (1, .int .i64 (T : Int))] #[.int .i64 (xss.length : Int), .int .i64 (T : Int), .slice none 0 0] rfl (by kernel_rfl)) | (apply hq_g; rfl; rfl; decide; exact q_bld [(0, .int .i64 (xss.length : Int)), (1, .int .i64 (T : Int))] #[.int .i64 (xss.length : Int), .int .i64 (T : Int), .slice none 0 0] rfl (by kernel_rfl)) | (apply hl_g; rfl; rfl; decide; exact q_bld [(0, .int .i64 (xss.length : Int)), (1, .int .i64 (T : Int))] #[.int .i64 (xss.length : Int), .int .i64 (T : Int), .slice none 0 0] rfl (by kernel_rfl)))
  refine hl_alloc (by decide) (fun b1 => ?_)
  refine hl_storeA 2 rfl rfl rfl rfl rfl (chV_one nil_ok) ?_
  repeat' (first | refine hl_a ?_ | refine hq_a ?_ | refine hl_nil ?_ | refine hq_nil ?_ | refine hq_ga ?_ | refine hq_sk ?_ | refine hq_su ?_ | refine hq_gT ?_ | refine hq_gF ?_ | refine hq_gd (fun h => ?_) (fun h => ?_) | refine hl_ga ?_ | refine hl_sk ?_ | refine hl_su ?_ | refine hl_gT ?_ | refine hl_gF ?_ | refine hl_gd (fun h => ?_) (fun h => ?_) | refine hx_next ?_ | refine hw_seq ?_ | refine hw_region ?_ | refine hw_dr ?_ | refine hw_block ?_ | refine hx_block ?_ | refine hw_tt ?_ | refine hw_ff ?_ | refine hw_iT ?_ | refine hw_iF ?_ | refine hw_skip ?_ | refine hw_ret ?_ | refine hw_exit ?_ | refine hx_then_ret ?_ | refine hx_block_ret ?_ | refine hx_then_exit ?_ | refine hx_block_here ?_ | refine hx_far ?_ | refine hx_any ?_ | (apply ha_end; decide +kernel))
  refine hw_mem (fun w hm => (hm.nilOwn 92 2).empty) ?_
  refine hw_loop (fun e r m => ∃ (k : Nat) (u : Value) (us : List Value), r = [rBlk b #[.int .i64 (xss.length : Int), .int .i64 (T : Int), v] 57, rBlk b0 #[.int .i64 0, .int .i64 0, .slice none 0 0] 33, rBlk b1 #[.int .i64 (xss.length : Int), .int .i64 (T : Int), u] 33, rOwn 92 2 u k (cells2 (tab k fun _ => 1) us), rStar (rRow 2 (Value.int .i64) us (tab k fun d => tab xss.length fun s => stepTo xss s d))] ∧ us.length = k ∧ k ≤ T ∧ m = T - k ∧ e = [(1, .pointer (some ⟨b, 0, none⟩)), (2, .pointer (some ⟨b0, 0, none⟩)), (4, .pointer (some ⟨b1, 0, none⟩)), (18, .int .i64 (T : Int)), (19, .int .i64 (k : Int))])
    ⟨0, _, [], rfl, rfl, Nat.zero_le _, rfl, rfl⟩ ⟨rfl, rfl, rfl, rfl, rfl, trivial⟩ ?_
  rintro _ _ _ ⟨k, u, us, rfl, hus, hk, rfl, rfl⟩
  repeat' (first | refine hl_a ?_ | refine hq_a ?_ | refine hl_nil ?_ | refine hq_nil ?_ | refine hq_ga ?_ | refine hq_sk ?_ | refine hq_su ?_ | refine hq_gT ?_ | refine hq_gF ?_ | refine hq_gd (fun h => ?_) (fun h => ?_) | refine hl_ga ?_ | refine hl_sk ?_ | refine hl_su ?_ | refine hl_gT ?_ | refine hl_gF ?_ | refine hl_gd (fun h => ?_) (fun h => ?_) | refine hx_next ?_ | refine hw_seq ?_ | refine hw_region ?_ | refine hw_dr ?_ | refine hw_block ?_ | refine hx_block ?_ | refine hw_tt ?_ | refine hw_ff ?_ | refine hw_iT ?_ | refine hw_iF ?_ | refine hw_skip ?_ | refine hw_ret ?_ | refine hw_exit ?_ | refine hx_then_ret ?_ | refine hx_block_ret ?_ | refine hx_then_exit ?_ | refine hx_block_here ?_ | refine hx_far ?_ | refine hx_any ?_ | (apply ha_end; decide +kernel))
  refine hw_if rfl (fun hlt => ?_) (fun hge => ?_)
  · have hk2 : k < T := by omega
    repeat' (first | refine hl_a ?_ | refine hq_a ?_ | refine hl_nil ?_ | refine hq_nil ?_ | refine hq_ga ?_ | refine hq_sk ?_ | refine hq_su ?_ | refine hq_gT ?_ | refine hq_gF ?_ | refine hq_gd (fun h => ?_) (fun h => ?_) | refine hl_ga ?_ | refine hl_sk ?_ | refine hl_su ?_ | refine hl_gT ?_ | refine hl_gF ?_ | refine hl_gd (fun h => ?_) (fun h => ?_) | refine hx_next ?_ | refine hw_seq ?_ | refine hw_region ?_ | refine hw_dr ?_ | refine hw_block ?_ | refine hx_block ?_ | refine hw_tt ?_ | refine hw_ff ?_ | refine hw_iT ?_ | refine hw_iF ?_ | refine hw_skip ?_ | refine hw_ret ?_ | refine hw_exit ?_ | refine hx_then_ret ?_ | refine hx_block_ret ?_ | refine hx_then_exit ?_ | refine hx_block_here ?_ | refine hx_far ?_ | refine hx_any ?_ | (apply ha_end; decide +kernel) | (apply hl_q; decide; exact q_bld [(0, .int .i64 1)] #[.int .i64 1, .slice none 0 0] rfl (by kernel_rfl)) | (apply hq_q; decide; exact q_bld [(0, .int .i64 1)] #[.int .i64 1, .slice none 0 0] rfl (by kernel_rfl)) | (apply hq_g; rfl; rfl; decide; exact q_bld [(0, .int .i64 1)] #[.int .i64 1, .slice none 0 0] rfl (by kernel_rfl)) | (apply hl_g; rfl; rfl; decide; exact q_bld [(0, .int .i64 1)] #[.int .i64 1, .slice none 0 0] rfl (by kernel_rfl)))
    refine hl_alloc (by decide) (fun bx => ?_)
    refine hl_mem (fun w hm => hm.pick (rs' := [_, _, _, _, _, _]) [0, 1, 2, 5, 3, 4] (by simp) rfl) ?_
    refine hl_storeA 3 rfl rfl rfl rfl rfl (mp_one nil_ok) ?_
    repeat' (first | refine hl_a ?_ | refine hq_a ?_ | refine hl_nil ?_ | refine hq_nil ?_ | refine hq_ga ?_ | refine hq_sk ?_ | refine hq_su ?_ | refine hq_gT ?_ | refine hq_gF ?_ | refine hq_gd (fun h => ?_) (fun h => ?_) | refine hl_ga ?_ | refine hl_sk ?_ | refine hl_su ?_ | refine hl_gT ?_ | refine hl_gF ?_ | refine hl_gd (fun h => ?_) (fun h => ?_) | refine hx_next ?_ | refine hw_seq ?_ | refine hw_region ?_ | refine hw_dr ?_ | refine hw_block ?_ | refine hx_block ?_ | refine hw_tt ?_ | refine hw_ff ?_ | refine hw_iT ?_ | refine hw_iF ?_ | refine hw_skip ?_ | refine hw_ret ?_ | refine hw_exit ?_ | refine hx_then_ret ?_ | refine hx_block_ret ?_ | refine hx_then_exit ?_ | refine hx_block_here ?_ | refine hx_far ?_ | refine hx_any ?_ | (apply ha_end; decide +kernel))
    refine hw_mem (fun w hm => hm.nilE 2 (Value.int .i64)) ?_
    refine hw_loop (fun e r m => ∃ (j : Nat) (x : Value), r = [rBlk b #[.int .i64 (xss.length : Int), .int .i64 (T : Int), v] 57, rBlk b0 #[.int .i64 0, .int .i64 0, .slice none 0 0] 33, rBlk b1 #[.int .i64 (xss.length : Int), .int .i64 (T : Int), u] 33, rBlk bx #[.int .i64 1, x] 92, rOwn 92 2 u k (cells2 (tab k fun _ => 1) us), rStar (rRow 2 (Value.int .i64) us (tab k fun d => tab xss.length fun s => stepTo xss s d)), rE 2 (Value.int .i64) x (tab j fun s => stepTo xss s k)] ∧ SlOk x j ∧ j ≤ xss.length ∧ m = xss.length - j ∧ e = [(1, .pointer (some ⟨b, 0, none⟩)), (2, .pointer (some ⟨b0, 0, none⟩)), (4, .pointer (some ⟨b1, 0, none⟩)), (5, .int .i64 (k : Int)), (6, .pointer (some ⟨bx, 0, none⟩)), (18, .int .i64 (T : Int)), (19, .int .i64 (k : Int)), (24, .int .i64 (xss.length : Int)), (25, .int .i64 (j : Int))])
      ⟨0, _, rfl, nil_ok, Nat.zero_le _, rfl, rfl⟩ ⟨rfl, rfl, rfl, rfl, rfl, rfl, rfl, rfl, rfl, trivial⟩ ?_
    rintro _ _ _ ⟨j, x, rfl, hx, hj, rfl, rfl⟩
    repeat' (first | refine hl_a ?_ | refine hq_a ?_ | refine hl_nil ?_ | refine hq_nil ?_ | refine hq_ga ?_ | refine hq_sk ?_ | refine hq_su ?_ | refine hq_gT ?_ | refine hq_gF ?_ | refine hq_gd (fun h => ?_) (fun h => ?_) | refine hl_ga ?_ | refine hl_sk ?_ | refine hl_su ?_ | refine hl_gT ?_ | refine hl_gF ?_ | refine hl_gd (fun h => ?_) (fun h => ?_) | refine hx_next ?_ | refine hw_seq ?_ | refine hw_region ?_ | refine hw_dr ?_ | refine hw_block ?_ | refine hx_block ?_ | refine hw_tt ?_ | refine hw_ff ?_ | refine hw_iT ?_ | refine hw_iF ?_ | refine hw_skip ?_ | refine hw_ret ?_ | refine hw_exit ?_ | refine hx_then_ret ?_ | refine hx_block_ret ?_ | refine hx_then_exit ?_ | refine hx_block_here ?_ | refine hx_far ?_ | refine hx_any ?_ | (apply ha_end; decide +kernel))
    refine hw_if rfl (fun hlt2 => ?_) (fun hge2 => ?_)
    · have hj2 : j < xss.length := by omega
      repeat' (first | refine hl_a ?_ | refine hq_a ?_ | refine hl_nil ?_ | refine hq_nil ?_ | refine hq_ga ?_ | refine hq_sk ?_ | refine hq_su ?_ | refine hq_gT ?_ | refine hq_gF ?_ | refine hq_gd (fun h => ?_) (fun h => ?_) | refine hl_ga ?_ | refine hl_sk ?_ | refine hl_su ?_ | refine hl_gT ?_ | refine hl_gF ?_ | refine hl_gd (fun h => ?_) (fun h => ?_) | refine hx_next ?_ | refine hw_seq ?_ | refine hw_region ?_ | refine hw_block ?_ | refine hx_block ?_ | refine hw_tt ?_ | refine hw_ff ?_ | refine hw_iT ?_ | refine hw_iF ?_ | refine hw_skip ?_ | refine hw_ret ?_ | refine hw_exit ?_ | refine hx_then_ret ?_ | refine hx_block_ret ?_ | refine hx_then_exit ?_ | refine hx_block_here ?_ | refine hx_far ?_ | refine hx_any ?_ | (apply ha_end; decide +kernel))
      refine hw_g [rBlk b #[.int .i64 (xss.length : Int), .int .i64 (T : Int), v] 57, rBlk b0 #[.int .i64 0, .int .i64 0, .slice none 0 0] 33, rBlk b1 #[.int .i64 (xss.length : Int), .int .i64 (T : Int), u] 33, rBlk bx #[.int .i64 1, x] 92] 7 (by kernel_rfl) ?_
      first | refine hg_t 0 ?_ | refine hg_tn 0 ?_
      first | refine hg_t 1 ?_ | refine hg_tn 1 ?_
      first | refine hg_t 2 ?_ | refine hg_tn 2 ?_
      first | refine hg_t 3 ?_ | refine hg_tn 3 ?_
      first | refine hg_t 4 ?_ | refine hg_tn 4 ?_
      refine hg_1 5 (by decide +kernel) rfl ?_
      first | refine hl_q (by decide) (q_call (fun w hm => stepByDraw_c _ _ v xss row (j : Int) (k : Int) w (hr.up hm.below) hv (by omega) (by omega)) rfl) ?_ | refine hq_q (by decide) (q_call (fun w hm => stepByDraw_c _ _ v xss row (j : Int) (k : Int) w (hr.up hm.below) hv (by omega) (by omega)) rfl) ?_ | refine hl_g _ _ rfl rfl (by decide) (q_call (fun w hm => stepByDraw_c _ _ v xss row (j : Int) (k : Int) w (hr.up hm.below) hv (by omega) (by omega)) rfl) ?_ | refine hq_g _ _ rfl rfl (by decide) (q_call (fun w hm => stepByDraw_c _ _ v xss row (j : Int) (k : Int) w (hr.up hm.below) hv (by omega) (by omega)) rfl) ?_
      refine hl_nil ?_
      refine hx_hg (by first | exact fun w hm => hm.none | exact fun w hm => Mem.keep _ hm) ?_
      refine hg_1 6 (by decide +kernel) rfl ?_
      refine hl_build1 (by decide) rfl rfl rfl (fun b3 => ?_)
      refine hl_nil ?_
      refine hx_hg (by first | exact fun w hm => hm.none | exact fun w hm => Mem.keep _ hm) ?_
      refine hg_1 7 (by decide +kernel) rfl ?_
      refine hl_appE 6 7 (stepTo xss j k) rfl rfl (by decide) rfl rfl rfl (by rw [tab_length]; omega) (by decide) (fun x2 hx2 => ?_)
      refine hl_nil ?_
      refine hx_hgT rfl ?_
      refine hg_1 8 (by decide +kernel) rfl ?_
      refine hl_a ?_
      refine hl_nil ?_
      refine hx_hgT rfl ?_
      refine hg_1 9 (by decide +kernel) rfl ?_
      refine hl_storeB 3 rfl rfl rfl rfl rfl hx2.one ?_
      refine hl_nil ?_
      refine hx_hgT rfl ?_
      refine hg_end (by decide +kernel) ?_
      repeat' (first | refine hl_a ?_ | refine hq_a ?_ | refine hl_nil ?_ | refine hq_nil ?_ | refine hq_ga ?_ | refine hq_sk ?_ | refine hq_su ?_ | refine hq_gT ?_ | refine hq_gF ?_ | refine hq_gd (fun h => ?_) (fun h => ?_) | refine hl_ga ?_ | refine hl_sk ?_ | refine hl_su ?_ | refine hl_gT ?_ | refine hl_gF ?_ | refine hl_gd (fun h => ?_) (fun h => ?_) | refine hx_next ?_ | refine hw_seq ?_ | refine hw_region ?_ | refine hw_block ?_ | refine hx_block ?_ | refine hw_tt ?_ | refine hw_ff ?_ | refine hw_iT ?_ | refine hw_iF ?_ | refine hw_skip ?_ | refine hw_ret ?_ | refine hw_exit ?_ | refine hx_then_ret ?_ | refine hx_block_ret ?_ | refine hx_then_exit ?_ | refine hx_block_here ?_ | refine hx_far ?_ | refine hx_any ?_ | (apply ha_end; decide +kernel))
      refine hx_mem (fun w hm => Mem.keep [_, _, _, _, _, _, _] hm) ?_
      refine hx_round ⟨j + 1, x2, ?_, ?_, hj2, rfl, rfl⟩ (by omega) ⟨rfl, rfl, rfl, rfl, rfl, rfl, rfl, rfl, rfl, trivial⟩
      · rw [tab_succ]; rfl
      · simpa [tab_length] using hx2
    · have e : j = xss.length := by omega
      subst e
      repeat' (first | refine hl_a ?_ | refine hq_a ?_ | refine hl_nil ?_ | refine hq_nil ?_ | refine hq_ga ?_ | refine hq_sk ?_ | refine hq_su ?_ | refine hq_gT ?_ | refine hq_gF ?_ | refine hq_gd (fun h => ?_) (fun h => ?_) | refine hl_ga ?_ | refine hl_sk ?_ | refine hl_su ?_ | refine hl_gT ?_ | refine hl_gF ?_ | refine hl_gd (fun h => ?_) (fun h => ?_) | refine hx_next ?_ | refine hw_seq ?_ | refine hw_region ?_ | refine hw_dr ?_ | refine hw_block ?_ | refine hx_block ?_ | refine hw_tt ?_ | refine hw_ff ?_ | refine hw_iT ?_ | refine hw_iF ?_ | refine hw_skip ?_ | refine hw_ret ?_ | refine hw_exit ?_ | refine hx_then_ret ?_ | refine hx_block_ret ?_ | refine hx_then_exit ?_ | refine hx_block_here ?_ | refine hx_far ?_ | refine hx_any ?_ | (apply ha_end; decide +kernel))
      refine hl_pushS 4 rfl (by decide) (by decide) rfl rfl hx.one rfl (fun b => rfl) (by omega) (by decide) (fun u' b2 hu' => ?_)
      repeat' (first | refine hl_a ?_ | refine hq_a ?_ | refine hl_nil ?_ | refine hq_nil ?_ | refine hq_ga ?_ | refine hq_sk ?_ | refine hq_su ?_ | refine hq_gT ?_ | refine hq_gF ?_ | refine hq_gd (fun h => ?_) (fun h => ?_) | refine hl_ga ?_ | refine hl_sk ?_ | refine hl_su ?_ | refine hl_gT ?_ | refine hl_gF ?_ | refine hl_gd (fun h => ?_) (fun h => ?_) | refine hx_next ?_ | refine hw_seq ?_ | refine hw_region ?_ | refine hw_dr ?_ | refine hw_block ?_ | refine hx_block ?_ | refine hw_tt ?_ | refine hw_ff ?_ | refine hw_iT ?_ | refine hw_iF ?_ | refine hw_skip ?_ | refine hw_ret ?_ | refine hw_exit ?_ | refine hx_then_ret ?_ | refine hx_block_ret ?_ | refine hx_then_exit ?_ | refine hx_block_here ?_ | refine hx_far ?_ | refine hx_any ?_ | (apply ha_end; decide +kernel))
      refine hl_storeB 2 rfl rfl rfl rfl rfl hu'.one ?_
      repeat' (first | refine hl_a ?_ | refine hq_a ?_ | refine hl_nil ?_ | refine hq_nil ?_ | refine hq_ga ?_ | refine hq_sk ?_ | refine hq_su ?_ | refine hq_gT ?_ | refine hq_gF ?_ | refine hq_gd (fun h => ?_) (fun h => ?_) | refine hl_ga ?_ | refine hl_sk ?_ | refine hl_su ?_ | refine hl_gT ?_ | refine hl_gF ?_ | refine hl_gd (fun h => ?_) (fun h => ?_) | refine hx_next ?_ | refine hw_seq ?_ | refine hw_region ?_ | refine hw_dr ?_ | refine hw_block ?_ | refine hx_block ?_ | refine hw_tt ?_ | refine hw_ff ?_ | refine hw_iT ?_ | refine hw_iF ?_ | refine hw_skip ?_ | refine hw_ret ?_ | refine hw_exit ?_ | refine hx_then_ret ?_ | refine hx_block_ret ?_ | refine hx_then_exit ?_ | refine hx_block_here ?_ | refine hx_far ?_ | refine hx_any ?_ | (apply ha_end; decide +kernel))
      refine hx_mem (rs' := [rBlk b #[.int .i64 (xss.length : Int), .int .i64 (T : Int), v] 57, rBlk b0 #[.int .i64 0, .int .i64 0, .slice none 0 0] 33, rBlk b1 #[.int .i64 (xss.length : Int), .int .i64 (T : Int), u'] 33, rOwn 92 2 u' (k + 1) (cells2 (tab (k + 1) fun _ => 1) (us ++ [x])), rStar (rRow 2 (Value.int .i64) (us ++ [x]) (tab (k + 1) fun d => tab xss.length fun s => stepTo xss s d))]) (fun w hm => ?_) ?_
      · rw [tab_succ, tab_succ, cells2_snoc _ _ _ _ (by rw [tab_length]; exact hus.symm), rRow_snoc _ _ _ _ (by rw [tab_length]; exact hus)]
        exact Mem.pack [_, _, _, _] (hm.pick (rs' := [_, _, _, _, _, _]) [0, 1, 2, 4, 5, 6] (by simp) rfl)
      · exact hx_round ⟨k + 1, u', us ++ [x], rfl, by simp [hus], hk2, rfl, rfl⟩ (by omega) ⟨rfl, rfl, rfl, rfl, rfl, trivial⟩
  · have e : k = T := by omega
    subst e
    refine hw_own 3 rfl (fun hu => ?_)
    repeat' (first | refine hl_a ?_ | refine hq_a ?_ | refine hl_nil ?_ | refine hq_nil ?_ | refine hq_ga ?_ | refine hq_sk ?_ | refine hq_su ?_ | refine hq_gT ?_ | refine hq_gF ?_ | refine hq_gd (fun h => ?_) (fun h => ?_) | refine hl_ga ?_ | refine hl_sk ?_ | refine hl_su ?_ | refine hl_gT ?_ | refine hl_gF ?_ | refine hl_gd (fun h => ?_) (fun h => ?_) | refine hx_next ?_ | refine hw_seq ?_ | refine hw_region ?_ | refine hw_dr ?_ | refine hw_block ?_ | refine hx_block ?_ | refine hw_tt ?_ | refine hw_ff ?_ | refine hw_iT ?_ | refine hw_iF ?_ | refine hw_skip ?_ | refine hw_ret ?_ | refine hw_exit ?_ | refine hx_then_ret ?_ | refine hx_block_ret ?_ | refine hx_then_exit ?_ | refine hx_block_here ?_ | refine hx_far ?_ | refine hx_any ?_ | (apply ha_end; decide +kernel))
    refine hl_storeA 1 rfl rfl rfl rfl rfl (chV_one hu) ?_
    repeat' (first | refine hl_a ?_ | refine hq_a ?_ | refine hl_nil ?_ | refine hq_nil ?_ | refine hq_ga ?_ | refine hq_sk ?_ | refine hq_su ?_ | refine hq_gT ?_ | refine hq_gF ?_ | refine hq_gd (fun h => ?_) (fun h => ?_) | refine hl_ga ?_ | refine hl_sk ?_ | refine hl_su ?_ | refine hl_gT ?_ | refine hl_gF ?_ | refine hl_gd (fun h => ?_) (fun h => ?_) | refine hx_next ?_ | refine hw_seq ?_ | refine hw_region ?_ | refine hw_dr ?_ | refine hw_block ?_ | refine hx_block ?_ | refine hw_tt ?_ | refine hw_ff ?_ | refine hw_iT ?_ | refine hw_iF ?_ | refine hw_skip ?_ | refine hw_ret ?_ | refine hw_exit ?_ | refine hx_then_ret ?_ | refine hx_block_ret ?_ | refine hx_then_exit ?_ | refine hx_block_here ?_ | refine hx_far ?_ | refine hx_any ?_ | (apply ha_end; decide +kernel))
    exact hx_retBt 1 rfl rfl rfl rfl rfl (fun w hm => ⟨_, _, rfl, Mem.tail1 (hm.maps [] [] 3 4 hus.symm (by decide) rfl rfl rfl), by rw [hM]; exact ⟨u, us, rfl, rfl, by simp only [tab_length]; exact hus, by simp only [tab_length]; exact hu⟩⟩)
set_option maxHeartbeats 2000000 in
theorem specMapsByDraws_c (st tot : Int) (v : Value) (xss : List (List Int)) (row : Nat → Value) (w : World) (hr : RdS (Value.int .i64) 0 w v xss row) :
    Gives Try.prog 36 [chV st tot v] w (MpOut 92 2 (mbdM st tot xss)) := by
  refine calls_hw Try.func36 Try.ntmps36 rfl rfl ?_
  repeat' (first | refine hl_a ?_ | refine hq_a ?_ | refine hl_nil ?_ | refine hq_nil ?_ | refine hq_ga ?_ | refine hq_sk ?_ | refine hq_su ?_ | refine hq_gT ?_ | refine hq_gF ?_ | refine hq_gd (fun h => ?_) (fun h => ?_) | refine hl_ga ?_ | refine hl_sk ?_ | refine hl_su ?_ | refine hl_gT ?_ | refine hl_gF ?_ | refine hl_gd (fun h => ?_) (fun h => ?_) | refine hx_next ?_ | refine hw_seq ?_ | refine hw_region ?_ | refine hw_dr ?_ | refine hw_block ?_ | refine hx_block ?_ | refine hw_tt ?_ | refine hw_ff ?_ | refine hw_iT ?_ | refine hw_iF ?_ | refine hw_skip ?_ | refine hw_ret ?_ | refine hw_exit ?_ | refine hx_then_ret ?_ | refine hx_block_ret ?_ | refine hx_then_exit ?_ | refine hx_block_here ?_ | refine hx_far ?_ | refine hx_any ?_ | (apply ha_end; decide +kernel))
  refine hl_box (by decide) rfl (fun b => ?_)
  refine hl_alloc (by decide) (fun b0 => ?_)
  repeat' (first | refine hl_a ?_ | refine hq_a ?_ | refine hl_nil ?_ | refine hq_nil ?_ | refine hq_ga ?_ | refine hq_sk ?_ | refine hq_su ?_ | refine hq_gT ?_ | refine hq_gF ?_ | refine hq_gd (fun h => ?_) (fun h => ?_) | refine hl_ga ?_ | refine hl_sk ?_ | refine hl_su ?_ | refine hl_gT ?_ | refine hl_gF ?_ | refine hl_gd (fun h => ?_) (fun h => ?_) | refine hx_next ?_ | refine hw_seq ?_ | refine hw_region ?_ | refine hw_dr ?_ | refine hw_block ?_ | refine hx_block ?_ | refine hw_tt ?_ | refine hw_ff ?_ | refine hw_iT ?_ | refine hw_iF ?_ | refine hw_skip ?_ | refine hw_ret ?_ | refine hw_exit ?_ | refine hx_then_ret ?_ | refine hx_block_ret ?_ | refine hx_then_exit ?_ | refine hx_block_here ?_ | refine hx_far ?_ | refine hx_any ?_ | (apply ha_end; decide +kernel))
  first | refine hl_q (by decide) (q_call (fun w hm => (ptC_blk 0 rfl hm (hr.up hm.below)).ok) rfl) ?_ | refine hq_q (by decide) (q_call (fun w hm => (ptC_blk 0 rfl hm (hr.up hm.below)).ok) rfl) ?_ | refine hl_g _ _ rfl rfl (by decide) (q_call (fun w hm => (ptC_blk 0 rfl hm (hr.up hm.below)).ok) rfl) ?_ | refine hq_g _ _ rfl rfl (by decide) (q_call (fun w hm => (ptC_blk 0 rfl hm (hr.up hm.below)).ok) rfl) ?_
  repeat' (first | refine hl_a ?_ | refine hq_a ?_ | refine hl_nil ?_ | refine hq_nil ?_ | refine hq_ga ?_ | refine hq_sk ?_ | refine hq_su ?_ | refine hq_gT ?_ | refine hq_gF ?_ | refine hq_gd (fun h => ?_) (fun h => ?_) | refine hl_ga ?_ | refine hl_sk ?_ | refine hl_su ?_ | refine hl_gT ?_ | refine hl_gF ?_ | refine hl_gd (fun h => ?_) (fun h => ?_) | refine hx_next ?_ | refine hw_seq ?_ | refine hw_region ?_ | refine hw_dr ?_ | refine hw_block ?_ | refine hx_block ?_ | refine hw_tt ?_ | refine hw_ff ?_ | refine hw_iT ?_ | refine hw_iF ?_ | refine hw_skip ?_ | refine hw_ret ?_ | refine hw_exit ?_ | refine hx_then_ret ?_ | refine hx_block_ret ?_ | refine hx_then_exit ?_ | refine hx_block_here ?_ | refine hx_far ?_ | refine hx_any ?_ | (apply ha_end; decide +kernel))
  refine hw_if rfl (fun h => ?_) (fun h => ?_)
  · repeat' (first | refine hl_a ?_ | refine hq_a ?_ | refine hl_nil ?_ | refine hq_nil ?_ | refine hq_ga ?_ | refine hq_sk ?_ | refine hq_su ?_ | refine hq_gT ?_ | refine hq_gF ?_ | refine hq_gd (fun h => ?_) (fun h => ?_) | refine hl_ga ?_ | refine hl_sk ?_ | refine hl_su ?_ | refine hl_gT ?_ | refine hl_gF ?_ | refine hl_gd (fun h => ?_) (fun h => ?_) | refine hx_next ?_ | refine hw_seq ?_ | refine hw_region ?_ | refine hw_dr ?_ | refine hw_block ?_ | refine hx_block ?_ | refine hw_tt ?_ | refine hw_ff ?_ | refine hw_iT ?_ | refine hw_iF ?_ | refine hw_skip ?_ | refine hw_ret ?_ | refine hw_exit ?_ | refine hx_then_ret ?_ | refine hx_block_ret ?_ | refine hx_then_exit ?_ | refine hx_block_here ?_ | refine hx_far ?_ | refine hx_any ?_ | (apply ha_end; decide +kernel) | (apply hl_q; decide; (first | exact q_bld [] #[.int .i64 0, .int .i64 0, .slice none 0 0] rfl (by kernel_rfl))) | (apply hq_q; decide; (first | exact q_bld [] #[.int .i64 0, .int .i64 0, .slice none 0 0] rfl (by kernel_rfl))) | (apply hq_g; rfl; rfl; decide; (first | exact q_bld [] #[.int .i64 0, .int .i64 0, .slice none 0 0] rfl (by kernel_rfl))) | (apply hl_g; rfl; rfl; decide; (first | exact q_bld [] #[.int .i64 0, .int .i64 0, .slice none 0 0] rfl (by kernel_rfl))))
    refine hl_storeA 1 rfl rfl rfl rfl rfl (chV_one nil_ok) ?_
    repeat' (first | refine hl_a ?_ | refine hq_a ?_ | refine hl_nil ?_ | refine hq_nil ?_ | refine hq_ga ?_ | refine hq_sk ?_ | refine hq_su ?_ | refine hq_gT ?_ | refine hq_gF ?_ | refine hq_gd (fun h => ?_) (fun h => ?_) | refine hl_ga ?_ | refine hl_sk ?_ | refine hl_su ?_ | refine hl_gT ?_ | refine hl_gF ?_ | refine hl_gd (fun h => ?_) (fun h => ?_) | refine hx_next ?_ | refine hw_seq ?_ | refine hw_region ?_ | refine hw_dr ?_ | refine hw_block ?_ | refine hx_block ?_ | refine hw_tt ?_ | refine hw_ff ?_ | refine hw_iT ?_ | refine hw_iF ?_ | refine hw_skip ?_ | refine hw_ret ?_ | refine hw_exit ?_ | refine hx_then_ret ?_ | refine hx_block_ret ?_ | refine hx_then_exit ?_ | refine hx_block_here ?_ | refine hx_far ?_ | refine hx_any ?_ | (apply ha_end; decide +kernel))
    exact hx_retBt 1 rfl rfl rfl rfl rfl (fun w hm => ⟨_, _, rfl, maps_nil 92 2 hm.none, by rw [mbdM, if_neg h]; exact mpErr _ _ _ rfl⟩)
  have hv := Classical.not_not.1 h
  obtain ⟨rfl, hn1, hn6⟩ := hv.nat
  have ht1 := hv.t1
  obtain ⟨T, rfl⟩ := nat_of (show 0 ≤ tot by omega)
  have hM : mbdM (xss.length : Int) T xss = ⟨xss.length, T, tab T (fun _ => 1), tab T (fun d => tab xss.length fun s => stepTo xss s d), 0⟩ := by rw [mbdM, if_pos hv, Int.toNat_natCast]
  repeat' (first | refine hl_a ?_ | refine hq_a ?_ | refine hl_nil ?_ | refine hq_nil ?_ | refine hq_ga ?_ | refine hq_sk ?_ | refine hq_su ?_ | refine hq_gT ?_ | refine hq_gF ?_ | refine hq_gd (fun h => ?_) (fun h => ?_) | refine hl_ga ?_ | refine hl_sk ?_ | refine hl_su ?_ | refine hl_gT ?_ | refine hl_gF ?_ | refine hl_gd (fun h => ?_) (fun h => ?_) | refine hx_next ?_ | refine hw_seq ?_ | refine hw_region ?_ | refine hw_dr ?_ | refine hw_block ?_ | refine hx_block ?_ | refine hw_tt ?_ | refine hw_ff ?_ | refine hw_iT ?_ | refine hw_iF ?_ | refine hw_skip ?_ | refine hw_ret ?_ | refine hw_exit ?_ | refine hx_then_ret ?_ | refine hx_block_ret ?_ | refine hx_then_exit ?_ | refine hx_block_here ?_ | refine hx_far ?_ | refine hx_any ?_ | (apply ha_end; decide +kernel) | (apply hl_q; decide; exact q_bld [(0, .int .i64 (xss.length : Int)), (1, .int .i64 (T : Int))] #[.int .i64 (xss.length : Int), .int .i64 (T : Int), .slice none 0 0] rfl (by kernel_rfl)) | (apply hq_q; decide; exact q_bld [(0, .int .i64 (xss.length : Int)), (1, .int .i64 (T : Int))] #[.int .i64 (xss.length : Int), .int .i64 (T : Int), .slice none 0 0] rfl (by kernel_rfl)) | (apply hq_g; rfl; rfl; decide; exact q_bld [(0, .int .i64 (xss.length : Int)), (1, .int .i64 (T : Int))] #[.int .i64 (xss.length : Int), .int .i64 (T : Int), .slice none 0 0] rfl (by kernel_rfl)) | (apply hl_g; rfl; rfl; decide; exact q_bld [(0, .int .i64 (xss.length : Int)), (1, .int .i64 (T : Int))] #[.int .i64 (xss.length : Int), .int .i64 (T : Int), .slice none 0 0] rfl (by kernel_rfl)))
  refine hl_alloc (by decide) (fun b1 => ?_)
  refine hl_storeA 2 rfl rfl rfl rfl rfl (chV_one nil_ok) ?_
  repeat' (first | refine hl_a ?_ | refine hq_a ?_ | refine hl_nil ?_ | refine hq_nil ?_ | refine hq_ga ?_ | refine hq_sk ?_ | refine hq_su ?_ | refine hq_gT ?_ | refine hq_gF ?_ | refine hq_gd (fun h => ?_) (fun h => ?_) | refine hl_ga ?_ | refine hl_sk ?_ | refine hl_su ?_ | refine hl_gT ?_ | refine hl_gF ?_ | refine hl_gd (fun h => ?_) (fun h => ?_) | refine hx_next ?_ | refine hw_seq ?_ | refine hw_region ?_ | refine hw_dr ?_ | refine hw_block ?_ | refine hx_block ?_ | refine hw_tt ?_ | refine hw_ff ?_ | refine hw_iT ?_ | refine hw_iF ?_ | refine hw_skip ?_ | refine hw_ret ?_ | refine hw_exit ?_ | refine hx_then_ret ?_ | refine hx_block_ret ?_ | refine hx_then_exit ?_ | refine hx_block_here ?_ | refine hx_far ?_ | refine hx_any ?_ | (apply ha_end; decide +kernel))
  refine hw_mem (fun w hm => (hm.nilOwn 92 2).empty) ?_
  refine hw_loop (fun e r m => ∃ (k : Nat) (u : Value) (us : List Value), r = [rBlk b #[.int .i64 (xss.length : Int), .int .i64 (T : Int), v] 57, rBlk b0 #[.int .i64 0, .int .i64 0, .slice none 0 0] 33, rBlk b1 #[.int .i64 (xss.length : Int), .int .i64 (T : Int), u] 33, rOwn 92 2 u k (cells2 (tab k fun _ => 1) us), rStar (rRow 2 (Value.int .i64) us (tab k fun d => tab xss.length fun s => stepTo xss s d))] ∧ us.length = k ∧ k ≤ T ∧ m = T - k ∧ e = [(1, .pointer (some ⟨b, 0, none⟩)), (2, .pointer (some ⟨b0, 0, none⟩)), (4, .pointer (some ⟨b1, 0, none⟩)), (5, .int .i64 (k : Int))])
    ⟨0, _, [], rfl, rfl, Nat.zero_le _, rfl, rfl⟩ ⟨rfl, rfl, rfl, rfl, trivial⟩ ?_
  rintro _ _ _ ⟨k, u, us, rfl, hus, hk, rfl, rfl⟩
  repeat' (first | refine hl_a ?_ | refine hq_a ?_ | refine hl_nil ?_ | refine hq_nil ?_ | refine hq_ga ?_ | refine hq_sk ?_ | refine hq_su ?_ | refine hq_gT ?_ | refine hq_gF ?_ | refine hq_gd (fun h => ?_) (fun h => ?_) | refine hl_ga ?_ | refine hl_sk ?_ | refine hl_su ?_ | refine hl_gT ?_ | refine hl_gF ?_ | refine hl_gd (fun h => ?_) (fun h => ?_) | refine hx_next ?_ | refine hw_seq ?_ | refine hw_region ?_ | refine hw_dr ?_ | refine hw_block ?_ | refine hx_block ?_ | refine hw_tt ?_ | refine hw_ff ?_ | refine hw_iT ?_ | refine hw_iF ?_ | refine hw_skip ?_ | refine hw_ret ?_ | refine hw_exit ?_ | refine hx_then_ret ?_ | refine hx_block_ret ?_ | refine hx_then_exit ?_ | refine hx_block_here ?_ | refine hx_far ?_ | refine hx_any ?_ | (apply ha_end; decide +kernel))
  refine hw_if rfl (fun hlt => ?_) (fun hge => ?_)
  · have hk2 : k < T := by omega
    repeat' (first | refine hl_a ?_ | refine hq_a ?_ | refine hl_nil ?_ | refine hq_nil ?_ | refine hq_ga ?_ | refine hq_sk ?_ | refine hq_su ?_ | refine hq_gT ?_ | refine hq_gF ?_ | refine hq_gd (fun h => ?_) (fun h => ?_) | refine hl_ga ?_ | refine hl_sk ?_ | refine hl_su ?_ | refine hl_gT ?_ | refine hl_gF ?_ | refine hl_gd (fun h => ?_) (fun h => ?_) | refine hx_next ?_ | refine hw_seq ?_ | refine hw_region ?_ | refine hw_dr ?_ | refine hw_block ?_ | refine hx_block ?_ | refine hw_tt ?_ | refine hw_ff ?_ | refine hw_iT ?_ | refine hw_iF ?_ | refine hw_skip ?_ | refine hw_ret ?_ | refine hw_exit ?_ | refine hx_then_ret ?_ | refine hx_block_ret ?_ | refine hx_then_exit ?_ | refine hx_block_here ?_ | refine hx_far ?_ | refine hx_any ?_ | (apply ha_end; decide +kernel))
    refine hl_build0 (by decide) (fun bz => ?_)
    repeat' (first | refine hl_a ?_ | refine hq_a ?_ | refine hl_nil ?_ | refine hq_nil ?_ | refine hq_ga ?_ | refine hq_sk ?_ | refine hq_su ?_ | refine hq_gT ?_ | refine hq_gF ?_ | refine hq_gd (fun h => ?_) (fun h => ?_) | refine hl_ga ?_ | refine hl_sk ?_ | refine hl_su ?_ | refine hl_gT ?_ | refine hl_gF ?_ | refine hl_gd (fun h => ?_) (fun h => ?_) | refine hx_next ?_ | refine hw_seq ?_ | refine hw_region ?_ | refine hw_dr ?_ | refine hw_block ?_ | refine hx_block ?_ | refine hw_tt ?_ | refine hw_ff ?_ | refine hw_iT ?_ | refine hw_iF ?_ | refine hw_skip ?_ | refine hw_ret ?_ | refine hw_exit ?_ | refine hx_then_ret ?_ | refine hx_block_ret ?_ | refine hx_then_exit ?_ | refine hx_block_here ?_ | refine hx_far ?_ | refine hx_any ?_ | (apply ha_end; decide +kernel))
    refine hw_loop (fun e r m => ∃ (j : Nat) (x : Value), r = [rBlk b #[.int .i64 (xss.length : Int), .int .i64 (T : Int), v] 57, rBlk b0 #[.int .i64 0, .int .i64 0, .slice none 0 0] 33, rBlk b1 #[.int .i64 (xss.length : Int), .int .i64 (T : Int), u] 33, rOwn 92 2 u k (cells2 (tab k fun _ => 1) us), rStar (rRow 2 (Value.int .i64) us (tab k fun d => tab xss.length fun s => stepTo xss s d)), rE 2 (Value.int .i64) x (tab j fun s => stepTo xss s k)] ∧ SlOk x j ∧ j ≤ xss.length ∧ m = xss.length - j ∧ e = [(1, .pointer (some ⟨b, 0, none⟩)), (2, .pointer (some ⟨b0, 0, none⟩)), (4, .pointer (some ⟨b1, 0, none⟩)), (5, .int .i64 (k : Int)), (6, x), (7, .int .i64 (j : Int))])
      ⟨0, _, rfl, lit_ok _ 0 (by decide), Nat.zero_le _, rfl, rfl⟩ ⟨rfl, rfl, rfl, rfl, rfl, rfl, trivial⟩ ?_
    rintro _ _ _ ⟨j, x, rfl, hx, hj, rfl, rfl⟩
    repeat' (first | refine hl_a ?_ | refine hq_a ?_ | refine hl_nil ?_ | refine hq_nil ?_ | refine hq_ga ?_ | refine hq_sk ?_ | refine hq_su ?_ | refine hq_gT ?_ | refine hq_gF ?_ | refine hq_gd (fun h => ?_) (fun h => ?_) | refine hl_ga ?_ | refine hl_sk ?_ | refine hl_su ?_ | refine hl_gT ?_ | refine hl_gF ?_ | refine hl_gd (fun h => ?_) (fun h => ?_) | refine hx_next ?_ | refine hw_seq ?_ | refine hw_region ?_ | refine hw_dr ?_ | refine hw_block ?_ | refine hx_block ?_ | refine hw_tt ?_ | refine hw_ff ?_ | refine hw_iT ?_ | refine hw_iF ?_ | refine hw_skip ?_ | refine hw_ret ?_ | refine hw_exit ?_ | refine hx_then_ret ?_ | refine hx_block_ret ?_ | refine hx_then_exit ?_ | refine hx_block_here ?_ | refine hx_far ?_ | refine hx_any ?_ | (apply ha_end; decide +kernel))
    refine hw_if rfl (fun hlt2 => ?_) (fun hge2 => ?_)
    · have hj2 : j < xss.length := by omega
      repeat' (first | refine hl_a ?_ | refine hq_a ?_ | refine hl_nil ?_ | refine hq_nil ?_ | refine hq_ga ?_ | refine hq_sk ?_ | refine hq_su ?_ | refine hq_gT ?_ | refine hq_gF ?_ | refine hq_gd (fun h => ?_) (fun h => ?_) | refine hl_ga ?_ | refine hl_sk ?_ | refine hl_su ?_ | refine hl_gT ?_ | refine hl_gF ?_ | refine hl_gd (fun h => ?_) (fun h => ?_) | refine hx_next ?_ | refine hw_seq ?_ | refine hw_region ?_ | refine hw_dr ?_ | refine hw_block ?_ | refine hx_block ?_ | refine hw_tt ?_ | refine hw_ff ?_ | refine hw_iT ?_ | refine hw_iF ?_ | refine hw_skip ?_ | refine hw_ret ?_ | refine hw_exit ?_ | refine hx_then_ret ?_ | refine hx_block_ret ?_ | refine hx_then_exit ?_ | refine hx_block_here ?_ | refine hx_far ?_ | refine hx_any ?_ | (apply ha_end; decide +kernel))
      first | refine hl_q (by decide) (q_call (fun w hm => l01To_c _ _ _ v xss row (j : Int) (k : Int) w (ptC_blk 0 rfl hm (hr.up hm.below)) hv (by omega)) rfl) ?_ | refine hq_q (by decide) (q_call (fun w hm => l01To_c _ _ _ v xss row (j : Int) (k : Int) w (ptC_blk 0 rfl hm (hr.up hm.below)) hv (by omega)) rfl) ?_ | refine hl_g _ _ rfl rfl (by decide) (q_call (fun w hm => l01To_c _ _ _ v xss row (j : Int) (k : Int) w (ptC_blk 0 rfl hm (hr.up hm.below)) hv (by omega)) rfl) ?_ | refine hq_g _ _ rfl rfl (by decide) (q_call (fun w hm => l01To_c _ _ _ v xss row (j : Int) (k : Int) w (ptC_blk 0 rfl hm (hr.up hm.below)) hv (by omega)) rfl) ?_
      repeat' (first | refine hl_a ?_ | refine hq_a ?_ | refine hl_nil ?_ | refine hq_nil ?_ | refine hq_ga ?_ | refine hq_sk ?_ | refine hq_su ?_ | refine hq_gT ?_ | refine hq_gF ?_ | refine hq_gd (fun h => ?_) (fun h => ?_) | refine hl_ga ?_ | refine hl_sk ?_ | refine hl_su ?_ | refine hl_gT ?_ | refine hl_gF ?_ | refine hl_gd (fun h => ?_) (fun h => ?_) | refine hx_next ?_ | refine hw_seq ?_ | refine hw_region ?_ | refine hw_dr ?_ | refine hw_block ?_ | refine hx_block ?_ | refine hw_tt ?_ | refine hw_ff ?_ | refine hw_iT ?_ | refine hw_iF ?_ | refine hw_skip ?_ | refine hw_ret ?_ | refine hw_exit ?_ | refine hx_then_ret ?_ | refine hx_block_ret ?_ | refine hx_then_exit ?_ | refine hx_block_here ?_ | refine hx_far ?_ | refine hx_any ?_ | (apply ha_end; decide +kernel))
      refine hl_pushE 5 rfl (by decide) (by decide) (stepTo xss j k) rfl rfl rfl (fun b => rfl) (by rw [tab_length]; omega) (by decide) (fun x2 b2 hx2 => ?_)
      repeat' (first | refine hl_a ?_ | refine hq_a ?_ | refine hl_nil ?_ | refine hq_nil ?_ | refine hq_ga ?_ | refine hq_sk ?_ | refine hq_su ?_ | refine hq_gT ?_ | refine hq_gF ?_ | refine hq_gd (fun h => ?_) (fun h => ?_) | refine hl_ga ?_ | refine hl_sk ?_ | refine hl_su ?_ | refine hl_gT ?_ | refine hl_gF ?_ | refine hl_gd (fun h => ?_) (fun h => ?_) | refine hx_next ?_ | refine hw_seq ?_ | refine hw_region ?_ | refine hw_dr ?_ | refine hw_block ?_ | refine hx_block ?_ | refine hw_tt ?_ | refine hw_ff ?_ | refine hw_iT ?_ | refine hw_iF ?_ | refine hw_skip ?_ | refine hw_ret ?_ | refine hw_exit ?_ | refine hx_then_ret ?_ | refine hx_block_ret ?_ | refine hx_then_exit ?_ | refine hx_block_here ?_ | refine hx_far ?_ | refine hx_any ?_ | (apply ha_end; decide +kernel))
      refine hx_round ⟨j + 1, x2, ?_, ?_, hj2, rfl, rfl⟩ (by omega) ⟨rfl, rfl, rfl, rfl, rfl, rfl, trivial⟩
      · rw [tab_succ]; rfl
      · simpa [tab_length] using hx2
    · have e : j = xss.length := by omega
      subst e
      repeat' (first | refine hl_a ?_ | refine hq_a ?_ | refine hl_nil ?_ | refine hq_nil ?_ | refine hq_ga ?_ | refine hq_sk ?_ | refine hq_su ?_ | refine hq_gT ?_ | refine hq_gF ?_ | refine hq_gd (fun h => ?_) (fun h => ?_) | refine hl_ga ?_ | refine hl_sk ?_ | refine hl_su ?_ | refine hl_gT ?_ | refine hl_gF ?_ | refine hl_gd (fun h => ?_) (fun h => ?_) | refine hx_next ?_ | refine hw_seq ?_ | refine hw_region ?_ | refine hw_dr ?_ | refine hw_block ?_ | refine hx_block ?_ | refine hw_tt ?_ | refine hw_ff ?_ | refine hw_iT ?_ | refine hw_iF ?_ | refine hw_skip ?_ | refine hw_ret ?_ | refine hw_exit ?_ | refine hx_then_ret ?_ | refine hx_block_ret ?_ | refine hx_then_exit ?_ | refine hx_block_here ?_ | refine hx_far ?_ | refine hx_any ?_ | (apply ha_end; decide +kernel))
      first | refine hl_q (by decide) (q_bld [(0, .int .i64 1), (1, x)] #[.int .i64 1, x] rfl (bldMap hx)) ?_ | refine hq_q (by decide) (q_bld [(0, .int .i64 1), (1, x)] #[.int .i64 1, x] rfl (bldMap hx)) ?_ | refine hl_g _ _ rfl rfl (by decide) (q_bld [(0, .int .i64 1), (1, x)] #[.int .i64 1, x] rfl (bldMap hx)) ?_ | refine hq_g _ _ rfl rfl (by decide) (q_bld [(0, .int .i64 1), (1, x)] #[.int .i64 1, x] rfl (bldMap hx)) ?_
      refine hl_pushS 3 rfl (by decide) (by decide) rfl rfl hx.one rfl (fun b => rfl) (by omega) (by decide) (fun u' b2 hu' => ?_)
      repeat' (first | refine hl_a ?_ | refine hq_a ?_ | refine hl_nil ?_ | refine hq_nil ?_ | refine hq_ga ?_ | refine hq_sk ?_ | refine hq_su ?_ | refine hq_gT ?_ | refine hq_gF ?_ | refine hq_gd (fun h => ?_) (fun h => ?_) | refine hl_ga ?_ | refine hl_sk ?_ | refine hl_su ?_ | refine hl_gT ?_ | refine hl_gF ?_ | refine hl_gd (fun h => ?_) (fun h => ?_) | refine hx_next ?_ | refine hw_seq ?_ | refine hw_region ?_ | refine hw_dr ?_ | refine hw_block ?_ | refine hx_block ?_ | refine hw_tt ?_ | refine hw_ff ?_ | refine hw_iT ?_ | refine hw_iF ?_ | refine hw_skip ?_ | refine hw_ret ?_ | refine hw_exit ?_ | refine hx_then_ret ?_ | refine hx_block_ret ?_ | refine hx_then_exit ?_ | refine hx_block_here ?_ | refine hx_far ?_ | refine hx_any ?_ | (apply ha_end; decide +kernel))
      refine hl_storeB 2 rfl rfl rfl rfl rfl hu'.one ?_
      repeat' (first | refine hl_a ?_ | refine hq_a ?_ | refine hl_nil ?_ | refine hq_nil ?_ | refine hq_ga ?_ | refine hq_sk ?_ | refine hq_su ?_ | refine hq_gT ?_ | refine hq_gF ?_ | refine hq_gd (fun h => ?_) (fun h => ?_) | refine hl_ga ?_ | refine hl_sk ?_ | refine hl_su ?_ | refine hl_gT ?_ | refine hl_gF ?_ | refine hl_gd (fun h => ?_) (fun h => ?_) | refine hx_next ?_ | refine hw_seq ?_ | refine hw_region ?_ | refine hw_dr ?_ | refine hw_block ?_ | refine hx_block ?_ | refine hw_tt ?_ | refine hw_ff ?_ | refine hw_iT ?_ | refine hw_iF ?_ | refine hw_skip ?_ | refine hw_ret ?_ | refine hw_exit ?_ | refine hx_then_ret ?_ | refine hx_block_ret ?_ | refine hx_then_exit ?_ | refine hx_block_here ?_ | refine hx_far ?_ | refine hx_any ?_ | (apply ha_end; decide +kernel))
      refine hx_mem (rs' := [rBlk b #[.int .i64 (xss.length : Int), .int .i64 (T : Int), v] 57, rBlk b0 #[.int .i64 0, .int .i64 0, .slice none 0 0] 33, rBlk b1 #[.int .i64 (xss.length : Int), .int .i64 (T : Int), u'] 33, rOwn 92 2 u' (k + 1) (cells2 (tab (k + 1) fun _ => 1) (us ++ [x])), rStar (rRow 2 (Value.int .i64) (us ++ [x]) (tab (k + 1) fun d => tab xss.length fun s => stepTo xss s d))]) (fun w hm => ?_) ?_
      · rw [tab_succ, tab_succ, cells2_snoc _ _ _ _ (by rw [tab_length]; exact hus.symm), rRow_snoc _ _ _ _ (by rw [tab_length]; exact hus)]
        exact Mem.pack [_, _, _, _] hm
      · exact hx_round ⟨k + 1, u', us ++ [x], rfl, by simp [hus], hk2, rfl, rfl⟩ (by omega) ⟨rfl, rfl, rfl, rfl, trivial⟩
  · have e : k = T := by omega
    subst e
    refine hw_own 3 rfl (fun hu => ?_)
    repeat' (first | refine hl_a ?_ | refine hq_a ?_ | refine hl_nil ?_ | refine hq_nil ?_ | refine hq_ga ?_ | refine hq_sk ?_ | refine hq_su ?_ | refine hq_gT ?_ | refine hq_gF ?_ | refine hq_gd (fun h => ?_) (fun h => ?_) | refine hl_ga ?_ | refine hl_sk ?_ | refine hl_su ?_ | refine hl_gT ?_ | refine hl_gF ?_ | refine hl_gd (fun h => ?_) (fun h => ?_) | refine hx_next ?_ | refine hw_seq ?_ | refine hw_region ?_ | refine hw_dr ?_ | refine hw_block ?_ | refine hx_block ?_ | refine hw_tt ?_ | refine hw_ff ?_ | refine hw_iT ?_ | refine hw_iF ?_ | refine hw_skip ?_ | refine hw_ret ?_ | refine hw_exit ?_ | refine hx_then_ret ?_ | refine hx_block_ret ?_ | refine hx_then_exit ?_ | refine hx_block_here ?_ | refine hx_far ?_ | refine hx_any ?_ | (apply ha_end; decide +kernel))
    refine hl_storeA 1 rfl rfl rfl rfl rfl (chV_one hu) ?_
    repeat' (first | refine hl_a ?_ | refine hq_a ?_ | refine hl_nil ?_ | refine hq_nil ?_ | refine hq_ga ?_ | refine hq_sk ?_ | refine hq_su ?_ | refine hq_gT ?_ | refine hq_gF ?_ | refine hq_gd (fun h => ?_) (fun h => ?_) | refine hl_ga ?_ | refine hl_sk ?_ | refine hl_su ?_ | refine hl_gT ?_ | refine hl_gF ?_ | refine hl_gd (fun h => ?_) (fun h => ?_) | refine hx_next ?_ | refine hw_seq ?_ | refine hw_region ?_ | refine hw_dr ?_ | refine hw_block ?_ | refine hx_block ?_ | refine hw_tt ?_ | refine hw_ff ?_ | refine hw_iT ?_ | refine hw_iF ?_ | refine hw_skip ?_ | refine hw_ret ?_ | refine hw_exit ?_ | refine hx_then_ret ?_ | refine hx_block_ret ?_ | refine hx_then_exit ?_ | refine hx_block_here ?_ | refine hx_far ?_ | refine hx_any ?_ | (apply ha_end; decide +kernel))
    exact hx_retBt 1 rfl rfl rfl rfl rfl (fun w hm => ⟨_, _, rfl, Mem.tail1 (hm.maps [] [] 3 4 hus.symm (by decide) rfl rfl rfl), by rw [hM]; exact ⟨u, us, rfl, rfl, by simp only [tab_length]; exact hus, by simp only [tab_length]; exact hu⟩⟩)
end Go.Proofs.Yteddlbgbakbpeaa
