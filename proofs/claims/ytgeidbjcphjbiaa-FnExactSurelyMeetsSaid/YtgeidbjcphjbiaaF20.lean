/- Contracts: closed classes; chains that are connected. -/
import Derived.Test.YtgeidbjcphjbiaaF19
namespace Go.Proofs.Ytgeidbjcphjbiaa
open Go.Eng Go.RowKit
set_option linter.unusedVariables false

/-- Lists of numbers. -/
def Out2 (e1 e2 : TypeId) (xss : List (List Int)) (v : Value) (rs : List Res) : Prop := ∃ vs : List Value, rs = [rRows e1 e2 (Value.int .i64) v vs xss] ∧ vs.length = xss.length ∧ SlOk v xss.length
noncomputable def rS (xss : List (List Int)) (s : Nat) : List Int := filt xss.length (rB xss s)
def clP (xss : List (List Int)) (s : Nat) : Prop := (rS xss s).getD 0 0 = (s : Int) ∧ ∀ x ∈ rS xss s, rB xss x.toNat s = true
noncomputable def clL (xss : List (List Int)) : Nat → List (List Int)
  | 0 => []
  | k + 1 => clL xss k ++ @ite _ (clP xss k) (Classical.propDecidable _) [rS xss k] []
theorem clL_yes {xss : List (List Int)} {k : Nat} (h : clP xss k) : clL xss (k + 1) = clL xss k ++ [rS xss k] := by rw [clL, if_pos h]
theorem clL_no {xss : List (List Int)} {k : Nat} (h : ¬ clP xss k) : clL xss (k + 1) = clL xss k := by rw [clL, if_neg h, List.append_nil]
theorem clL_len (xss : List (List Int)) : ∀ k, (clL xss k).length ≤ k
  | 0 => by simp [clL]
  | k + 1 => by
    have := clL_len xss k
    by_cases h : clP xss k
    · rw [clL_yes h]; simp; omega
    · rw [clL_no h]; omega
theorem rS_pos {xss : List (List Int)} {s : Nat} (hs : s < xss.length) : 0 < (rS xss s).length :=
  List.length_pos_of_mem (nat_mem_filt.2 ⟨hs, rB_iff.2 .refl⟩)
theorem rS_len (xss : List (List Int)) (s : Nat) : (rS xss s).length ≤ xss.length := filt_len _ _

theorem closed1_c {p po : Addr} {st tot : Int} {v : Value} {xss : List (List Int)} {row : Nat → Value} {q : Nat → Bool} {w : World} (x : Int) (s : Nat) (hp : PtC w p st tot v xss row) (hpo : w.cell? po = some (.int .i64 (s : Int))) (hv : Valid st tot xss) (hs : s < xss.length)
    (hx : x ∈ filt xss.length q) : Ret Try.prog 135 [.int .i64 x, .pointer (some p), .pointer (some po)] w (.bool (!rB xss x.toNat s)) := by
  obtain ⟨t, ht, _, rfl⟩ := mem_filt.1 hx
  rw [Int.toNat_natCast]
  obtain ⟨h0, h1, h2, hr⟩ := hp
  have hl : ∀ rs : List Res, ∀ (i : Nat) (u : Value), (#[.int .i64 st, .int .i64 tot, v] : Array Value)[i]? = some u → Ld w rs (p.add i) u := fun rs i u hu => by
    match i, hu with
    | 0, hu => cases hu; exact ld_base h0
    | 1, hu => cases hu; exact ld_base h1
    | 2, hu => cases hu; exact ld_base h2
    | i + 3, hu => simp at hu
  refine calls_hw Try.func135 Try.ntmps135 rfl rfl ?_
  repeat' (first | refine hl_a ?_ | refine hq_a ?_ | refine hl_nil ?_ | refine hq_nil ?_ | refine hq_ga ?_ | refine hq_sk ?_ | refine hq_su ?_ | refine hq_gT ?_ | refine hq_gF ?_ | refine hq_gd (fun h => ?_) (fun h => ?_) | refine hl_ga ?_ | refine hl_sk ?_ | refine hl_su ?_ | refine hl_gT ?_ | refine hl_gF ?_ | refine hl_gd (fun h => ?_) (fun h => ?_) | refine hx_next ?_ | refine hw_seq ?_ | refine hw_region ?_ | refine hw_block ?_ | refine hx_block ?_ | refine hw_tt ?_ | refine hw_ff ?_ | refine hw_iT ?_ | refine hw_iF ?_ | refine hw_skip ?_ | refine hw_ret ?_ | refine hw_exit ?_ | refine hx_then_ret ?_ | refine hx_block_ret ?_ | refine hx_then_exit ?_ | refine hx_block_here ?_ | refine hx_far ?_ | refine hx_any ?_ | (apply ha_end; decide +kernel))
  refine hw_g [] 8 (by kernel_rfl) ?_
  refine hg_t 0 ?_ (hq := q_loadA (cs := #[.int .i64 st, .int .i64 tot, v]) rfl rfl (hl _))
  first | refine hg_t 1 ?_ | refine hg_tn 1 ?_
  first | refine hg_t 3 ?_ | refine hg_tn 3 ?_
  refine hg_1 2 (by decide +kernel) rfl ?_
  refine hl_call (by decide) (fun w hm => reach_c st tot v xss row t w (hr.up hm.below) hv ht) rfl ?_
  rintro u _ ⟨rfl, hu⟩
  rw [tab_length] at hu
  have hld : Ld w [rE 4 Value.bool u (tab xss.length (rB xss t))] (vAt u s) (.bool (rB xss t s)) := by
    have := ld_E (w0 := w) (rs := [rE 4 Value.bool u (tab xss.length (rB xss t))]) (e := 4) (enc := Value.bool) (v := u) (xs := tab xss.length (rB xss t)) 0 (j := s) false rfl (by rw [tab_length]; exact hs)
    rwa [tab_getD _ _ _ _ hs] at this
  refine hl_nil ?_
  refine hx_hg (by first | exact fun w hm => hm.none | exact fun w hm => Mem.keep _ hm) ?_
  refine hg_1 4 (by decide +kernel) rfl ?_
  refine hl_a ?_
  refine hl_nil ?_
  refine hx_hg (by first | exact fun w hm => hm.none | exact fun w hm => Mem.keep _ hm) ?_
  refine hg_1 5 (by decide +kernel) rfl ?_
  refine hl_a ?_
  refine hl_nil ?_
  refine hx_hg (by first | exact fun w hm => hm.none | exact fun w hm => Mem.keep _ hm) ?_
  refine hg_1 6 (by decide +kernel) rfl ?_
  refine hl_a ?_
  refine hl_nil ?_
  refine hx_hg (by first | exact fun w hm => hm.none | exact fun w hm => Mem.keep _ hm) ?_
  refine hg_1 7 (by decide +kernel) rfl ?_
  refine hl_a ?_
  refine hl_nil ?_
  refine hx_hg (by first | exact fun w hm => hm.none | exact fun w hm => Mem.keep _ hm) ?_
  refine hg_end (by decide +kernel) ?_
  repeat' (first | refine hl_a ?_ | refine hq_a ?_ | refine hl_nil ?_ | refine hq_nil ?_ | refine hq_ga ?_ | refine hq_sk ?_ | refine hq_su ?_ | refine hq_gT ?_ | refine hq_gF ?_ | refine hq_gd (fun h => ?_) (fun h => ?_) | refine hl_ga ?_ | refine hl_sk ?_ | refine hl_su ?_ | refine hl_gT ?_ | refine hl_gF ?_ | refine hl_gd (fun h => ?_) (fun h => ?_) | refine hx_next ?_ | refine hw_seq ?_ | refine hw_region ?_ | refine hw_dr ?_ | refine hw_block ?_ | refine hx_block ?_ | refine hw_tt ?_ | refine hw_ff ?_ | refine hw_iT ?_ | refine hw_iF ?_ | refine hw_skip ?_ | refine hw_ret ?_ | refine hw_exit ?_ | refine hx_then_ret ?_ | refine hx_block_ret ?_ | refine hx_then_exit ?_ | refine hx_block_here ?_ | refine hx_far ?_ | refine hx_any ?_ | (apply ha_end; decide +kernel))
  refine hx_ret1 rfl rfl (fun w hm => ⟨?_, hm.none⟩)
  rfl
set_option maxHeartbeats 1000000 in
theorem implClosed_c (st tot : Int) (v : Value) (xss : List (List Int)) (row : Nat → Value) (w : World) (hr : RdS (Value.int .i64) 0 w v xss row) (hv : Valid st tot xss) :
    Gives Try.prog 126 [chV st tot v] w (Out2 82 2 (clL xss xss.length)) := by
  refine calls_hw Try.func126 Try.ntmps126 rfl rfl ?_
  obtain ⟨rfl, hn1, hn2⟩ := hv.nat
  have hsl := hr.sl
  repeat' (first | refine hl_a ?_ | refine hq_a ?_ | refine hl_nil ?_ | refine hq_nil ?_ | refine hq_ga ?_ | refine hq_sk ?_ | refine hq_su ?_ | refine hq_gT ?_ | refine hq_gF ?_ | refine hq_gd (fun h => ?_) (fun h => ?_) | refine hl_ga ?_ | refine hl_sk ?_ | refine hl_su ?_ | refine hl_gT ?_ | refine hl_gF ?_ | refine hl_gd (fun h => ?_) (fun h => ?_) | refine hx_next ?_ | refine hw_seq ?_ | refine hw_region ?_ | refine hw_dr ?_ | refine hw_block ?_ | refine hx_block ?_ | refine hw_tt ?_ | refine hw_ff ?_ | refine hw_iT ?_ | refine hw_iF ?_ | refine hw_skip ?_ | refine hw_ret ?_ | refine hw_exit ?_ | refine hx_then_ret ?_ | refine hx_block_ret ?_ | refine hx_then_exit ?_ | refine hx_block_here ?_ | refine hx_far ?_ | refine hx_any ?_ | (apply ha_end; decide +kernel))
  refine hl_box (by decide) rfl (fun b => ?_)
  repeat' (first | refine hl_a ?_ | refine hq_a ?_ | refine hl_nil ?_ | refine hq_nil ?_ | refine hq_ga ?_ | refine hq_sk ?_ | refine hq_su ?_ | refine hq_gT ?_ | refine hq_gF ?_ | refine hq_gd (fun h => ?_) (fun h => ?_) | refine hl_ga ?_ | refine hl_sk ?_ | refine hl_su ?_ | refine hl_gT ?_ | refine hl_gF ?_ | refine hl_gd (fun h => ?_) (fun h => ?_) | refine hx_next ?_ | refine hw_seq ?_ | refine hw_region ?_ | refine hw_dr ?_ | refine hw_block ?_ | refine hx_block ?_ | refine hw_tt ?_ | refine hw_ff ?_ | refine hw_iT ?_ | refine hw_iF ?_ | refine hw_skip ?_ | refine hw_ret ?_ | refine hw_exit ?_ | refine hx_then_ret ?_ | refine hx_block_ret ?_ | refine hx_then_exit ?_ | refine hx_block_here ?_ | refine hx_far ?_ | refine hx_any ?_ | (apply ha_end; decide +kernel))
  refine hl_build0 (by decide) (fun b1 => ?_)
  repeat' (first | refine hl_a ?_ | refine hq_a ?_ | refine hl_nil ?_ | refine hq_nil ?_ | refine hq_ga ?_ | refine hq_sk ?_ | refine hq_su ?_ | refine hq_gT ?_ | refine hq_gF ?_ | refine hq_gd (fun h => ?_) (fun h => ?_) | refine hl_ga ?_ | refine hl_sk ?_ | refine hl_su ?_ | refine hl_gT ?_ | refine hl_gF ?_ | refine hl_gd (fun h => ?_) (fun h => ?_) | refine hx_next ?_ | refine hw_seq ?_ | refine hw_region ?_ | refine hw_dr ?_ | refine hw_block ?_ | refine hx_block ?_ | refine hw_tt ?_ | refine hw_ff ?_ | refine hw_iT ?_ | refine hw_iF ?_ | refine hw_skip ?_ | refine hw_ret ?_ | refine hw_exit ?_ | refine hx_then_ret ?_ | refine hx_block_ret ?_ | refine hx_then_exit ?_ | refine hx_block_here ?_ | refine hx_far ?_ | refine hx_any ?_ | (apply ha_end; decide +kernel))
  refine hw_mem (fun w hm => hm.empty) ?_
  refine hw_loop (fun e r m => ∃ (k : Nat) (u : Value) (vs : List Value), r = [rBlk b #[.int .i64 (xss.length : Int), .int .i64 tot, v] 31, rOwn 82 1 u vs.length vs, rStar (rRow 2 (Value.int .i64) vs (clL xss k))] ∧ vs.length = (clL xss k).length ∧ SlOk u vs.length ∧ k ≤ xss.length ∧ m = xss.length - k ∧ e = [(1, .pointer (some ⟨b, 0, none⟩)), (3, u), (9, .int .i64 (xss.length : Int)), (10, .int .i64 k)])
    ⟨0, _, [], rfl, rfl, lit_ok _ 0 (by decide), Nat.zero_le _, rfl, rfl⟩ ⟨rfl, rfl, rfl, rfl, trivial⟩ ?_
  rintro _ _ _ ⟨k, u, vs, rfl, hvs, hu, hk, rfl, rfl⟩
  have hcl := clL_len xss k
  repeat' (first | refine hl_a ?_ | refine hq_a ?_ | refine hl_nil ?_ | refine hq_nil ?_ | refine hq_ga ?_ | refine hq_sk ?_ | refine hq_su ?_ | refine hq_gT ?_ | refine hq_gF ?_ | refine hq_gd (fun h => ?_) (fun h => ?_) | refine hl_ga ?_ | refine hl_sk ?_ | refine hl_su ?_ | refine hl_gT ?_ | refine hl_gF ?_ | refine hl_gd (fun h => ?_) (fun h => ?_) | refine hx_next ?_ | refine hw_seq ?_ | refine hw_region ?_ | refine hw_dr ?_ | refine hw_block ?_ | refine hx_block ?_ | refine hw_tt ?_ | refine hw_ff ?_ | refine hw_iT ?_ | refine hw_iF ?_ | refine hw_skip ?_ | refine hw_ret ?_ | refine hw_exit ?_ | refine hx_then_ret ?_ | refine hx_block_ret ?_ | refine hx_then_exit ?_ | refine hx_block_here ?_ | refine hx_far ?_ | refine hx_any ?_ | (apply ha_end; decide +kernel))
  refine hw_if rfl (fun hlt => ?_) (fun hge => ?_)
  · have hk2 : k < xss.length := by omega
    have hpos := rS_pos hk2
    repeat' (first | refine hl_a ?_ | refine hq_a ?_ | refine hl_nil ?_ | refine hq_nil ?_ | refine hq_ga ?_ | refine hq_sk ?_ | refine hq_su ?_ | refine hq_gT ?_ | refine hq_gF ?_ | refine hq_gd (fun h => ?_) (fun h => ?_) | refine hl_ga ?_ | refine hl_sk ?_ | refine hl_su ?_ | refine hl_gT ?_ | refine hl_gF ?_ | refine hl_gd (fun h => ?_) (fun h => ?_) | refine hx_next ?_ | refine hw_seq ?_ | refine hw_region ?_ | refine hw_dr ?_ | refine hw_block ?_ | refine hx_block ?_ | refine hw_tt ?_ | refine hw_ff ?_ | refine hw_iT ?_ | refine hw_iF ?_ | refine hw_skip ?_ | refine hw_ret ?_ | refine hw_exit ?_ | refine hx_then_ret ?_ | refine hx_block_ret ?_ | refine hx_then_exit ?_ | refine hx_block_here ?_ | refine hx_far ?_ | refine hx_any ?_ | (apply ha_end; decide +kernel))
    refine hl_alloc (by decide) (fun bs => ?_)
    repeat' (first | refine hl_a ?_ | refine hq_a ?_ | refine hl_nil ?_ | refine hq_nil ?_ | refine hq_ga ?_ | refine hq_sk ?_ | refine hq_su ?_ | refine hq_gT ?_ | refine hq_gF ?_ | refine hq_gd (fun h => ?_) (fun h => ?_) | refine hl_ga ?_ | refine hl_sk ?_ | refine hl_su ?_ | refine hl_gT ?_ | refine hl_gF ?_ | refine hl_gd (fun h => ?_) (fun h => ?_) | refine hx_next ?_ | refine hw_seq ?_ | refine hw_region ?_ | refine hw_dr ?_ | refine hw_block ?_ | refine hx_block ?_ | refine hw_tt ?_ | refine hw_ff ?_ | refine hw_iT ?_ | refine hw_iF ?_ | refine hw_skip ?_ | refine hw_ret ?_ | refine hw_exit ?_ | refine hx_then_ret ?_ | refine hx_block_ret ?_ | refine hx_then_exit ?_ | refine hx_block_here ?_ | refine hx_far ?_ | refine hx_any ?_ | (apply ha_end; decide +kernel))
    refine hl_storeB 3 rfl rfl rfl rfl rfl rfl ?_
    refine hl_mem (rs' := [rBlk b #[.int .i64 (xss.length : Int), .int .i64 tot, v] 31, rOwn 82 1 u vs.length vs, rStar (rRow 2 (Value.int .i64) vs (clL xss k)), rBlk bs #[.int .i64 (k : Int)] 2]) (fun w hm => hm) ?_
    repeat' (first | refine hl_a ?_ | refine hq_a ?_ | refine hl_nil ?_ | refine hq_nil ?_ | refine hq_ga ?_ | refine hq_sk ?_ | refine hq_su ?_ | refine hq_gT ?_ | refine hq_gF ?_ | refine hq_gd (fun h => ?_) (fun h => ?_) | refine hl_ga ?_ | refine hl_sk ?_ | refine hl_su ?_ | refine hl_gT ?_ | refine hl_gF ?_ | refine hl_gd (fun h => ?_) (fun h => ?_) | refine hx_next ?_ | refine hw_seq ?_ | refine hw_region ?_ | refine hw_dr ?_ | refine hw_block ?_ | refine hx_block ?_ | refine hw_tt ?_ | refine hw_ff ?_ | refine hw_iT ?_ | refine hw_iF ?_ | refine hw_skip ?_ | refine hw_ret ?_ | refine hw_exit ?_ | refine hx_then_ret ?_ | refine hx_block_ret ?_ | refine hx_then_exit ?_ | refine hx_block_here ?_ | refine hx_far ?_ | refine hx_any ?_ | (apply ha_end; decide +kernel))
    refine hl_call (by decide) (fun w hm => reach_c (xss.length : Int) tot v xss row k w (hr.up hm.below) hv hk2) rfl ?_
    rintro u1 _ ⟨rfl, hu1⟩
    repeat' (first | refine hl_a ?_ | refine hq_a ?_ | refine hl_nil ?_ | refine hq_nil ?_ | refine hq_ga ?_ | refine hq_sk ?_ | refine hq_su ?_ | refine hq_gT ?_ | refine hq_gF ?_ | refine hq_gd (fun h => ?_) (fun h => ?_) | refine hl_ga ?_ | refine hl_sk ?_ | refine hl_su ?_ | refine hl_gT ?_ | refine hl_gF ?_ | refine hl_gd (fun h => ?_) (fun h => ?_) | refine hx_next ?_ | refine hw_seq ?_ | refine hw_region ?_ | refine hw_dr ?_ | refine hw_block ?_ | refine hx_block ?_ | refine hw_tt ?_ | refine hw_ff ?_ | refine hw_iT ?_ | refine hw_iF ?_ | refine hw_skip ?_ | refine hw_ret ?_ | refine hw_exit ?_ | refine hx_then_ret ?_ | refine hx_block_ret ?_ | refine hx_then_exit ?_ | refine hx_block_here ?_ | refine hx_far ?_ | refine hx_any ?_ | (apply ha_end; decide +kernel))
    refine hl_call (by decide) (fun w hm => membersOf_c u1 xss.length (rB xss k) (by omega) w (hm.rd 4 rfl false)) rfl ?_
    rintro u2 _ ⟨rfl, hu2⟩
    repeat' (first | refine hl_a ?_ | refine hq_a ?_ | refine hl_nil ?_ | refine hq_nil ?_ | refine hq_ga ?_ | refine hq_sk ?_ | refine hq_su ?_ | refine hq_gT ?_ | refine hq_gF ?_ | refine hq_gd (fun h => ?_) (fun h => ?_) | refine hl_ga ?_ | refine hl_sk ?_ | refine hl_su ?_ | refine hl_gT ?_ | refine hl_gF ?_ | refine hl_gd (fun h => ?_) (fun h => ?_) | refine hx_next ?_ | refine hw_seq ?_ | refine hw_region ?_ | refine hw_dr ?_ | refine hw_block ?_ | refine hx_block ?_ | refine hw_tt ?_ | refine hw_ff ?_ | refine hw_iT ?_ | refine hw_iF ?_ | refine hw_skip ?_ | refine hw_ret ?_ | refine hw_exit ?_ | refine hx_then_ret ?_ | refine hx_block_ret ?_ | refine hx_then_exit ?_ | refine hx_block_here ?_ | refine hx_far ?_ | refine hx_any ?_ | (apply ha_end; decide +kernel))
    first | refine hl_q (by decide) (q_fn [.pointer (some ⟨b, 0, none⟩), .pointer (some ⟨bs, 0, none⟩)] rfl) ?_ | refine hq_q (by decide) (q_fn [.pointer (some ⟨b, 0, none⟩), .pointer (some ⟨bs, 0, none⟩)] rfl) ?_ | refine hl_g _ _ rfl rfl (by decide) (q_fn [.pointer (some ⟨b, 0, none⟩), .pointer (some ⟨bs, 0, none⟩)] rfl) ?_ | refine hq_g _ _ rfl rfl (by decide) (q_fn [.pointer (some ⟨b, 0, none⟩), .pointer (some ⟨bs, 0, none⟩)] rfl) ?_
    have hld : Ld w [rBlk b #[.int .i64 (xss.length : Int), .int .i64 tot, v] 31, rOwn 82 1 u vs.length vs, rStar (rRow 2 (Value.int .i64) vs (clL xss k)), rBlk bs #[.int .i64 (k : Int)] 2, rE 4 Value.bool u1 (tab xss.length (rB xss k)), rE 2 (Value.int .i64) u2 (rS xss k)] (vAt u2 0) (.int .i64 ((rS xss k).getD 0 0)) :=
      ld_E (w0 := w) (e := 2) (enc := Value.int .i64) (v := u2) (xs := rS xss k) 5 (j := 0) 0 rfl hpos
    have hno : ¬ clP xss k → clL xss (k + 1) = clL xss k := clL_no
    rcases Classical.em (∃ x ∈ filt xss.length (rB xss k), (fun x : Int => !rB xss x.toNat k) x = true) with hC | hC
    · first | refine hl_q (by decide) (q_call (v := .bool true) (fun w hm => by have h9 := containsFunc_c 135 [.pointer (some ⟨b, 0, none⟩), .pointer (some ⟨bs, 0, none⟩)] u2 (filt xss.length (rB xss k)) (fun x => !rB xss x.toNat k) w (hm.rd 5 rfl 0) (fun w' hb i hi => closed1_c _ k ((ptC_blk 0 rfl hm (hr.up hm.below)).up hb) (cell_up hb ((ld_blkA (off := 0) 3 rfl rfl rfl).cell hm)) hv hk2 (getD_mem hi)); rw [decide_eq_true hC] at h9; exact h9) rfl) ?_ | refine hq_q (by decide) (q_call (v := .bool true) (fun w hm => by have h9 := containsFunc_c 135 [.pointer (some ⟨b, 0, none⟩), .pointer (some ⟨bs, 0, none⟩)] u2 (filt xss.length (rB xss k)) (fun x => !rB xss x.toNat k) w (hm.rd 5 rfl 0) (fun w' hb i hi => closed1_c _ k ((ptC_blk 0 rfl hm (hr.up hm.below)).up hb) (cell_up hb ((ld_blkA (off := 0) 3 rfl rfl rfl).cell hm)) hv hk2 (getD_mem hi)); rw [decide_eq_true hC] at h9; exact h9) rfl) ?_ | refine hl_g _ _ rfl rfl (by decide) (q_call (v := .bool true) (fun w hm => by have h9 := containsFunc_c 135 [.pointer (some ⟨b, 0, none⟩), .pointer (some ⟨bs, 0, none⟩)] u2 (filt xss.length (rB xss k)) (fun x => !rB xss x.toNat k) w (hm.rd 5 rfl 0) (fun w' hb i hi => closed1_c _ k ((ptC_blk 0 rfl hm (hr.up hm.below)).up hb) (cell_up hb ((ld_blkA (off := 0) 3 rfl rfl rfl).cell hm)) hv hk2 (getD_mem hi)); rw [decide_eq_true hC] at h9; exact h9) rfl) ?_ | refine hq_g _ _ rfl rfl (by decide) (q_call (v := .bool true) (fun w hm => by have h9 := containsFunc_c 135 [.pointer (some ⟨b, 0, none⟩), .pointer (some ⟨bs, 0, none⟩)] u2 (filt xss.length (rB xss k)) (fun x => !rB xss x.toNat k) w (hm.rd 5 rfl 0) (fun w' hb i hi => closed1_c _ k ((ptC_blk 0 rfl hm (hr.up hm.below)).up hb) (cell_up hb ((ld_blkA (off := 0) 3 rfl rfl rfl).cell hm)) hv hk2 (getD_mem hi)); rw [decide_eq_true hC] at h9; exact h9) rfl) ?_
      repeat' (first | refine hl_a ?_ | refine hq_a ?_ | refine hl_nil ?_ | refine hq_nil ?_ | refine hq_ga ?_ | refine hq_sk ?_ | refine hq_su ?_ | refine hq_gT ?_ | refine hq_gF ?_ | refine hq_gd (fun h => ?_) (fun h => ?_) | refine hl_ga ?_ | refine hl_sk ?_ | refine hl_su ?_ | refine hl_gT ?_ | refine hl_gF ?_ | refine hl_gd (fun h => ?_) (fun h => ?_) | refine hx_next ?_ | refine hw_seq ?_ | refine hw_region ?_ | refine hw_dr ?_ | refine hw_block ?_ | refine hx_block ?_ | refine hw_tt ?_ | refine hw_ff ?_ | refine hw_iT ?_ | refine hw_iF ?_ | refine hw_skip ?_ | refine hw_ret ?_ | refine hw_exit ?_ | refine hx_then_ret ?_ | refine hx_block_ret ?_ | refine hx_then_exit ?_ | refine hx_block_here ?_ | refine hx_far ?_ | refine hx_any ?_ | (apply ha_end; decide +kernel))
      refine hx_mem (fun w hm => Mem.keep [_, _, _] hm) ?_
      rw [← hno (fun e => by obtain ⟨x, hx1, hx2⟩ := hC; have := e.2 x hx1; simp [this] at hx2)]
      refine hx_round ⟨k + 1, u, vs, rfl, ?_, hu, hk2, rfl, rfl⟩ (by omega) ⟨rfl, rfl, rfl, rfl, trivial⟩
      rw [hno (fun e => by obtain ⟨x, hx1, hx2⟩ := hC; have := e.2 x hx1; simp [this] at hx2)]; exact hvs
    · have hall : ∀ x ∈ rS xss k, rB xss x.toNat k = true := fun x hx => by
        cases e : rB xss x.toNat k
        · exact absurd ⟨x, hx, by simp [e]⟩ hC
        · rfl
      first | refine hl_q (by decide) (q_call (v := .bool false) (fun w hm => by have h9 := containsFunc_c 135 [.pointer (some ⟨b, 0, none⟩), .pointer (some ⟨bs, 0, none⟩)] u2 (filt xss.length (rB xss k)) (fun x => !rB xss x.toNat k) w (hm.rd 5 rfl 0) (fun w' hb i hi => closed1_c _ k ((ptC_blk 0 rfl hm (hr.up hm.below)).up hb) (cell_up hb ((ld_blkA (off := 0) 3 rfl rfl rfl).cell hm)) hv hk2 (getD_mem hi)); rw [decide_eq_false hC] at h9; exact h9) rfl) ?_ | refine hq_q (by decide) (q_call (v := .bool false) (fun w hm => by have h9 := containsFunc_c 135 [.pointer (some ⟨b, 0, none⟩), .pointer (some ⟨bs, 0, none⟩)] u2 (filt xss.length (rB xss k)) (fun x => !rB xss x.toNat k) w (hm.rd 5 rfl 0) (fun w' hb i hi => closed1_c _ k ((ptC_blk 0 rfl hm (hr.up hm.below)).up hb) (cell_up hb ((ld_blkA (off := 0) 3 rfl rfl rfl).cell hm)) hv hk2 (getD_mem hi)); rw [decide_eq_false hC] at h9; exact h9) rfl) ?_ | refine hl_g _ _ rfl rfl (by decide) (q_call (v := .bool false) (fun w hm => by have h9 := containsFunc_c 135 [.pointer (some ⟨b, 0, none⟩), .pointer (some ⟨bs, 0, none⟩)] u2 (filt xss.length (rB xss k)) (fun x => !rB xss x.toNat k) w (hm.rd 5 rfl 0) (fun w' hb i hi => closed1_c _ k ((ptC_blk 0 rfl hm (hr.up hm.below)).up hb) (cell_up hb ((ld_blkA (off := 0) 3 rfl rfl rfl).cell hm)) hv hk2 (getD_mem hi)); rw [decide_eq_false hC] at h9; exact h9) rfl) ?_ | refine hq_g _ _ rfl rfl (by decide) (q_call (v := .bool false) (fun w hm => by have h9 := containsFunc_c 135 [.pointer (some ⟨b, 0, none⟩), .pointer (some ⟨bs, 0, none⟩)] u2 (filt xss.length (rB xss k)) (fun x => !rB xss x.toNat k) w (hm.rd 5 rfl 0) (fun w' hb i hi => closed1_c _ k ((ptC_blk 0 rfl hm (hr.up hm.below)).up hb) (cell_up hb ((ld_blkA (off := 0) 3 rfl rfl rfl).cell hm)) hv hk2 (getD_mem hi)); rw [decide_eq_false hC] at h9; exact h9) rfl) ?_
      repeat' (first | refine hl_a ?_ | refine hq_a ?_ | refine hl_nil ?_ | refine hq_nil ?_ | refine hq_ga ?_ | refine hq_sk ?_ | refine hq_su ?_ | refine hq_gT ?_ | refine hq_gF ?_ | refine hq_gd (fun h => ?_) (fun h => ?_) | refine hl_ga ?_ | refine hl_sk ?_ | refine hl_su ?_ | refine hl_gT ?_ | refine hl_gF ?_ | refine hl_gd (fun h => ?_) (fun h => ?_) | refine hx_next ?_ | refine hw_seq ?_ | refine hw_region ?_ | refine hw_dr ?_ | refine hw_block ?_ | refine hx_block ?_ | refine hw_tt ?_ | refine hw_ff ?_ | refine hw_iT ?_ | refine hw_iF ?_ | refine hw_skip ?_ | refine hw_ret ?_ | refine hw_exit ?_ | refine hx_then_ret ?_ | refine hx_block_ret ?_ | refine hx_then_exit ?_ | refine hx_block_here ?_ | refine hx_far ?_ | refine hx_any ?_ | (apply ha_end; decide +kernel) | (apply hl_q; decide; (apply q_idxN (i := 0) <;> first | rfl | assumption)) | (apply hq_q; decide; (apply q_idxN (i := 0) <;> first | rfl | assumption)) | (apply hq_g; rfl; rfl; decide; (apply q_idxN (i := 0) <;> first | rfl | assumption)) | (apply hl_g; rfl; rfl; decide; (apply q_idxN (i := 0) <;> first | rfl | assumption)))
      refine hw_if rfl (fun h => ?_) (fun h => ?_)
      · repeat' (first | refine hl_a ?_ | refine hq_a ?_ | refine hl_nil ?_ | refine hq_nil ?_ | refine hq_ga ?_ | refine hq_sk ?_ | refine hq_su ?_ | refine hq_gT ?_ | refine hq_gF ?_ | refine hq_gd (fun h => ?_) (fun h => ?_) | refine hl_ga ?_ | refine hl_sk ?_ | refine hl_su ?_ | refine hl_gT ?_ | refine hl_gF ?_ | refine hl_gd (fun h => ?_) (fun h => ?_) | refine hx_next ?_ | refine hw_seq ?_ | refine hw_region ?_ | refine hw_dr ?_ | refine hw_block ?_ | refine hx_block ?_ | refine hw_tt ?_ | refine hw_ff ?_ | refine hw_iT ?_ | refine hw_iF ?_ | refine hw_skip ?_ | refine hw_ret ?_ | refine hw_exit ?_ | refine hx_then_ret ?_ | refine hx_block_ret ?_ | refine hx_then_exit ?_ | refine hx_block_here ?_ | refine hx_far ?_ | refine hx_any ?_ | (apply ha_end; decide +kernel))
        refine hl_push 1 rfl (by decide) (by decide) rfl hu2.one rfl (fun b => rfl) (by omega) (by decide) (fun u' b9 hu' => ?_)
        repeat' (first | refine hl_a ?_ | refine hq_a ?_ | refine hl_nil ?_ | refine hq_nil ?_ | refine hq_ga ?_ | refine hq_sk ?_ | refine hq_su ?_ | refine hq_gT ?_ | refine hq_gF ?_ | refine hq_gd (fun h => ?_) (fun h => ?_) | refine hl_ga ?_ | refine hl_sk ?_ | refine hl_su ?_ | refine hl_gT ?_ | refine hl_gF ?_ | refine hl_gd (fun h => ?_) (fun h => ?_) | refine hx_next ?_ | refine hw_seq ?_ | refine hw_region ?_ | refine hw_dr ?_ | refine hw_block ?_ | refine hx_block ?_ | refine hw_tt ?_ | refine hw_ff ?_ | refine hw_iT ?_ | refine hw_iF ?_ | refine hw_skip ?_ | refine hw_ret ?_ | refine hw_exit ?_ | refine hx_then_ret ?_ | refine hx_block_ret ?_ | refine hx_then_exit ?_ | refine hx_block_here ?_ | refine hx_far ?_ | refine hx_any ?_ | (apply ha_end; decide +kernel))
        refine hx_mem (rs' := [rBlk b #[.int .i64 (xss.length : Int), .int .i64 tot, v] 31, rOwn 82 1 u' (vs ++ [u2]).length (vs ++ [u2]), rStar (rRow 2 (Value.int .i64) (vs ++ [u2]) (clL xss (k + 1)))]) (fun w hm => ?_) ?_
        · rw [clL_yes ⟨h, hall⟩, rRow_snoc _ _ _ _ hvs, List.length_append]
          exact Mem.pack [_, _] (hm.pick [0, 1, 2, 5] (by decide) rfl)
        · exact hx_round ⟨k + 1, u', vs ++ [u2], rfl, by rw [clL_yes ⟨h, hall⟩]; simp [hvs], by simpa using hu', hk2, rfl, rfl⟩ (by omega) ⟨rfl, rfl, rfl, rfl, trivial⟩
      · repeat' (first | refine hl_a ?_ | refine hq_a ?_ | refine hl_nil ?_ | refine hq_nil ?_ | refine hq_ga ?_ | refine hq_sk ?_ | refine hq_su ?_ | refine hq_gT ?_ | refine hq_gF ?_ | refine hq_gd (fun h => ?_) (fun h => ?_) | refine hl_ga ?_ | refine hl_sk ?_ | refine hl_su ?_ | refine hl_gT ?_ | refine hl_gF ?_ | refine hl_gd (fun h => ?_) (fun h => ?_) | refine hx_next ?_ | refine hw_seq ?_ | refine hw_region ?_ | refine hw_dr ?_ | refine hw_block ?_ | refine hx_block ?_ | refine hw_tt ?_ | refine hw_ff ?_ | refine hw_iT ?_ | refine hw_iF ?_ | refine hw_skip ?_ | refine hw_ret ?_ | refine hw_exit ?_ | refine hx_then_ret ?_ | refine hx_block_ret ?_ | refine hx_then_exit ?_ | refine hx_block_here ?_ | refine hx_far ?_ | refine hx_any ?_ | (apply ha_end; decide +kernel))
        refine hx_mem (fun w hm => Mem.keep [_, _, _] hm) ?_
        rw [← hno (fun e => h e.1)]
        refine hx_round ⟨k + 1, u, vs, rfl, ?_, hu, hk2, rfl, rfl⟩ (by omega) ⟨rfl, rfl, rfl, rfl, trivial⟩
        rw [hno (fun e => h e.1)]; exact hvs
  · have e : k = xss.length := by omega
    subst e
    repeat' (first | refine hl_a ?_ | refine hq_a ?_ | refine hl_nil ?_ | refine hq_nil ?_ | refine hq_ga ?_ | refine hq_sk ?_ | refine hq_su ?_ | refine hq_gT ?_ | refine hq_gF ?_ | refine hq_gd (fun h => ?_) (fun h => ?_) | refine hl_ga ?_ | refine hl_sk ?_ | refine hl_su ?_ | refine hl_gT ?_ | refine hl_gF ?_ | refine hl_gd (fun h => ?_) (fun h => ?_) | refine hx_next ?_ | refine hw_seq ?_ | refine hw_region ?_ | refine hw_dr ?_ | refine hw_block ?_ | refine hx_block ?_ | refine hw_tt ?_ | refine hw_ff ?_ | refine hw_iT ?_ | refine hw_iF ?_ | refine hw_skip ?_ | refine hw_ret ?_ | refine hw_exit ?_ | refine hx_then_ret ?_ | refine hx_block_ret ?_ | refine hx_then_exit ?_ | refine hx_block_here ?_ | refine hx_far ?_ | refine hx_any ?_ | (apply ha_end; decide +kernel))
    exact hx_ret1 rfl rfl (fun w hm => ⟨_, _, rfl, hm.rows 1 2 rfl (by decide) rfl rfl, vs, rfl, hvs, by rw [← hvs]; exact hu⟩)
theorem dec_int {p q : Prop} {dp : Decidable p} {dq : Decidable q} (h : p ↔ q) : Ending.returned (Value.bool (@decide p dp)) = Ending.returned (Value.bool (@decide q dq)) := by
  have := dec_congr (dp := dp) (dq := dq) h
  simp only [Option.some.injEq] at this
  rw [this]
def conB (xss : List (List Int)) : Prop := (clL xss xss.length).length = 1 ∧ ((clL xss xss.length).getD 0 []).length = xss.length
noncomputable instance (xss : List (List Int)) : Decidable (conB xss) := Classical.propDecidable _
theorem implConnected_c (st tot : Int) (v : Value) (xss : List (List Int)) (row : Nat → Value) (w : World) (hr : RdS (Value.int .i64) 0 w v xss row) (hv : Valid st tot xss) :
    Ret Try.prog 104 [chV st tot v] w (.bool (decide (conB xss))) := by
  refine calls_hw Try.func104 Try.ntmps104 rfl rfl ?_
  obtain ⟨rfl, hn1, hn2⟩ := hv.nat
  repeat' (first | refine hl_a ?_ | refine hq_a ?_ | refine hl_nil ?_ | refine hq_nil ?_ | refine hq_ga ?_ | refine hq_sk ?_ | refine hq_su ?_ | refine hq_gT ?_ | refine hq_gF ?_ | refine hq_gd (fun h => ?_) (fun h => ?_) | refine hl_ga ?_ | refine hl_sk ?_ | refine hl_su ?_ | refine hl_gT ?_ | refine hl_gF ?_ | refine hl_gd (fun h => ?_) (fun h => ?_) | refine hx_next ?_ | refine hw_seq ?_ | refine hw_region ?_ | refine hw_dr ?_ | refine hw_block ?_ | refine hx_block ?_ | refine hw_tt ?_ | refine hw_ff ?_ | refine hw_iT ?_ | refine hw_iF ?_ | refine hw_skip ?_ | refine hw_ret ?_ | refine hw_exit ?_ | refine hx_then_ret ?_ | refine hx_block_ret ?_ | refine hx_then_exit ?_ | refine hx_block_here ?_ | refine hx_far ?_ | refine hx_any ?_ | (apply ha_end; decide +kernel))
  refine hl_box (by decide) rfl (fun b => ?_)
  repeat' (first | refine hl_a ?_ | refine hq_a ?_ | refine hl_nil ?_ | refine hq_nil ?_ | refine hq_ga ?_ | refine hq_sk ?_ | refine hq_su ?_ | refine hq_gT ?_ | refine hq_gF ?_ | refine hq_gd (fun h => ?_) (fun h => ?_) | refine hl_ga ?_ | refine hl_sk ?_ | refine hl_su ?_ | refine hl_gT ?_ | refine hl_gF ?_ | refine hl_gd (fun h => ?_) (fun h => ?_) | refine hx_next ?_ | refine hw_seq ?_ | refine hw_region ?_ | refine hw_dr ?_ | refine hw_block ?_ | refine hx_block ?_ | refine hw_tt ?_ | refine hw_ff ?_ | refine hw_iT ?_ | refine hw_iF ?_ | refine hw_skip ?_ | refine hw_ret ?_ | refine hw_exit ?_ | refine hx_then_ret ?_ | refine hx_block_ret ?_ | refine hx_then_exit ?_ | refine hx_block_here ?_ | refine hx_far ?_ | refine hx_any ?_ | (apply ha_end; decide +kernel))
  refine hl_call (by decide) (fun w hm => implClosed_c (xss.length : Int) tot v xss row w (hr.up hm.below) hv) rfl ?_
  rintro u _ ⟨vs, rfl, hvs, hu⟩
  rcases Classical.em ((clL xss xss.length).length = 1) with h1 | h1
  · have hpos : 0 < (clL xss xss.length).length := by omega
    have hld : Ld w [rBlk b #[.int .i64 (xss.length : Int), .int .i64 tot, v] 31, rRows 82 2 (Value.int .i64) u vs (clL xss xss.length)] (vAt u 0) (vs.getD 0 undef) := ld_rows 1 rfl (by omega)
    refine hl_fact (fun w hm => ((hm.rdS 1 rfl hvs 0).row 0 hpos).sl) (fun hs0 => ?_)
    repeat' (first | refine hl_a ?_ | refine hq_a ?_ | refine hl_nil ?_ | refine hq_nil ?_ | refine hq_ga ?_ | refine hq_sk ?_ | refine hq_su ?_ | refine hq_gT ?_ | refine hq_gF ?_ | refine hq_gd (fun h => ?_) (fun h => ?_) | refine hl_ga ?_ | refine hl_sk ?_ | refine hl_su ?_ | refine hl_gT ?_ | refine hl_gF ?_ | refine hl_gd (fun h => ?_) (fun h => ?_) | refine hx_next ?_ | refine hw_seq ?_ | refine hw_region ?_ | refine hw_dr ?_ | refine hw_block ?_ | refine hx_block ?_ | refine hw_tt ?_ | refine hw_ff ?_ | refine hw_iT ?_ | refine hw_iF ?_ | refine hw_skip ?_ | refine hw_ret ?_ | refine hw_exit ?_ | refine hx_then_ret ?_ | refine hx_block_ret ?_ | refine hx_then_exit ?_ | refine hx_block_here ?_ | refine hx_far ?_ | refine hx_any ?_ | (apply ha_end; decide +kernel) | (apply hl_q; decide; (apply q_idxN (i := 0) <;> first | rfl | assumption)) | (apply hq_q; decide; (apply q_idxN (i := 0) <;> first | rfl | assumption)) | (apply hq_g; rfl; rfl; decide; (apply q_idxN (i := 0) <;> first | rfl | assumption)) | (apply hl_g; rfl; rfl; decide; (apply q_idxN (i := 0) <;> first | rfl | assumption)))
    · refine hx_ret1 rfl rfl (fun w hm => ⟨?_, hm.none⟩)
      rw [dec_int (p := conB xss) (q := (((clL xss xss.length).getD 0 []).length : Int) = (xss.length : Int)) ⟨fun e => by have := e.2; omega, fun e => ⟨h1, by omega⟩⟩]
    · exact absurd (show ((clL xss xss.length).length : Int) = 1 by omega) h
  · repeat' (first | refine hl_a ?_ | refine hq_a ?_ | refine hl_nil ?_ | refine hq_nil ?_ | refine hq_ga ?_ | refine hq_sk ?_ | refine hq_su ?_ | refine hq_gT ?_ | refine hq_gF ?_ | refine hq_gd (fun h => ?_) (fun h => ?_) | refine hl_ga ?_ | refine hl_sk ?_ | refine hl_su ?_ | refine hl_gT ?_ | refine hl_gF ?_ | refine hl_gd (fun h => ?_) (fun h => ?_) | refine hx_next ?_ | refine hw_seq ?_ | refine hw_region ?_ | refine hw_dr ?_ | refine hw_block ?_ | refine hx_block ?_ | refine hw_tt ?_ | refine hw_ff ?_ | refine hw_iT ?_ | refine hw_iF ?_ | refine hw_skip ?_ | refine hw_ret ?_ | refine hw_exit ?_ | refine hx_then_ret ?_ | refine hx_block_ret ?_ | refine hx_then_exit ?_ | refine hx_block_here ?_ | refine hx_far ?_ | refine hx_any ?_ | (apply ha_end; decide +kernel))
    · exact absurd (show (clL xss xss.length).length = 1 by omega) h1
    · refine hx_ret1 rfl rfl (fun w hm => ⟨?_, hm.none⟩)
      rw [decide_eq_false (fun e => h1 e.1)]
def clI (xss : List (List Int)) (k i : Nat) : Prop := (rS xss k).getD 0 0 = (k : Int) ∧ ∀ j, j < i → rB xss ((rS xss k).getD j 0).toNat k = true
noncomputable instance (xss : List (List Int)) (k i : Nat) : Decidable (clI xss k i) := Classical.propDecidable _
set_option maxHeartbeats 1000000 in
theorem l02Closed_c (p : Addr) (st tot : Int) (v : Value) (xss : List (List Int)) (row : Nat → Value) (w : World) (hp : PtC w p st tot v xss row) (hv : Valid st tot xss) :
    Gives Try.prog 125 [.pointer (some p)] w (Out2 82 2 (clL xss xss.length)) := by
  refine calls_hw Try.func125 Try.ntmps125 rfl rfl ?_
  obtain ⟨rfl, hn1, hn2⟩ := hv.nat
  obtain ⟨h0, h1, h2, hr⟩ := id hp
  have hsl := hr.sl
  repeat' (first | refine hl_a ?_ | refine hq_a ?_ | refine hl_nil ?_ | refine hq_nil ?_ | refine hq_ga ?_ | refine hq_sk ?_ | refine hq_su ?_ | refine hq_gT ?_ | refine hq_gF ?_ | refine hq_gd (fun h => ?_) (fun h => ?_) | refine hl_ga ?_ | refine hl_sk ?_ | refine hl_su ?_ | refine hl_gT ?_ | refine hl_gF ?_ | refine hl_gd (fun h => ?_) (fun h => ?_) | refine hx_next ?_ | refine hw_seq ?_ | refine hw_region ?_ | refine hw_dr ?_ | refine hw_block ?_ | refine hx_block ?_ | refine hw_tt ?_ | refine hw_ff ?_ | refine hw_iT ?_ | refine hw_iF ?_ | refine hw_skip ?_ | refine hw_ret ?_ | refine hw_exit ?_ | refine hx_then_ret ?_ | refine hx_block_ret ?_ | refine hx_then_exit ?_ | refine hx_block_here ?_ | refine hx_far ?_ | refine hx_any ?_ | (apply ha_end; decide +kernel))
  refine hl_build0 (by decide) (fun b1 => ?_)
  repeat' (first | refine hl_a ?_ | refine hq_a ?_ | refine hl_nil ?_ | refine hq_nil ?_ | refine hq_ga ?_ | refine hq_sk ?_ | refine hq_su ?_ | refine hq_gT ?_ | refine hq_gF ?_ | refine hq_gd (fun h => ?_) (fun h => ?_) | refine hl_ga ?_ | refine hl_sk ?_ | refine hl_su ?_ | refine hl_gT ?_ | refine hl_gF ?_ | refine hl_gd (fun h => ?_) (fun h => ?_) | refine hx_next ?_ | refine hw_seq ?_ | refine hw_region ?_ | refine hw_dr ?_ | refine hw_block ?_ | refine hx_block ?_ | refine hw_tt ?_ | refine hw_ff ?_ | refine hw_iT ?_ | refine hw_iF ?_ | refine hw_skip ?_ | refine hw_ret ?_ | refine hw_exit ?_ | refine hx_then_ret ?_ | refine hx_block_ret ?_ | refine hx_then_exit ?_ | refine hx_block_here ?_ | refine hx_far ?_ | refine hx_any ?_ | (apply ha_end; decide +kernel))
  refine hw_mem (fun w hm => hm.empty) ?_
  refine hw_loop (fun e r m => ∃ (k : Nat) (u : Value) (vs : List Value), r = [rOwn 82 1 u vs.length vs, rStar (rRow 2 (Value.int .i64) vs (clL xss k))] ∧ vs.length = (clL xss k).length ∧ SlOk u vs.length ∧ k ≤ xss.length ∧ m = xss.length - k ∧ e = [(0, .pointer (some p)), (3, u), (4, .int .i64 k)])
    ⟨0, _, [], rfl, rfl, lit_ok _ 0 (by decide), Nat.zero_le _, rfl, rfl⟩ ⟨rfl, rfl, rfl, trivial⟩ ?_
  rintro _ _ _ ⟨k, u, vs, rfl, hvs, hu, hk, rfl, rfl⟩
  have hcl := clL_len xss k
  repeat' (first | refine hl_a ?_ | refine hq_a ?_ | refine hl_nil ?_ | refine hq_nil ?_ | refine hq_ga ?_ | refine hq_sk ?_ | refine hq_su ?_ | refine hq_gT ?_ | refine hq_gF ?_ | refine hq_gd (fun h => ?_) (fun h => ?_) | refine hl_ga ?_ | refine hl_sk ?_ | refine hl_su ?_ | refine hl_gT ?_ | refine hl_gF ?_ | refine hl_gd (fun h => ?_) (fun h => ?_) | refine hx_next ?_ | refine hw_seq ?_ | refine hw_region ?_ | refine hw_dr ?_ | refine hw_block ?_ | refine hx_block ?_ | refine hw_tt ?_ | refine hw_ff ?_ | refine hw_iT ?_ | refine hw_iF ?_ | refine hw_skip ?_ | refine hw_ret ?_ | refine hw_exit ?_ | refine hx_then_ret ?_ | refine hx_block_ret ?_ | refine hx_then_exit ?_ | refine hx_block_here ?_ | refine hx_far ?_ | refine hx_any ?_ | (apply ha_end; decide +kernel))
  refine hw_if rfl (fun hlt => ?_) (fun hge => ?_)
  · have hk2 : k < xss.length := by omega
    have hpos := rS_pos hk2
    have hSn := rS_len xss k
    repeat' (first | refine hl_a ?_ | refine hq_a ?_ | refine hl_nil ?_ | refine hq_nil ?_ | refine hq_ga ?_ | refine hq_sk ?_ | refine hq_su ?_ | refine hq_gT ?_ | refine hq_gF ?_ | refine hq_gd (fun h => ?_) (fun h => ?_) | refine hl_ga ?_ | refine hl_sk ?_ | refine hl_su ?_ | refine hl_gT ?_ | refine hl_gF ?_ | refine hl_gd (fun h => ?_) (fun h => ?_) | refine hx_next ?_ | refine hw_seq ?_ | refine hw_region ?_ | refine hw_dr ?_ | refine hw_block ?_ | refine hx_block ?_ | refine hw_tt ?_ | refine hw_ff ?_ | refine hw_iT ?_ | refine hw_iF ?_ | refine hw_skip ?_ | refine hw_ret ?_ | refine hw_exit ?_ | refine hx_then_ret ?_ | refine hx_block_ret ?_ | refine hx_then_exit ?_ | refine hx_block_here ?_ | refine hx_far ?_ | refine hx_any ?_ | (apply ha_end; decide +kernel))
    refine hl_call (by decide) (fun w hm => l02Reached_c p (xss.length : Int) tot v xss row k w (hp.up hm.below) hv hk2) rfl ?_
    rintro u2 _ ⟨rfl, hu2⟩
    have hu2' : SlOk u2 (rS xss k).length := hu2
    have hld : Ld w [rOwn 82 1 u vs.length vs, rStar (rRow 2 (Value.int .i64) vs (clL xss k)), rE 2 (Value.int .i64) u2 (rS xss k)] (vAt u2 0) (.int .i64 ((rS xss k).getD 0 0)) :=
      ld_E (w0 := w) (e := 2) (enc := Value.int .i64) (v := u2) (xs := rS xss k) 2 (j := 0) 0 rfl hpos
    repeat' (first | refine hl_a ?_ | refine hq_a ?_ | refine hl_nil ?_ | refine hq_nil ?_ | refine hq_ga ?_ | refine hq_sk ?_ | refine hq_su ?_ | refine hq_gT ?_ | refine hq_gF ?_ | refine hq_gd (fun h => ?_) (fun h => ?_) | refine hl_ga ?_ | refine hl_sk ?_ | refine hl_su ?_ | refine hl_gT ?_ | refine hl_gF ?_ | refine hl_gd (fun h => ?_) (fun h => ?_) | refine hx_next ?_ | refine hw_seq ?_ | refine hw_region ?_ | refine hw_dr ?_ | refine hw_block ?_ | refine hx_block ?_ | refine hw_tt ?_ | refine hw_ff ?_ | refine hw_iT ?_ | refine hw_iF ?_ | refine hw_skip ?_ | refine hw_ret ?_ | refine hw_exit ?_ | refine hx_then_ret ?_ | refine hx_block_ret ?_ | refine hx_then_exit ?_ | refine hx_block_here ?_ | refine hx_far ?_ | refine hx_any ?_ | (apply ha_end; decide +kernel) | (apply hl_q; decide; (apply q_idxN (i := 0) <;> first | rfl | assumption)) | (apply hq_q; decide; (apply q_idxN (i := 0) <;> first | rfl | assumption)) | (apply hq_g; rfl; rfl; decide; (apply q_idxN (i := 0) <;> first | rfl | assumption)) | (apply hl_g; rfl; rfl; decide; (apply q_idxN (i := 0) <;> first | rfl | assumption)))
    refine hw_loop (fun e r m => r = [rOwn 82 1 u vs.length vs, rStar (rRow 2 (Value.int .i64) vs (clL xss k)), rE 2 (Value.int .i64) u2 (rS xss k)] ∧ ∃ i : Nat, i ≤ (rS xss k).length ∧ m = (rS xss k).length - i ∧ e = [(0, .pointer (some p)), (3, u), (4, .int .i64 k), (5, u2), (6, .bool (decide (clI xss k i))), (7, .int .i64 i)])
      ⟨rfl, 0, Nat.zero_le _, rfl, rfl⟩ ⟨rfl, rfl, rfl, rfl, dec_congr ⟨fun h => ⟨h, by omega⟩, fun h => h.1⟩, rfl, trivial⟩ ?_
    rintro _ _ _ ⟨rfl, i, hi, rfl, rfl⟩
    by_cases hgo : (i : Int) < ((rS xss k).length : Int) ∧ (clI xss k i)
    · obtain ⟨hlt2, hok⟩ := hgo
      have hi2 : i < (rS xss k).length := by omega
      rw [decide_eq_true hok]
      obtain ⟨t, ht, _, het⟩ : ∃ t : Nat, t < xss.length ∧ rB xss k t = true ∧ (rS xss k).getD i 0 = (t : Int) := mem_filt.1 (getD_mem hi2)
      have hldi : Ld w [rOwn 82 1 u vs.length vs, rStar (rRow 2 (Value.int .i64) vs (clL xss k)), rE 2 (Value.int .i64) u2 (rS xss k)] (vAt u2 i) (.int .i64 (t : Int)) := by
        have := ld_E (w0 := w) (rs := [rOwn 82 1 u vs.length vs, rStar (rRow 2 (Value.int .i64) vs (clL xss k)), rE 2 (Value.int .i64) u2 (rS xss k)]) (e := 2) (enc := Value.int .i64) (v := u2) (xs := rS xss k) 2 (j := i) 0 rfl hi2
        rwa [het] at this
      repeat' (first | refine hl_a ?_ | refine hq_a ?_ | refine hl_nil ?_ | refine hq_nil ?_ | refine hq_ga ?_ | refine hq_sk ?_ | refine hq_su ?_ | refine hq_gT ?_ | refine hq_gF ?_ | refine hq_gd (fun h => ?_) (fun h => ?_) | refine hl_ga ?_ | refine hl_sk ?_ | refine hl_su ?_ | refine hl_gT ?_ | refine hl_gF ?_ | refine hl_gd (fun h => ?_) (fun h => ?_) | refine hx_next ?_ | refine hw_seq ?_ | refine hw_region ?_ | refine hw_dr ?_ | refine hw_block ?_ | refine hx_block ?_ | refine hw_tt ?_ | refine hw_ff ?_ | refine hw_iT ?_ | refine hw_iF ?_ | refine hw_skip ?_ | refine hw_ret ?_ | refine hw_exit ?_ | refine hx_then_ret ?_ | refine hx_block_ret ?_ | refine hx_then_exit ?_ | refine hx_block_here ?_ | refine hx_far ?_ | refine hx_any ?_ | (apply ha_end; decide +kernel))
      refine hl_call (by decide) (fun w hm => l02Reached_c p (xss.length : Int) tot v xss row t w (hp.up hm.below) hv ht) rfl ?_
      rintro u3 _ ⟨rfl, hu3⟩
      repeat' (first | refine hl_a ?_ | refine hq_a ?_ | refine hl_nil ?_ | refine hq_nil ?_ | refine hq_ga ?_ | refine hq_sk ?_ | refine hq_su ?_ | refine hq_gT ?_ | refine hq_gF ?_ | refine hq_gd (fun h => ?_) (fun h => ?_) | refine hl_ga ?_ | refine hl_sk ?_ | refine hl_su ?_ | refine hl_gT ?_ | refine hl_gF ?_ | refine hl_gd (fun h => ?_) (fun h => ?_) | refine hx_next ?_ | refine hw_seq ?_ | refine hw_region ?_ | refine hw_dr ?_ | refine hw_block ?_ | refine hx_block ?_ | refine hw_tt ?_ | refine hw_ff ?_ | refine hw_iT ?_ | refine hw_iF ?_ | refine hw_skip ?_ | refine hw_ret ?_ | refine hw_exit ?_ | refine hx_then_ret ?_ | refine hx_block_ret ?_ | refine hx_then_exit ?_ | refine hx_block_here ?_ | refine hx_far ?_ | refine hx_any ?_ | (apply ha_end; decide +kernel))
      first | refine hl_q (by decide) (q_call (fun w hm => l00Has_c u3 (filt xss.length (rB xss t)) (k : Int) w (hm.rd 3 rfl 0)) rfl) ?_ | refine hq_q (by decide) (q_call (fun w hm => l00Has_c u3 (filt xss.length (rB xss t)) (k : Int) w (hm.rd 3 rfl 0)) rfl) ?_ | refine hl_g _ _ rfl rfl (by decide) (q_call (fun w hm => l00Has_c u3 (filt xss.length (rB xss t)) (k : Int) w (hm.rd 3 rfl 0)) rfl) ?_ | refine hq_g _ _ rfl rfl (by decide) (q_call (fun w hm => l00Has_c u3 (filt xss.length (rB xss t)) (k : Int) w (hm.rd 3 rfl 0)) rfl) ?_
      repeat' (first | refine hl_a ?_ | refine hq_a ?_ | refine hl_nil ?_ | refine hq_nil ?_ | refine hq_ga ?_ | refine hq_sk ?_ | refine hq_su ?_ | refine hq_gT ?_ | refine hq_gF ?_ | refine hq_gd (fun h => ?_) (fun h => ?_) | refine hl_ga ?_ | refine hl_sk ?_ | refine hl_su ?_ | refine hl_gT ?_ | refine hl_gF ?_ | refine hl_gd (fun h => ?_) (fun h => ?_) | refine hx_next ?_ | refine hw_seq ?_ | refine hw_region ?_ | refine hw_dr ?_ | refine hw_block ?_ | refine hx_block ?_ | refine hw_tt ?_ | refine hw_ff ?_ | refine hw_iT ?_ | refine hw_iF ?_ | refine hw_skip ?_ | refine hw_ret ?_ | refine hw_exit ?_ | refine hx_then_ret ?_ | refine hx_block_ret ?_ | refine hx_then_exit ?_ | refine hx_block_here ?_ | refine hx_far ?_ | refine hx_any ?_ | (apply ha_end; decide +kernel))
      refine hx_mem (fun w hm => Mem.keep [_, _, _] hm) ?_
      refine hx_round ⟨rfl, i + 1, by omega, rfl, rfl⟩ (by omega) ⟨rfl, rfl, rfl, rfl, dec_congr ⟨fun h => ⟨hok.1, fun j hj => ?_⟩, fun h => ?_⟩, rfl, trivial⟩
      · by_cases e : j = i
        · subst e; rw [het, Int.toNat_natCast]; exact (nat_mem_filt.1 h).2
        · exact hok.2 j (by omega)
      · have := h.2 i (by omega)
        rw [het, Int.toNat_natCast] at this
        exact nat_mem_filt.2 ⟨hk2, this⟩
    have hiff : (clI xss k i) ↔ clP xss k := by
      constructor
      · intro h
        refine ⟨h.1, fun x hx => ?_⟩
        obtain ⟨j, hj, rfl⟩ := mem_getD hx
        by_cases e : (i : Int) < ((rS xss k).length : Int)
        · exact absurd ⟨e, h⟩ hgo
        · exact h.2 j (by omega)
      · intro h
        exact ⟨h.1, fun j hj => h.2 _ (getD_mem (by omega))⟩
    rcases (Classical.em (clI xss k i)).symm with hP | hP
    · rw [decide_eq_false hP]
      have hno := clL_no (fun e => hP (hiff.2 e))
      repeat' (first | refine hl_a ?_ | refine hq_a ?_ | refine hl_nil ?_ | refine hq_nil ?_ | refine hq_ga ?_ | refine hq_sk ?_ | refine hq_su ?_ | refine hq_gT ?_ | refine hq_gF ?_ | refine hq_gd (fun h => ?_) (fun h => ?_) | refine hl_ga ?_ | refine hl_sk ?_ | refine hl_su ?_ | refine hl_gT ?_ | refine hl_gF ?_ | refine hl_gd (fun h => ?_) (fun h => ?_) | refine hx_next ?_ | refine hw_seq ?_ | refine hw_region ?_ | refine hw_dr ?_ | refine hw_block ?_ | refine hx_block ?_ | refine hw_tt ?_ | refine hw_ff ?_ | refine hw_iT ?_ | refine hw_iF ?_ | refine hw_skip ?_ | refine hw_ret ?_ | refine hw_exit ?_ | refine hx_then_ret ?_ | refine hx_block_ret ?_ | refine hx_then_exit ?_ | refine hx_block_here ?_ | refine hx_far ?_ | refine hx_any ?_ | (apply ha_end; decide +kernel))
      all_goals
        refine hx_mem (fun w hm => Mem.keep [_, _] hm) ?_
        rw [← hno]
        refine hx_round ⟨k + 1, u, vs, rfl, by rw [hno]; exact hvs, hu, hk2, rfl, rfl⟩ (by omega) ⟨rfl, rfl, rfl, trivial⟩
    have hge : ¬ ((i : Int) < ((rS xss k).length : Int)) := fun e => hgo ⟨e, hP⟩
    have hcp := hiff.1 hP
    rw [decide_eq_true hP]
    repeat' (first | refine hl_a ?_ | refine hq_a ?_ | refine hl_nil ?_ | refine hq_nil ?_ | refine hq_ga ?_ | refine hq_sk ?_ | refine hq_su ?_ | refine hq_gT ?_ | refine hq_gF ?_ | refine hq_gd (fun h => ?_) (fun h => ?_) | refine hl_ga ?_ | refine hl_sk ?_ | refine hl_su ?_ | refine hl_gT ?_ | refine hl_gF ?_ | refine hl_gd (fun h => ?_) (fun h => ?_) | refine hx_next ?_ | refine hw_seq ?_ | refine hw_region ?_ | refine hw_dr ?_ | refine hw_block ?_ | refine hx_block ?_ | refine hw_tt ?_ | refine hw_ff ?_ | refine hw_iT ?_ | refine hw_iF ?_ | refine hw_skip ?_ | refine hw_ret ?_ | refine hw_exit ?_ | refine hx_then_ret ?_ | refine hx_block_ret ?_ | refine hx_then_exit ?_ | refine hx_block_here ?_ | refine hx_far ?_ | refine hx_any ?_ | (apply ha_end; decide +kernel))
    refine hl_push 0 rfl (by decide) (by decide) rfl hu2.one rfl (fun b => rfl) (by omega) (by decide) (fun u' b9 hu' => ?_)
    repeat' (first | refine hl_a ?_ | refine hq_a ?_ | refine hl_nil ?_ | refine hq_nil ?_ | refine hq_ga ?_ | refine hq_sk ?_ | refine hq_su ?_ | refine hq_gT ?_ | refine hq_gF ?_ | refine hq_gd (fun h => ?_) (fun h => ?_) | refine hl_ga ?_ | refine hl_sk ?_ | refine hl_su ?_ | refine hl_gT ?_ | refine hl_gF ?_ | refine hl_gd (fun h => ?_) (fun h => ?_) | refine hx_next ?_ | refine hw_seq ?_ | refine hw_region ?_ | refine hw_dr ?_ | refine hw_block ?_ | refine hx_block ?_ | refine hw_tt ?_ | refine hw_ff ?_ | refine hw_iT ?_ | refine hw_iF ?_ | refine hw_skip ?_ | refine hw_ret ?_ | refine hw_exit ?_ | refine hx_then_ret ?_ | refine hx_block_ret ?_ | refine hx_then_exit ?_ | refine hx_block_here ?_ | refine hx_far ?_ | refine hx_any ?_ | (apply ha_end; decide +kernel))
    refine hx_mem (rs' := [rOwn 82 1 u' (vs ++ [u2]).length (vs ++ [u2]), rStar (rRow 2 (Value.int .i64) (vs ++ [u2]) (clL xss (k + 1)))]) (fun w hm => ?_) ?_
    · rw [clL_yes hcp, rRow_snoc _ _ _ _ hvs, List.length_append]
      exact Mem.pack [_] hm
    · exact hx_round ⟨k + 1, u', vs ++ [u2], rfl, by rw [clL_yes hcp]; simp [hvs], by simpa using hu', hk2, rfl, rfl⟩ (by omega) ⟨rfl, rfl, rfl, trivial⟩
  · have e : k = xss.length := by omega
    subst e
    repeat' (first | refine hl_a ?_ | refine hq_a ?_ | refine hl_nil ?_ | refine hq_nil ?_ | refine hq_ga ?_ | refine hq_sk ?_ | refine hq_su ?_ | refine hq_gT ?_ | refine hq_gF ?_ | refine hq_gd (fun h => ?_) (fun h => ?_) | refine hl_ga ?_ | refine hl_sk ?_ | refine hl_su ?_ | refine hl_gT ?_ | refine hl_gF ?_ | refine hl_gd (fun h => ?_) (fun h => ?_) | refine hx_next ?_ | refine hw_seq ?_ | refine hw_region ?_ | refine hw_dr ?_ | refine hw_block ?_ | refine hx_block ?_ | refine hw_tt ?_ | refine hw_ff ?_ | refine hw_iT ?_ | refine hw_iF ?_ | refine hw_skip ?_ | refine hw_ret ?_ | refine hw_exit ?_ | refine hx_then_ret ?_ | refine hx_block_ret ?_ | refine hx_then_exit ?_ | refine hx_block_here ?_ | refine hx_far ?_ | refine hx_any ?_ | (apply ha_end; decide +kernel))
    exact hx_ret1 rfl rfl (fun w hm => ⟨_, _, rfl, hm.rows 0 1 rfl (by decide) rfl rfl, vs, rfl, hvs, by rw [← hvs]; exact hu⟩)
theorem l02Joined_c (p : Addr) (st tot : Int) (v : Value) (xss : List (List Int)) (row : Nat → Value) (w : World) (hp : PtC w p st tot v xss row) (hv : Valid st tot xss) :
    Ret Try.prog 101 [.pointer (some p)] w (.bool (decide (conB xss))) := by
  refine calls_hw Try.func101 Try.ntmps101 rfl rfl ?_
  obtain ⟨rfl, hn1, hn2⟩ := hv.nat
  obtain ⟨h0, h1, h2, hr⟩ := id hp
  repeat' (first | refine hl_a ?_ | refine hq_a ?_ | refine hl_nil ?_ | refine hq_nil ?_ | refine hq_ga ?_ | refine hq_sk ?_ | refine hq_su ?_ | refine hq_gT ?_ | refine hq_gF ?_ | refine hq_gd (fun h => ?_) (fun h => ?_) | refine hl_ga ?_ | refine hl_sk ?_ | refine hl_su ?_ | refine hl_gT ?_ | refine hl_gF ?_ | refine hl_gd (fun h => ?_) (fun h => ?_) | refine hx_next ?_ | refine hw_seq ?_ | refine hw_region ?_ | refine hw_dr ?_ | refine hw_block ?_ | refine hx_block ?_ | refine hw_tt ?_ | refine hw_ff ?_ | refine hw_iT ?_ | refine hw_iF ?_ | refine hw_skip ?_ | refine hw_ret ?_ | refine hw_exit ?_ | refine hx_then_ret ?_ | refine hx_block_ret ?_ | refine hx_then_exit ?_ | refine hx_block_here ?_ | refine hx_far ?_ | refine hx_any ?_ | (apply ha_end; decide +kernel))
  refine hl_call (by decide) (fun w hm => l02Closed_c p (xss.length : Int) tot v xss row w (hp.up hm.below) hv) rfl ?_
  rintro u _ ⟨vs, rfl, hvs, hu⟩
  rcases Classical.em ((clL xss xss.length).length = 1) with h1 | h1
  · have hpos : 0 < (clL xss xss.length).length := by omega
    have hld : Ld w [rRows 82 2 (Value.int .i64) u vs (clL xss xss.length)] (vAt u 0) (vs.getD 0 undef) := ld_rows 0 rfl (by omega)
    refine hl_fact (fun w hm => ((hm.rdS 0 rfl hvs 0).row 0 hpos).sl) (fun hs0 => ?_)
    repeat' (first | refine hl_a ?_ | refine hq_a ?_ | refine hl_nil ?_ | refine hq_nil ?_ | refine hq_ga ?_ | refine hq_sk ?_ | refine hq_su ?_ | refine hq_gT ?_ | refine hq_gF ?_ | refine hq_gd (fun h => ?_) (fun h => ?_) | refine hl_ga ?_ | refine hl_sk ?_ | refine hl_su ?_ | refine hl_gT ?_ | refine hl_gF ?_ | refine hl_gd (fun h => ?_) (fun h => ?_) | refine hx_next ?_ | refine hw_seq ?_ | refine hw_region ?_ | refine hw_dr ?_ | refine hw_block ?_ | refine hx_block ?_ | refine hw_tt ?_ | refine hw_ff ?_ | refine hw_iT ?_ | refine hw_iF ?_ | refine hw_skip ?_ | refine hw_ret ?_ | refine hw_exit ?_ | refine hx_then_ret ?_ | refine hx_block_ret ?_ | refine hx_then_exit ?_ | refine hx_block_here ?_ | refine hx_far ?_ | refine hx_any ?_ | (apply ha_end; decide +kernel) | (apply hl_q; decide; (apply q_idxN (i := 0) <;> first | rfl | assumption)) | (apply hq_q; decide; (apply q_idxN (i := 0) <;> first | rfl | assumption)) | (apply hq_g; rfl; rfl; decide; (apply q_idxN (i := 0) <;> first | rfl | assumption)) | (apply hl_g; rfl; rfl; decide; (apply q_idxN (i := 0) <;> first | rfl | assumption)))
    · refine hx_ret1 rfl rfl (fun w hm => ⟨?_, hm.none⟩)
      rw [dec_int (p := conB xss) (q := (((clL xss xss.length).getD 0 []).length : Int) = (xss.length : Int)) ⟨fun e => by have := e.2; omega, fun e => ⟨h1, by omega⟩⟩]
    · exact absurd (show ((clL xss xss.length).length : Int) = 1 by omega) h
  · repeat' (first | refine hl_a ?_ | refine hq_a ?_ | refine hl_nil ?_ | refine hq_nil ?_ | refine hq_ga ?_ | refine hq_sk ?_ | refine hq_su ?_ | refine hq_gT ?_ | refine hq_gF ?_ | refine hq_gd (fun h => ?_) (fun h => ?_) | refine hl_ga ?_ | refine hl_sk ?_ | refine hl_su ?_ | refine hl_gT ?_ | refine hl_gF ?_ | refine hl_gd (fun h => ?_) (fun h => ?_) | refine hx_next ?_ | refine hw_seq ?_ | refine hw_region ?_ | refine hw_dr ?_ | refine hw_block ?_ | refine hx_block ?_ | refine hw_tt ?_ | refine hw_ff ?_ | refine hw_iT ?_ | refine hw_iF ?_ | refine hw_skip ?_ | refine hw_ret ?_ | refine hw_exit ?_ | refine hx_then_ret ?_ | refine hx_block_ret ?_ | refine hx_then_exit ?_ | refine hx_block_here ?_ | refine hx_far ?_ | refine hx_any ?_ | (apply ha_end; decide +kernel))
    · exact absurd (show (clL xss xss.length).length = 1 by omega) h1
    · refine hx_ret1 rfl rfl (fun w hm => ⟨?_, hm.none⟩)
      rw [decide_eq_false (fun e => h1 e.1)]
noncomputable def isConV (st tot : Int) (xss : List (List Int)) : Prop := Valid st tot xss ∧ conB xss
noncomputable instance (st tot : Int) (xss : List (List Int)) : Decidable (isConV st tot xss) := Classical.propDecidable _
noncomputable def vC (st tot : Int) (xss : List (List Int)) : Int := if Valid st tot xss then 0 else 1
noncomputable def cloXss (st tot : Int) (xss : List (List Int)) : List (List Int) := if Valid st tot xss then clL xss xss.length else []
theorem clL_rows (xss : List (List Int)) : ∀ k, ∀ ys ∈ clL xss k, ys.length ≤ xss.length
  | 0, ys, h => by simp [clL] at h
  | k + 1, ys, h => by
    by_cases hc : clP xss k
    · rw [clL_yes hc] at h
      rcases List.mem_append.1 h with e | e
      · exact clL_rows xss k ys e
      · simp at e; subst e; exact rS_len xss k
    · rw [clL_no hc] at h; exact clL_rows xss k ys h
theorem cloXss_small (st tot : Int) (xss : List (List Int)) : Small (cloXss st tot xss) := by
  unfold cloXss
  split
  · rename_i hv
    have h1 := clL_len xss xss.length
    have h2 := hv.nat
    refine ⟨by omega, fun i hi => ?_⟩
    have := clL_rows xss xss.length _ (by rw [getD_lt _ _ _ hi]; exact List.getElem_mem hi : (clL xss xss.length).getD i [] ∈ _)
    omega
  · exact ⟨by simp, by simp⟩
end Go.Proofs.Ytgeidbjcphjbiaa
