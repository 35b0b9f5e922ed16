/- Regions that draw their order: what only reads is taken first; the operations from n on, which wait for all that is read, may turn what was read. -/
import Derived.Test.YtgeidbjcphjbiaaLibR
namespace Go.Eng
open Go.RowKit
set_option linter.unusedVariables false

section
variable {P : Program} {ops : Array Oper} {Q : Exit → Act → World → Prop} {md : Region.Mode} {S : World → Prop}

def wpAnyG (P : Program) (md : Region.Mode) (ops : Array Oper) (Q : Exit → Act → World → Prop) (S : World → Prop) (n : Nat) : Nat → Array Bool → Act → World → Prop
  | 0, listed, a, w => Region.ready md ops listed = [] ∧ Q .normal a w
  | fuel + 1, listed, a, w =>
    (Region.ready md ops listed = [] → Q .normal a w) ∧
    ∀ i ∈ Region.ready md ops listed, wpOp P ops Q i (fun a' w' => (i < n → S w') ∧ wpAnyG P md ops Q S n fuel (listed.setIfInBounds i true) a' w') a w
theorem wpAny_of_G {n : Nat} : ∀ (fuel : Nat) (listed : Array Bool) (a : Act) (w : World), wpAnyG P md ops Q S n fuel listed a w → wpAny P md ops Q fuel listed a w
  | 0, _, _, _, h => h
  | fuel + 1, _, _, _, h => ⟨h.1, fun i hi => wpOp_mono (fun a' w' h' => wpAny_of_G fuel _ a' w' h'.2) (h.2 i hi)⟩

/-- t waits for i, at once or by way of others. -/
def mustWait (md : Region.Mode) (ops : Array Oper) : Nat → Nat → Nat → Bool
  | 0, _, _ => false
  | f + 1, t, i => Region.waitsFor md ops t i || (List.range ops.size).any fun j => Region.waitsFor md ops t j && mustWait md ops f j i
def Closed (md : Region.Mode) (ops : Array Oper) (listed : Array Bool) : Prop := ∀ j oj, ops[j]? = some oj → listed.getD j false = true → ∀ e ∈ oj.after, Region.binds md e = true → listed.getD e.on false = true
theorem unlisted_of_wait {listed : Array Bool} {i : Nat} (hc : Closed md ops listed) (hi : listed.getD i false = false) : ∀ (f t : Nat), mustWait md ops f t i = true → listed.getD t false = false
  | 0, _, h => by simp [mustWait] at h
  | f + 1, t, h => by
    cases hl : listed.getD t false with
    | false => rfl
    | true =>
      simp only [mustWait, Bool.or_eq_true] at h
      rcases h with h | h
      · obtain ⟨ot, hot, e, he, hb, hon⟩ := Region.waitsFor_spec h
        have := hc t ot hot hl e he hb
        rw [hon, hi] at this; cases this
      · obtain ⟨j, _, hj⟩ := List.any_eq_true.1 h
        simp only [Bool.and_eq_true] at hj
        obtain ⟨ot, hot, e, he, hb, hon⟩ := Region.waitsFor_spec hj.1
        have h1 := hc t ot hot hl e he hb
        rw [hon, unlisted_of_wait hc hi f j hj.2] at h1; cases h1
theorem notReady_of_wait {listed : Array Bool} {i t f : Nat} (hc : Closed md ops listed) (hi : listed.getD i true = false) (h : mustWait md ops f t i = true) : t ∉ Region.ready md ops listed := by
  intro hr
  have hi' := getD_both hi
  obtain ⟨_, ot, hot, hall⟩ := mem_ready.1 hr
  cases f with
  | zero => simp [mustWait] at h
  | succ f =>
    simp only [mustWait, Bool.or_eq_true] at h
    rcases h with h | h
    · obtain ⟨o', ho', e, he, hb, hon⟩ := Region.waitsFor_spec h
      have : o' = ot := Option.some.inj (ho'.symm.trans hot)
      subst this
      have h2 := hall e he hb
      rw [hon, hi'] at h2; cases h2
    · obtain ⟨j, _, hj⟩ := List.any_eq_true.1 h
      simp only [Bool.and_eq_true] at hj
      obtain ⟨o', ho', e, he, hb, hon⟩ := Region.waitsFor_spec hj.1
      have : o' = ot := Option.some.inj (ho'.symm.trans hot)
      subst this
      have h2 := hall e he hb
      rw [hon, unlisted_of_wait hc hi' f j hj.2] at h2; cases h2
theorem Closed.set {listed : Array Bool} {i : Nat} (hc : Closed md ops listed) (hi : i ∈ Region.ready md ops listed) : Closed md ops (listed.setIfInBounds i true) := by
  obtain ⟨_, oi, hoi, hall⟩ := mem_ready.1 hi
  intro j oj hj hl e he hb
  by_cases hij : i = j
  · subst hij
    have : oj = oi := Option.some.inj (hj.symm.trans hoi)
    subst this
    exact getD_set_true (hall e he hb)
  · rw [getD_set_ne false hij] at hl
    exact getD_set_true (hc j oj hj hl e he hb)

theorem wpAnyG_first {n i : Nat} {oi : Oper} {v : Value} (hi : ops[i]? = some oi) (hsel : ∀ (j : Nat) (o : Oper) cs b, ops[j]? = some o → o.op ≠ .select cs b)
    (hQ : ∀ c a w, Q (.panic c) (a.put oi.dst v) w → Q (.panic c) a w) (hw : ∀ t, n ≤ t → t < ops.size → ∃ f, mustWait md ops f t i = true) :
    ∀ (fuel : Nat) (listed : Array Bool) (a : Act) (w : World), Closed md ops listed →
      (∀ j oj, ops[j]? = some oj → j ≠ i → listed.getD j true = false → (∀ e ∈ oj.after, Region.binds md e = true → e.on ≠ i) → oi.apart ops oj = true) →
      i ∈ Region.ready md ops listed → YieldsIf P ops S oi v a → S w →
      wpAnyG P md ops Q S n fuel (listed.setIfInBounds i true) (a.put oi.dst v) w → wpAnyG P md ops Q S n (fuel + 1) listed a w := by
  intro fuel
  induction fuel with
  | zero =>
    intro listed a w _ _ hr hy hS H
    refine ⟨fun h => (by rw [h] at hr; cases hr), fun j hj => ?_⟩
    by_cases hji : j = i
    · subst hji; exact hy.wpOp hi hS ⟨fun _ => hS, H⟩
    · have := ready_mono hj hji
      rw [H.1] at this
      cases this
  | succ fuel ih =>
    intro listed a w hc hfree hr hy hS H
    refine ⟨fun h => (by rw [h] at hr; cases hr), fun j hj => ?_⟩
    by_cases hji : j = i
    · subst hji; exact hy.wpOp hi hS ⟨fun _ => hS, H⟩
    · have h1 := H.2 j (ready_mono hj hji)
      obtain ⟨hjun, oj, hoj, hall⟩ := mem_ready.1 hj
      have hjs : j < ops.size := (Array.getElem?_eq_some_iff.1 hoj).1
      have hun := (mem_ready.1 hr).1
      have hjn : j < n := by
        rcases Nat.lt_or_ge j n with h | h
        · exact h
        · obtain ⟨f, hf⟩ := hw j h hjs
          exact absurd hj (notReady_of_wait hc hun hf)
      have hnot : ∀ e ∈ oj.after, Region.binds md e = true → e.on ≠ i := fun e he hb heq => by
        have h1 := hall e he hb
        rw [heq, getD_both hun] at h1
        cases h1
      have h2 := wpOp_putIf hoj (hfree j oj hoj hji hjun hnot) (fun cs b => hsel i oi cs b hi) (fun cs b => hsel j oj cs b hoj) hQ hy h1
      have hfree' : ∀ k ok, ops[k]? = some ok → k ≠ i → (listed.setIfInBounds j true).getD k true = false →
          (∀ e ∈ ok.after, Region.binds md e = true → e.on ≠ i) → oi.apart ops ok = true := fun k ok hk hki hun hno => by
        refine hfree k ok hk hki ?_ hno
        by_cases hjk : j = k
        · subst hjk; exact hjun
        · rw [getD_set_ne true hjk] at hun; exact hun
      refine wpOp_mono (fun a' w' h3 => ⟨h3.2.1, ih (listed.setIfInBounds j true) a' w' (hc.set hj) hfree' (ready_mono hr (Ne.symm hji)) h3.1 (h3.2.1 hjn) ?_⟩) h2
      rw [Array.setIfInBounds_comm _ _ hji]
      exact h3.2.2
def closedB (md : Region.Mode) (ops : Array Oper) (listed : Array Bool) : Bool :=
  (List.range ops.size).all fun j => !(listed.getD j false) || (match ops[j]? with | some oj => oj.after.toList.all fun e => !(Region.binds md e) || listed.getD e.on false | none => true)
theorem closed_of_B {listed : Array Bool} (h : closedB md ops listed = true) : Closed md ops listed := by
  intro j oj hj hl e he hb
  have hjs : j < ops.size := (Array.getElem?_eq_some_iff.1 hj).1
  have h1 := List.all_eq_true.1 h j (List.mem_range.2 hjs)
  simp only [hl, hj, Bool.not_true, Bool.false_or] at h1
  have h2 := List.all_eq_true.1 h1 e (by simpa using he)
  simpa [hb] using h2
def tailWaits (md : Region.Mode) (ops : Array Oper) (n i : Nat) : Bool := (List.range ops.size).all fun t => decide (t < n) || mustWait md ops 24 t i
theorem tailWaits_spec {n i : Nat} (h : tailWaits md ops n i = true) : ∀ t, n ≤ t → t < ops.size → ∃ f, mustWait md ops f t i = true := by
  intro t ht hts
  have h1 := List.all_eq_true.1 h t (List.mem_range.2 hts)
  simp only [Bool.or_eq_true, decide_eq_true_eq] at h1
  rcases h1 with h1 | h1
  · omega
  · exact ⟨24, h1⟩
end

section
variable {P : Program} {N : Nat} {env : Env} {w0 : World} {rs : List Res} {Q : Exit → Act → World → Prop} {ops : Array Oper}
def HG (P : Program) (N : Nat) (env : Env) (w0 : World) (S : List Res) (n : Nat) (rs : List Res) (ops : Array Oper) (Q : Exit → Act → World → Prop) (fuel : Nat) (listed : Array Bool) : Prop :=
  ∀ a w, Sat N env a → Mem w0 rs w → wpAnyG P .any ops Q (Mem w0 S) n fuel listed a w
theorem hw_g (S : List Res) (n : Nat) {id : Nat} {l : List Oper} (hm : P.follows .mixedOrders = true) (h : HG P N env w0 S n rs l.toArray Q l.length (Array.replicate l.length false)) : HW P N env w0 rs (.region id l.toArray true) Q := by
  unfold HW
  unfold HG at h
  intro a w hs hmem
  refine wp_region_any hm (wpAny_of_G (S := Mem w0 S) (n := n) _ _ _ _ ?_)
  have h1 := h a _ hs (hmem.draw (w.drawn + 1)); rw [← List.size_toArray] at h1; exact h1
theorem hg_take (i : Nat) {n d : Nat} {op : Op} {ty : TypeId} {pos : String} {after : Array Edge} {S : List Res} {v : Value} {fuel : Nat} {listed : Array Bool} (ho : ops[i]? = some ⟨some d, op, ty, pos, after, none⟩) (hd : d < N)
    (hs : Region.noSelect ops = true) (hf : Region.free .any ops listed i = true) (hr : (Region.ready .any ops listed).contains i = true) (hw : tailWaits .any ops n i = true) (hc : closedB .any ops listed = true)
    (hQ : ∀ c a w, Q (.panic c) (a.put (some d) v) w → Q (.panic c) a w) (hS : ∀ w, Mem w0 rs w → Mem w0 S w) (hq : QV P N env w0 S ⟨some d, op, ty, pos, after, none⟩ v)
    (h : HG P N ((d, v) :: env) w0 S n rs ops Q fuel (listed.setIfInBounds i true)) : HG P N env w0 S n rs ops Q (fuel + 1) listed := by
  unfold HG at h ⊢
  intro a w hsat hmem
  exact wpAnyG_first ho (Region.noSelect_spec hs) hQ (tailWaits_spec hw) fuel listed a w (closed_of_B hc) (Region.free_spec ho hf) (by simpa using hr) (.inl ⟨rfl, fun w' hw' => hq a hsat w' hw'⟩) (hS w hmem) (h _ w (hsat.put v hd) hmem)
theorem hg_t (i : Nat) {n d : Nat} {op : Op} {ty : TypeId} {pos : String} {after : Array Edge} {S : List Res} {v : Value} {fuel : Nat} {listed : Array Bool} (h : HG P N ((d, v) :: env) w0 S n rs ops Q fuel (listed.setIfInBounds i true))
    (ho : ops[i]? = some ⟨some d, op, ty, pos, after, none⟩ := by rfl) (hd : d < N := by decide) (hs : Region.noSelect ops = true := by decide +kernel) (hf : Region.free .any ops listed i = true := by decide +kernel) (hr : (Region.ready .any ops listed).contains i = true := by decide +kernel)
    (hw : tailWaits .any ops n i = true := by decide +kernel) (hc : closedB .any ops listed = true := by decide +kernel) (hQ : ∀ c a w, Q (.panic c) (a.put (some d) v) w → Q (.panic c) a w := by exact fun _ _ _ h => h)
    (hS : ∀ w, Mem w0 rs w → Mem w0 S w := by first | exact fun w hm => hm.none | exact fun w hm => Mem.keep _ hm) (hp : plainOp op = true := by rfl) (hq : QO P N env w0 S ⟨some d, op, ty, pos, after, none⟩ v := by first | (apply q_move; rfl) | (apply q_assign; rfl) | (apply q_load; rfl; first | assumption | (apply ld_base; assumption) | exact ld_blkA 0 rfl rfl rfl | exact ld_blkA 1 rfl rfl rfl | exact ld_blkA 2 rfl rfl rfl | exact ld_blkA 3 rfl rfl rfl) | exact q_loadB 0 rfl rfl rfl | exact q_loadB 1 rfl rfl rfl | exact q_loadB 2 rfl rfl rfl | exact q_loadB 3 rfl rfl rfl | (apply q_field; rfl) | (apply q_ext; rfl; rfl) | (apply q_nilP; rfl) | (apply q_len; rfl; assumption) | (apply q_idxN; rfl; rfl; assumption; assumption) | (apply q_idxM; rfl; rfl; assumption; assumption) | (apply q_loadA2; rfl; (first | assumption | (apply ld_base; assumption)); (first | assumption | (apply ld_base; assumption))) | (apply q_lss; rfl; rfl) | (apply q_leq; rfl; rfl) | (apply q_gtr; rfl; rfl) | (apply q_geq; rfl; rfl) | (apply q_eql; rfl; rfl) | (apply q_neq; rfl; rfl) | (apply q_eqlB; rfl; rfl) | (apply q_neqB; rfl; rfl) | exact q_notD rfl | (apply q_not; rfl) | (apply q_pickT; rfl; rfl) | (apply q_pickF; rfl; rfl) | (apply q_add; rfl; rfl; omega) | (apply q_sub; rfl; rfl; omega) | (apply q_mul; rfl; rfl; omega)) : HG P N env w0 S n rs ops Q (fuel + 1) listed :=
  hg_take i ho hd hs hf hr hw hc hQ hS (qv_q hp hq) h
theorem qv_len {dst : Option Nat} {x : Operand} {ty : TypeId} {pos : String} {after : Array Edge} {gd : Option (Nat × Bool)} {S : List Res} {t e k bb : Nat} {z v : Value} [hT : Slc P t e k bb z] {n : Nat} (hx : env.ev x = some v) (hs' : SlOk v n) :
    QV P N env w0 S ⟨dst, .call { callee := .builtin .len, args := #[x], argTypes := #[t] }, ty, pos, after, gd⟩ (.int .i64 (n : Int)) := fun a hs w _ => by
  unfold SlOk at hs'
  obtain ⟨b, c, rfl, _, _, _⟩ := hs'
  simp [execOp, resolve, invoke, builtin, hs.ev hx, Builtin.len_, run_underlying hT.und, goInt]
theorem hg_tn (i : Nat) {n d : Nat} {op : Op} {v : Value} {ty : TypeId} {pos : String} {after : Array Edge} {S : List Res} {fuel : Nat} {listed : Array Bool} (h : HG P N ((d, v) :: env) w0 S n rs ops Q fuel (listed.setIfInBounds i true))
    (ho : ops[i]? = some ⟨some d, op, ty, pos, after, none⟩ := by rfl) (hd : d < N := by decide) (hs : Region.noSelect ops = true := by decide +kernel) (hf : Region.free .any ops listed i = true := by decide +kernel) (hr : (Region.ready .any ops listed).contains i = true := by decide +kernel)
    (hw : tailWaits .any ops n i = true := by decide +kernel) (hc : closedB .any ops listed = true := by decide +kernel) (hQ : ∀ c a w, Q (.panic c) (a.put (some d) v) w → Q (.panic c) a w := by exact fun _ _ _ h => h)
    (hS : ∀ w, Mem w0 rs w → Mem w0 S w := by first | exact fun w hm => hm.none | exact fun w hm => Mem.keep _ hm) (hq : QV P N env w0 S ⟨some d, op, ty, pos, after, none⟩ v := by first | exact qv_nilP rfl | (apply qv_len; rfl; assumption)) : HG P N env w0 S n rs ops Q (fuel + 1) listed :=
  hg_take i ho hd hs hf hr hw hc hQ hS hq h
theorem hg_1 (i : Nat) {n : Nat} {o : Oper} {S : List Res} {fuel : Nat} {listed : Array Bool} (hr : Region.ready .any ops listed = [i]) (ho : ops[i]? = some o)
    (h : HL P N env w0 rs ops (Exit.then (fun a w => (i < n → Mem w0 S w) ∧ wpAnyG P .any ops Q (Mem w0 S) n fuel (listed.setIfInBounds i true) a w) Q) [o]) : HG P N env w0 S n rs ops Q (fuel + 1) listed := by
  unfold HG
  unfold HL at h
  intro a w hsat hmem
  refine ⟨fun h0 => (by rw [hr] at h0; cases h0), fun j hj => ?_⟩
  rw [hr] at hj
  simp at hj
  subst hj
  exact wpOp_one ho (h a w hsat hmem)
theorem hg_2 (i j : Nat) {n : Nat} {o o' : Oper} {S : List Res} {fuel : Nat} {listed : Array Bool} (hr : Region.ready .any ops listed = [i, j]) (ho : ops[i]? = some o) (ho' : ops[j]? = some o')
    (h : HL P N env w0 rs ops (Exit.then (fun a w => (i < n → Mem w0 S w) ∧ wpAnyG P .any ops Q (Mem w0 S) n fuel (listed.setIfInBounds i true) a w) Q) [o])
    (h' : HL P N env w0 rs ops (Exit.then (fun a w => (j < n → Mem w0 S w) ∧ wpAnyG P .any ops Q (Mem w0 S) n fuel (listed.setIfInBounds j true) a w) Q) [o']) : HG P N env w0 S n rs ops Q (fuel + 1) listed := by
  unfold HG
  unfold HL at h h'
  intro a w hsat hmem
  refine ⟨fun h0 => (by rw [hr] at h0; cases h0), fun k hk => ?_⟩
  rw [hr] at hk
  simp at hk
  rcases hk with rfl | rfl
  · exact wpOp_one ho (h a w hsat hmem)
  · exact wpOp_one ho' (h' a w hsat hmem)
theorem hg_end {n : Nat} {S : List Res} {fuel : Nat} {listed : Array Bool} (hr : Region.ready .any ops listed = []) (h : HX N env w0 rs (Q .normal)) : HG P N env w0 S n rs ops Q fuel listed := by
  unfold HG
  unfold HX at h
  intro a w hsat hmem
  cases fuel with
  | zero => exact ⟨hr, h a w hsat hmem⟩
  | succ f => exact ⟨fun _ => h a w hsat hmem, fun i hi => by rw [hr] at hi; cases hi⟩
theorem hx_hg {n i : Nat} {S : List Res} {fuel : Nat} {listed : Array Bool} (hS : ∀ w, Mem w0 rs w → Mem w0 S w) (h : HG P N env w0 S n rs ops Q fuel listed) :
    HX N env w0 rs (Exit.then (fun a w => (i < n → Mem w0 S w) ∧ wpAnyG P .any ops Q (Mem w0 S) n fuel listed a w) Q .normal) := by
  unfold HX
  unfold HG at h
  exact fun a w hs hmem => ⟨fun _ => hS w hmem, h a w hs hmem⟩
theorem hx_hgT {n i : Nat} {S : List Res} {fuel : Nat} {listed : Array Bool} (hn : Nat.ble n i = true) (h : HG P N env w0 S n rs ops Q fuel listed) :
    HX N env w0 rs (Exit.then (fun a w => (i < n → Mem w0 S w) ∧ wpAnyG P .any ops Q (Mem w0 S) n fuel listed a w) Q .normal) := by
  unfold HX
  unfold HG at h
  exact fun a w hs hmem => ⟨fun hi => absurd hi (by have := Nat.le_of_ble_eq_true hn; omega), h a w hs hmem⟩
end

section
variable {P : Program} {N : Nat} {env : Env} {w0 : World} {rs : List Res} {Q : Exit → Act → World → Prop} {ops : Array Oper} {l : List Oper} {d : Nat} {ty : TypeId} {pos : String} {after : Array Edge} {x y : Operand} {u v : Value}
/-- 'append' of a literal of one value to a slice of the call's own, the append alone. -/
theorem hl_app1 {t e bb n b : Nat} {z : Value} [hT : Slc P t e 1 bb z] {xs : List Value} (i j : Nat) (hi : rs[i]? = some (rOwn e 1 v n xs)) (hj : rs[j]? = some (rOwn e 1 (.slice (some ⟨b, 0, none⟩) 1 1) 1 [u])) (hd : d < N)
    (hx : env.ev x = some v) (hy : env.ev y = some (.slice (some ⟨b, 0, none⟩) 1 1)) (hu : u.oneCell' = true) (hn : n < 1099511627776) (hbb : bb ≤ 64)
    (k : ∀ v', SlOk v' (n + 1) → HL P N ((d, v') :: env) w0 (rs.set i (rOwn e 1 v' (n + 1) (xs ++ [u]))) ops Q l) :
    HL P N env w0 rs ops Q (⟨some d, .call { callee := .builtin .append, args := #[x, y], argTypes := #[t, t] }, ty, pos, after, none⟩ :: l) := by
  refine hl_append (m := 1) (c := 1) (news := [u]) (ad := ⟨b, 0, none⟩) i hi hd hx hy rfl ?_ (by simpa using hu) (by decide) (by unfold maxLen; omega) ?_ (fun v' hv' => k v' hv')
  · intro j' w hw
    cases j' with
    | zero =>
      simp at hw; subst hw
      have h0 : (⟨b, 0, none⟩ : Addr).add 0 = vAt (.slice (some ⟨b, 0, none⟩) 1 1) 0 := by rw [vAt_own]; rfl
      rw [h0]
      exact ld_own (e := e) (k := 1) (n := 1) (xs := [u]) j hj rfl
    | succ j => simp at hw
  · have := Nat.mul_le_mul (show n + 1 ≤ 1099511627776 by omega) hbb
    omega
theorem hl_appE {α : Type} {t e bb b : Nat} {z : Value} [hT : Slc P t e 1 bb z] {enc : α → Value} {xs : List α} (i j : Nat) (a : α) (hi : rs[i]? = some (rE e enc v xs)) (hj : rs[j]? = some (rOwn e 1 (.slice (some ⟨b, 0, none⟩) 1 1) 1 [enc a])) (hd : d < N)
    (hx : env.ev x = some v) (hy : env.ev y = some (.slice (some ⟨b, 0, none⟩) 1 1)) (hu : (enc a).oneCell' = true) (hn : xs.length < 1099511627776) (hbb : bb ≤ 64)
    (k : ∀ v', SlOk v' (xs.length + 1) → HL P N ((d, v') :: env) w0 (rs.set i (rE e enc v' (xs ++ [a]))) ops Q l) :
    HL P N env w0 rs ops Q (⟨some d, .call { callee := .builtin .append, args := #[x, y], argTypes := #[t, t] }, ty, pos, after, none⟩ :: l) := by
  refine hl_app1 i j hi hj hd hx hy hu hn hbb (fun v' hv' => ?_)
  have := k v' hv'
  unfold rE at this
  simpa using this
/-- A store into a slice of the call's own. -/
theorem hl_storeE {α : Type} {t : TypeId} [hT : One P t] {e : TypeId} {enc : α → Value} {xs : List α} (j : Nat) (i : Nat) (a : α) (hj : rs[j]? = some (rE e enc v xs)) (hx : env.ev x = some (.pointer (some (vAt v i)))) (hi : i < xs.length) (hy : env.ev y = some (enc a)) (hu : (enc a).oneCell' = true)
    (k : HL P N env w0 (rs.set j (rE e enc v (xs.set i a))) ops Q l) : HL P N env w0 rs ops Q (⟨none, .store t x y, ty, pos, after, none⟩ :: l) := by
  refine hl_storeO j hj hx hi hy hu ?_
  unfold rE at k
  simpa using k
theorem ld_E {α : Type} {e : TypeId} {enc : α → Value} {xs : List α} (i : Nat) {j : Nat} (d : α) (hi : rs[i]? = some (rE e enc v xs)) (hj : j < xs.length) : Ld w0 rs (vAt v j) (enc (xs.getD j d)) :=
  ld_res i hi fun w h => (rE.rd d h).get j hj
end
end Go.Eng
