/- Regions that draw their order: a head that only reads, and a tail with effects behind it; loads taken first among effects. -/
import Derived.Test.YtgeidbjcphjbiaaLibJ
import Derived.StillTail
import Derived.OrdersHeld
namespace Go.Eng
open Go.RowKit
set_option linter.unusedVariables false

/-! ### A quiet head and a tail -/
section
variable {P : Program} {ops : Array Oper} {md : Region.Mode} {C : World → Prop}

def wpAnyLQ (P : Program) (md : Region.Mode) (ops : Array Oper) (C : World → Prop) (n : Nat) (L : Array Bool → Act → Prop) : Nat → Array Bool → Act → Prop
  | 0, listed, a => L listed a
  | f + 1, listed, a => Region.ready md ops listed ≠ [] ∧ ∀ i ∈ Region.ready md ops listed, i < n ∧ qOp P ops C i (wpAnyLQ P md ops C n L f (listed.setIfInBounds i true)) a

theorem wpAny_of_headQ {n g : Nat} {L : Array Bool → Act → Prop} {Q' : Exit → Act → World → Prop} (hL : ∀ listed a w, C w → L listed a → wpAny P md ops Q' g listed a w) :
    ∀ (f : Nat) (listed : Array Bool) (a : Act) (w : World), C w → wpAnyLQ P md ops C n L f listed a → wpAny P md ops Q' (f + g) listed a w
  | 0, listed, a, w, hw, h => by rw [Nat.zero_add]; exact hL _ _ _ hw h
  | f + 1, listed, a, w, hw, h => by
    rw [show f + 1 + g = (f + g) + 1 by omega]
    exact ⟨fun h0 => absurd h0 h.1, fun i hi => wpOp_of_qOp hw (fun a' w' hw' h' => wpAny_of_headQ hL f _ a' w' hw' h') (h.2 i hi).2⟩

theorem wpAnyLQ_first {n i : Nat} {oi : Oper} {v : Value} {L : Array Bool → Act → Prop} (hi : ops[i]? = some oi) (hsel : ∀ (j : Nat) (o : Oper) cs b, ops[j]? = some o → o.op ≠ .select cs b)
    (hs : Region.sinkB md ops n = true) (hc : Region.chainB md ops n = true) (hn : n < ops.size) (hin : i < n) (hdone : ∀ listed a, L listed a → ∀ j ∈ Region.ready md ops listed, n ≤ j) :
    ∀ (f : Nat) (listed : Array Bool) (a : Act), HeadInv md ops n listed →
      (∀ j oj, ops[j]? = some oj → j ≠ i → listed.getD j true = false → (∀ e ∈ oj.after, Region.binds md e = true → e.on ≠ i) → oi.apart ops oj = true) →
      i ∈ Region.ready md ops listed → YieldsIn P ops C oi v a →
      wpAnyLQ P md ops C n L f (listed.setIfInBounds i true) (a.put oi.dst v) → wpAnyLQ P md ops C n L (f + 1) listed a := by
  intro f
  induction f with
  | zero =>
    intro listed a inv _ hr hy H
    have hun := (mem_ready.1 hr).1
    refine ⟨fun h => (by rw [h] at hr; cases hr), fun j hj => ?_⟩
    have hjn : j < n := by
      rcases Nat.lt_or_ge j n with h | h
      · exact h
      · exact absurd hj (tail_waits hs hc hn inv _ i rfl hin hun j h)
    refine ⟨hjn, ?_⟩
    by_cases hji : j = i
    · subst hji; exact hy.qOp hi H
    · have := hdone _ _ H j (ready_mono hj hji)
      omega
  | succ f ih =>
    intro listed a inv hfree hr hy H
    have hun := (mem_ready.1 hr).1
    refine ⟨fun h => (by rw [h] at hr; cases hr), fun j hj => ?_⟩
    have hjn : j < n := by
      rcases Nat.lt_or_ge j n with h | h
      · exact h
      · exact absurd hj (tail_waits hs hc hn inv _ i rfl hin hun j h)
    refine ⟨hjn, ?_⟩
    by_cases hji : j = i
    · subst hji; exact hy.qOp hi H
    · have h1 := (H.2 j (ready_mono hj hji)).2
      obtain ⟨hjun, oj, hoj, hall⟩ := mem_ready.1 hj
      have hnot : ∀ e ∈ oj.after, Region.binds md e = true → e.on ≠ i := fun e he hb heq => by
        have h1 := hall e he hb
        rw [heq, getD_both hun] at h1
        cases h1
      have h2 := qOp_put hoj (hfree j oj hoj hji hjun hnot) (fun cs b => hsel i oi cs b hi) (fun cs b => hsel j oj cs b hoj) hy h1
      have hfree' : ∀ k ok, ops[k]? = some ok → k ≠ i → (listed.setIfInBounds j true).getD k true = false →
          (∀ e ∈ ok.after, Region.binds md e = true → e.on ≠ i) → oi.apart ops ok = true := fun k ok hk hki hun hno => by
        refine hfree k ok hk hki ?_ hno
        by_cases hjk : j = k
        · subst hjk; exact hjun
        · rw [getD_set_ne true hjk] at hun; exact hun
      refine qOp_mono (fun a' h3 => ih (listed.setIfInBounds j true) a' (inv.set hj hjn) hfree' (ready_mono hr (Ne.symm hji)) h3.1 ?_) h2
      rw [Array.setIfInBounds_comm _ _ hji]
      exact h3.2

theorem wpAnyLQ_lex {n g : Nat} {Lq : Act → Prop} (hsel : Region.noSelect ops = true) (hs : Region.sinkB md ops n = true) (hc : Region.chainB md ops n = true) (hn : n < ops.size) :
    ∀ (l : List Oper) (k : Nat) (listed : Array Bool) (a : Act), (∀ j, j < l.length → l[j]? = ops[k + j]?) → k + l.length = n → HeadInv md ops n listed →
    Region.lexHead md ops g l.length k listed = true → wpQuiet P ops C Lq l a →
    wpAnyLQ P md ops C n (fun listed' a' => Region.seqB md ops g n listed' = true ∧ Lq a') l.length listed a
  | [], k, listed, a, _, hk, _, hB, h => by
    have : k = n := by simpa using hk
    subst this
    exact ⟨by simpa [Region.lexHead] using hB, h⟩
  | o :: l, k, listed, a, hl, hk, inv, hB, h => by
    have h0 : ops[k]? = some o := by simpa using (hl 0 (by simp)).symm
    simp only [List.length_cons, Region.lexHead, Bool.and_eq_true] at hB
    obtain ⟨⟨hr, hf⟩, hB'⟩ := hB
    have hkn : k < n := by simp only [List.length_cons] at hk; omega
    have hr' : k ∈ Region.ready md ops listed := by simpa using hr
    have hst : qOp P ops C k (wpQuiet P ops C Lq l) a := by unfold qOp; simp only [h0]; exact h
    obtain ⟨v, hy, hK⟩ := yieldsIn_of_qOp h0 hst
    exact wpAnyLQ_first h0 (Region.noSelect_spec hsel) hs hc hn hkn (fun listed' a' hL => seqB_ready hL.1) l.length listed a inv (Region.free_spec h0 hf) hr' hy
      (wpAnyLQ_lex hsel hs hc hn l (k + 1) _ _ (fun j hj => by have := hl (j + 1) (by simp; omega); simpa [Nat.add_assoc, Nat.add_comm 1 j] using this) (by simp only [List.length_cons] at hk; omega) (inv.set hr' hkn) hB' hK)

theorem wp_region_quiet_tail {id : Nat} {Q : Exit → Act → World → Prop} {a : Act} {w : World} {l : List Oper} (n : Nat) (hm : P.follows .mixedOrders = true) (hB : Region.lexTailB .any l.toArray n = true) (hC : C { w with drawn := w.drawn + 1 })
    (h : wpQuiet P l.toArray C (fun a' => ∀ w', C w' → wpList P l.toArray Q (l.drop n) a' w') (l.take n) a) : (Code.region id l.toArray true).wp P Q a w := by
  simp only [Region.lexTailB, Bool.and_eq_true, decide_eq_true_eq] at hB
  obtain ⟨⟨⟨⟨hsel, hn⟩, hs⟩, hc⟩, hlex⟩ := hB
  have hn' : n < l.length := by simpa using hn
  have htl : (l.take n).length = n := by simp; omega
  have hdl : (l.drop n).length = l.toArray.size - n := by simp
  have inv0 : HeadInv .any l.toArray n (Array.replicate l.toArray.size false) :=
    ⟨by simp, fun j oj _ hl => (by rw [getD_replicate_false] at hl; cases hl), fun t _ ht => getD_in (by simpa using ht) (getD_replicate_false _ _)⟩
  have H := wpAnyLQ_lex (C := C) (md := .any) (g := l.toArray.size - n) hsel hs hc hn (l.take n) 0 _ a (fun j hj => by
    have hj' : j < n := by rw [htl] at hj; exact hj
    simp [hj']) (by simpa using htl) inv0 (by rw [htl]; exact hlex) h
  refine wp_region_any hm ?_
  have := wpAny_of_headQ (Q' := Q) (g := l.toArray.size - n) (fun listed a' w' hw' hL => by
    have := wpAny_of_seq (md := .any) (Q' := Q) (l.drop n) n listed a' w' (fun j => by simp [List.getElem?_drop]) (by rw [hdl]; exact hL.1) (hL.2 w' hw')
    rwa [hdl] at this) _ _ _ _ hC H
  rw [htl, show n + (l.toArray.size - n) = l.toArray.size by omega] at this
  exact this
end

section
variable {P : Program} {N : Nat} {env : Env} {w0 : World} {rs : List Res} {Q : Exit → Act → World → Prop} {ops : Array Oper}
theorem hw_tail (n : Nat) {id : Nat} {l : List Oper} (hm : P.follows .mixedOrders = true) (hB : Region.lexTailB .any l.toArray n = true)
    (h : HQ P N env w0 rs l.toArray (fun a' => ∀ w', Mem w0 rs w' → wpList P l.toArray Q (l.drop n) a' w') (l.take n)) : HW P N env w0 rs (.region id l.toArray true) Q := by
  unfold HW
  unfold HQ at h
  intro a w hs hmem
  exact wp_region_quiet_tail (C := Mem w0 rs) n hm hB (hmem.draw _) (h a hs)
theorem hq_tail {l : List Oper} (h : HL P N env w0 rs ops Q l) : HQ P N env w0 rs ops (fun a' => ∀ w', Mem w0 rs w' → wpList P ops Q l a' w') [] := by
  unfold HQ
  unfold HL at h
  intro a hs w hm
  exact h a w hs hm

/-! ### Loads first, among effects -/
def HB (P : Program) (N : Nat) (env : Env) (w0 : World) (S rs : List Res) (ops : Array Oper) (Q : Exit → Act → World → Prop) (fuel : Nat) (listed : Array Bool) : Prop :=
  ∀ a w, Sat N env a → Mem w0 rs w → wpAnyH P .any ops Q (Mem w0 S) fuel listed a w
theorem hw_held (S : List Res) {id : Nat} {l : List Oper} (hm : P.follows .mixedOrders = true) (h : HB P N env w0 S rs l.toArray Q l.length (Array.replicate l.length false)) : HW P N env w0 rs (.region id l.toArray true) Q := by
  unfold HW
  unfold HB at h
  intro a w hs hmem
  exact wp_region_held (S := Mem w0 S) hm (by have h1 := h a _ hs (hmem.draw (w.drawn + 1)); rw [← List.size_toArray] at h1; exact h1)
theorem hw_heldE {σ : Type} (S : List Res) (E : σ → Env) (R : σ → List Res) (I : σ → Prop) {id : Nat} {l : List Oper} (hm : P.follows .mixedOrders = true)
    (h : HB P N env w0 S rs l.toArray (Exit.then (JoinedE N E w0 R I) Q) l.length (Array.replicate l.length false)) (k : ∀ s, I s → HX N (E s) w0 (R s) (Q .normal)) : HW P N env w0 rs (.region id l.toArray true) Q := by
  have h1 := hw_held (id := id) S hm h
  unfold HW at h1 ⊢
  unfold HX at k
  intro a w hs hmem
  refine wp_mono (h1 a w hs hmem) ?_
  intro e a' w' hq
  cases e with
  | normal => obtain ⟨s, h1, h2, h3⟩ := hq; exact k s h1 a' w' h2 h3
  | _ => exact hq
/-- An operation that is no call and no effect. -/
def plainOp : Op → Bool
  | .move _ | .assign _ | .pick _ _ _ | .load _ _ | .unOp _ _ _ | .binOp _ _ _ _ _ | .convert _ _ _ | .fieldAddr _ _ _ | .indexAddr _ _ _ | .extract _ _ | .index _ _ _ | .build _ _ | .makeFunc _ _ _ | .slice _ _ _ _ _ => true
  | _ => false
theorem plain_run {S : World → Prop} {o : Oper} {a : Act} {w : World} {v : Value} (hp : plainOp o.op = true) (h : o.quietAt P a S w v) : (execOp a.eval o).run P w = .ok (.value v) w := by
  obtain ⟨dst, op, ty, pos, after, gd⟩ := o
  unfold Oper.quietAt at h
  have key : ∀ {α : Type} (X : Sem α) (g : α → Value) (n : Next) (w' : World), Sem.run P (do let r ← X; pure (Next.value (g r))) w = .ok n w' → ∃ u, n = .value u := by
    intro α X g n w' hr
    simp at hr
    generalize Sem.run P X w = q at hr
    cases q with
    | ok r w2 => simp [Result.andThen] at hr; exact ⟨_, hr.1.symm⟩
    | halt x w2 => simp [Result.andThen] at hr
  have fin : ∀ {α : Type} (X : Sem α) (g : α → Value), Oper.quietUpon P S w v (Sem.run P (do let r ← X; pure (Next.value (g r))) w) → Sem.run P (do let r ← X; pure (Next.value (g r))) w = .ok (.value v) w := by
    intro α X g h
    cases hr : Sem.run P (do let r ← X; pure (Next.value (g r))) w with
    | ok n w' =>
      obtain ⟨u, rfl⟩ := key X g n w' hr
      rw [hr] at h
      simp only [Oper.quietUpon] at h
      obtain ⟨rfl, rfl⟩ := h; rfl
    | halt x w' => rw [hr] at h; simp only [Oper.quietUpon] at h
  cases op <;> simp only [plainOp] at hp <;> first | cases hp | skip
  all_goals simp only [execOp] at h ⊢
  all_goals first | exact fin _ _ h | (simp [Oper.quietUpon] at h ⊢; exact h) | skip
/-- An operation that reads and nothing else. -/
def QV (P : Program) (N : Nat) (env : Env) (w0 : World) (S : List Res) (o : Oper) (v : Value) : Prop := ∀ a, Sat N env a → ∀ w, Mem w0 S w → (execOp a.eval o).run P w = .ok (.value v) w
theorem qv_q {S : List Res} {o : Oper} {v : Value} (hp : plainOp o.op = true) (hq : QO P N env w0 S o v) : QV P N env w0 S o v := by
  unfold QO at hq
  exact fun a hs w hm => plain_run hp (hq a hs w hm)
theorem qv_nilP {S : List Res} {dst : Option Nat} {x : Operand} {ty : TypeId} {pos : String} {after : Array Edge} {gd : Option (Nat × Bool)} {p : Addr} (hx : env.ev x = some (.pointer (some p))) : QV P N env w0 S ⟨dst, .nilCheck x, ty, pos, after, gd⟩ (.pointer (some p)) :=
  fun a hs w _ => by simp [execOp, hs.ev hx]
theorem hb_take (i : Nat) {d : Nat} {op : Op} {ty : TypeId} {pos : String} {after : Array Edge} {S : List Res} {v : Value} {fuel : Nat} {listed : Array Bool} (ho : ops[i]? = some ⟨some d, op, ty, pos, after, none⟩) (hd : d < N)
    (hs : Region.noSelect ops = true) (hf : Region.free .any ops listed i = true) (hr : (Region.ready .any ops listed).contains i = true)
    (hQ : ∀ c a w, Q (.panic c) (a.put (some d) v) w → Q (.panic c) a w) (hS : ∀ w, Mem w0 rs w → Mem w0 S w) (hq : QV P N env w0 S ⟨some d, op, ty, pos, after, none⟩ v)
    (h : HB P N ((d, v) :: env) w0 S rs ops Q fuel (listed.setIfInBounds i true)) : HB P N env w0 S rs ops Q (fuel + 1) listed := by
  unfold HB at h ⊢
  intro a w hsat hmem
  exact wpAnyH_take ho hs hf hr hQ (.inl ⟨rfl, fun w' hw' => hq a hsat w' hw'⟩) (hS w hmem) (h _ w (hsat.put v hd) hmem)
theorem hb_1 (i : Nat) {o : Oper} {S : List Res} {fuel : Nat} {listed : Array Bool} (hr : Region.ready .any ops listed = [i]) (ho : ops[i]? = some o)
    (h : HL P N env w0 rs ops (Exit.then (fun a w => Mem w0 S w ∧ wpAnyH P .any ops Q (Mem w0 S) fuel (listed.setIfInBounds i true) a w) Q) [o]) : HB P N env w0 S rs ops Q (fuel + 1) listed := by
  unfold HB
  unfold HL at h
  intro a w hsat hmem
  refine wpAnyH_all hr (by simp) (fun j hj => ?_)
  simp at hj
  subst hj
  exact wpOp_one ho (h a w hsat hmem)
theorem hb_2 (i j : Nat) {o o' : Oper} {S : List Res} {fuel : Nat} {listed : Array Bool} (hr : Region.ready .any ops listed = [i, j]) (ho : ops[i]? = some o) (ho' : ops[j]? = some o')
    (h : HL P N env w0 rs ops (Exit.then (fun a w => Mem w0 S w ∧ wpAnyH P .any ops Q (Mem w0 S) fuel (listed.setIfInBounds i true) a w) Q) [o])
    (h' : HL P N env w0 rs ops (Exit.then (fun a w => Mem w0 S w ∧ wpAnyH P .any ops Q (Mem w0 S) fuel (listed.setIfInBounds j true) a w) Q) [o']) : HB P N env w0 S rs ops Q (fuel + 1) listed := by
  unfold HB
  unfold HL at h h'
  intro a w hsat hmem
  refine wpAnyH_all hr (by simp) (fun k hk => ?_)
  simp at hk
  rcases hk with rfl | rfl
  · exact wpOp_one ho (h a w hsat hmem)
  · exact wpOp_one ho' (h' a w hsat hmem)
theorem hb_end {S : List Res} {fuel : Nat} {listed : Array Bool} (hr : Region.ready .any ops listed = []) (h : HX N env w0 rs (Q .normal)) : HB P N env w0 S rs ops Q fuel listed := by
  unfold HB
  unfold HX at h
  intro a w hsat hmem
  exact wpAnyH_done hr (h a w hsat hmem) fuel
theorem hx_hb {S : List Res} {fuel : Nat} {listed : Array Bool} (hS : ∀ w, Mem w0 rs w → Mem w0 S w) (h : HB P N env w0 S rs ops Q fuel listed) :
    HX N env w0 rs (Exit.then (fun a w => Mem w0 S w ∧ wpAnyH P .any ops Q (Mem w0 S) fuel listed a w) Q .normal) := by
  unfold HX
  unfold HB at h
  exact fun a w hs hmem => ⟨hS w hmem, h a w hs hmem⟩
end
end Go.Eng
