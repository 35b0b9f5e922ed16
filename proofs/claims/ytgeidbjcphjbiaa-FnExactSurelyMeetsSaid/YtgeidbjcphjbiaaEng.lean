/-
  An engine of our own for walks over Go functions: what is known of a frame is a short list of slots, what is known of memory is a base world and a list of resources
  (blocks that the call made itself). Every rule below is a plain theorem over any program.
-/
import Derived.WalkKit
import Derived.WalkSpells
import Derived.Deep.QuietTactic
import Derived.BigQuiet
import Derived.Deep.LoopGhost
import Derived.KernelRfl
namespace Go.Eng
open Go.RowKit
set_option linter.unusedVariables false

/-! ### Frames -/

/-- What is known of a frame: slots and their values; the first entry of a slot counts. -/
abbrev Env := List (Nat × Value)

/-- The value of a slot, if it is known. -/
def Env.at : Env → Nat → Option Value
  | [], _ => none
  | (m, v) :: e, n => if n = m then some v else Env.at e n

structure Sat (N : Nat) (env : Env) (a : Act) : Prop where
  size : a.tmps.size = N
  defs : a.defers = []
  get : ∀ n v, env.at n = some v → a.tmps[n]? = some v

theorem Sat.put {N : Nat} {env : Env} {a : Act} {d : Nat} (v : Value) (h : Sat N env a) (hd : d < N) : Sat N ((d, v) :: env) (a.put (some d) v) := by
  refine ⟨by simp [Act.put, h.size], h.defs, fun n u hn => ?_⟩
  simp only [Env.at] at hn
  split at hn
  · rename_i e; subst e; cases hn
    simp [Act.put, h.size, hd]
  · rename_i e
    simp only [Act.put]
    rw [Array.getElem?_setIfInBounds_ne (by omega)]
    exact h.get n u hn

/-- What is asked of a frame, entry by entry. -/
def Env.le (env : Env) : Env → Prop
  | [] => True
  | (n, v) :: e => env.at n = some v ∧ Env.le env e

theorem Env.le_at {env : Env} : ∀ {e : Env}, env.le e → ∀ n v, e.at n = some v → env.at n = some v
  | [], _, n, v, h => by cases h
  | (m, u) :: e, hle, n, v, h => by
    simp only [Env.at] at h
    split at h
    · rename_i e'; subst e'; cases h; exact hle.1
    · exact Env.le_at hle.2 n v h

theorem Sat.mono {N : Nat} {env e : Env} {a : Act} (h : Sat N env a) (hle : env.le e) : Sat N e a :=
  ⟨h.size, h.defs, fun n v hn => h.get n v (Env.le_at hle n v hn)⟩

/-- An operand's value, if it is known. -/
def Env.ev (env : Env) : Operand → Option Value
  | .tmp t => env.at t
  | .const v => some v
  | .global g => some (.pointer (some ⟨g, 0, none⟩))
  | .func f => some (.func (.func f) #[] #[])

theorem Sat.ev {N : Nat} {env : Env} {a : Act} {x : Operand} {v : Value} (h : Sat N env a) (hx : env.ev x = some v) : a.eval x = v := by
  cases x with
  | tmp t => have := h.get t v hx; simp [Act.eval, Array.getD_eq_getD_getElem?, this]
  | const u => simpa [Env.ev, Act.eval] using hx
  | global g => simpa [Env.ev, Act.eval] using hx
  | func f => simpa [Env.ev, Act.eval] using hx

theorem Sat.yield {N : Nat} {env : Env} {a : Act} {ops : Array Oper} {i g : Nat} {c : Bool} (h : Sat N env a) (ho : (ops[i]?).bind (·.dst) = some g) (hg : env.at g = some (.bool c)) :
    yielded ops a.tmps i = some c := by
  simp [yielded, ho, h.get g _ hg]

/-! ### Memory -/

/-- A resource: something that holds of a set of blocks, and of these alone. -/
structure Res where
  foot : Nat → Prop
  holds : World → Prop
  bnd : ∀ w, holds w → ∀ b, foot b → b < w.heap.size
  loc : ∀ w w' : World, holds w → (∀ b, foot b → w'.heap[b]? = w.heap[b]?) → holds w'

structure Mem (w0 : World) (rs : List Res) (w : World) : Prop where
  below : Below w0.heap.size w0 w
  holds : ∀ (i : Nat) (r : Res), rs[i]? = some r → r.holds w
  fresh : ∀ (i : Nat) (r : Res), rs[i]? = some r → ∀ b, r.foot b → w0.heap.size ≤ b
  apart : ∀ (i j : Nat) (r s : Res), i ≠ j → rs[i]? = some r → rs[j]? = some s → ∀ b, r.foot b → ¬ s.foot b

theorem Mem.refl (w : World) : Mem w [] w :=
  ⟨Below.refl _ _, fun _ _ h => by simp at h, fun _ _ h => by simp at h, fun _ _ _ _ _ h => by simp at h⟩

theorem Mem.draw {w0 w : World} {rs : List Res} (h : Mem w0 rs w) (n : Nat) : Mem w0 rs { w with drawn := n } :=
  ⟨⟨h.below.os, h.below.tape, h.below.output, h.below.size, h.below.block⟩, fun i r hi => r.loc w _ (h.holds i r hi) (fun _ _ => rfl), h.fresh, h.apart⟩

/-- Resource i gives way to another; all else stands. -/
theorem Mem.upd {w0 w w' : World} {rs : List Res} {i : Nat} {r r' : Res} (h : Mem w0 rs w) (hi : rs[i]? = some r)
    (hos : w'.os = w.os) (htape : w'.tape = w.tape) (hout : w'.output = w.output) (hsz : w.heap.size ≤ w'.heap.size)
    (hb : ∀ b, b < w.heap.size → ¬ r.foot b → w'.heap[b]? = w.heap[b]?) (hr : r'.holds w') (hf : ∀ b, r'.foot b → r.foot b ∨ w.heap.size ≤ b) : Mem w0 (rs.set i r') w' := by
  have hlen : i < rs.length := (List.getElem?_eq_some_iff.1 hi).1
  have key : ∀ (j : Nat) (s : Res), (rs.set i r')[j]? = some s → (j = i ∧ s = r') ∨ (j ≠ i ∧ rs[j]? = some s) := by
    intro j s hj
    rw [List.getElem?_set] at hj
    by_cases e : i = j
    · subst e; simp [hlen] at hj; exact .inl ⟨rfl, hj.symm⟩
    · simp [e] at hj; exact .inr ⟨fun e' => e e'.symm, hj⟩
  refine ⟨h.below.trans ⟨hos, htape, hout, hsz, fun b hb0 => hb b (Nat.lt_of_lt_of_le hb0 h.below.size) (fun hr0 => ?_)⟩, fun j s hj => ?_, fun j s hj b hfb => ?_, fun j k s t hjk hj hk b hs ht => ?_⟩
  · have := h.fresh i r hi b hr0; omega
  · rcases key j s hj with ⟨_, rfl⟩ | ⟨hne, hj'⟩
    · exact hr
    · exact s.loc w w' (h.holds j s hj') (fun b hs => hb b (s.bnd w (h.holds j s hj') b hs) (fun hr0 => h.apart j i s r hne hj' hi b hs hr0))
  · rcases key j s hj with ⟨_, rfl⟩ | ⟨_, hj'⟩
    · rcases hf b hfb with h1 | h1
      · exact h.fresh i r hi b h1
      · exact Nat.le_trans h.below.size h1
    · exact h.fresh j s hj' b hfb
  · rcases key j s hj with ⟨e1, rfl⟩ | ⟨n1, hj'⟩ <;> rcases key k t hk with ⟨e2, rfl⟩ | ⟨n2, hk'⟩
    · omega
    · rcases hf b hs with h1 | h1
      · exact h.apart i k r t (fun e => n2 e.symm) hi hk' b h1 ht
      · have := t.bnd w (h.holds k t hk') b ht; omega
    · rcases hf b ht with h1 | h1
      · exact h.apart j i s r n1 hj' hi b hs h1
      · have := s.bnd w (h.holds j s hj') b hs; omega
    · exact h.apart j k s t hjk hj' hk' b hs ht

/-- What a callee leaves, seen from the caller. -/
theorem Mem.comp {w0 w w' : World} {rs rs' : List Res} (h : Mem w0 rs w) (h' : Mem w rs' w') : Mem w0 (rs ++ rs') w' := by
  have key : ∀ (j : Nat) (s : Res), (rs ++ rs')[j]? = some s → rs[j]? = some s ∨ (rs.length ≤ j ∧ rs'[j - rs.length]? = some s) := by
    intro j s hj
    rw [List.getElem?_append] at hj
    split at hj
    · exact .inl hj
    · exact .inr ⟨by omega, hj⟩
  refine ⟨h.below.trans (h'.below.mono h.below.size), fun j s hj => ?_, fun j s hj b hf => ?_, fun j k s t hjk hj hk b hs ht => ?_⟩
  · rcases key j s hj with h1 | ⟨_, h1⟩
    · exact s.loc w w' (h.holds j s h1) (fun b hb => h'.below.block b (s.bnd w (h.holds j s h1) b hb))
    · exact h'.holds _ s h1
  · rcases key j s hj with h1 | ⟨_, h1⟩
    · exact h.fresh j s h1 b hf
    · exact Nat.le_trans h.below.size (h'.fresh _ s h1 b hf)
  · rcases key j s hj with h1 | ⟨l1, h1⟩ <;> rcases key k t hk with h2 | ⟨l2, h2⟩
    · exact h.apart j k s t hjk h1 h2 b hs ht
    · have := s.bnd w (h.holds j s h1) b hs
      have := h'.fresh _ t h2 b ht
      omega
    · have := t.bnd w (h.holds k t h2) b ht
      have := h'.fresh _ s h1 b hs
      omega
    · exact h'.apart _ _ s t (by omega) h1 h2 b hs ht

theorem Mem.weaken {w0 w : World} {rs : List Res} (h : Mem w0 rs w) (f : Nat → Nat) (rs' : List Res) (hf : ∀ i j, f i = f j → i < rs'.length → j < rs'.length → i = j)
    (hr : ∀ (i : Nat) (r : Res), rs'[i]? = some r → rs[f i]? = some r) : Mem w0 rs' w :=
  ⟨h.below, fun i r hi => h.holds _ r (hr i r hi), fun i r hi => h.fresh _ r (hr i r hi), fun i j r s hij hi hj =>
    h.apart _ _ r s (fun e => hij (hf i j e (List.getElem?_eq_some_iff.1 hi).1 (List.getElem?_eq_some_iff.1 hj).1)) (hr i r hi) (hr j s hj)⟩

theorem Mem.none {w0 w : World} {rs : List Res} (h : Mem w0 rs w) : Mem w0 [] w := h.weaken id [] (fun _ _ e _ _ => e) (fun _ _ h => by simp at h)

theorem Mem.first {w0 w : World} {r : Res} {rs : List Res} (h : Mem w0 (r :: rs) w) : Mem w0 [r] w :=
  h.weaken id [r] (fun _ _ e _ _ => e) (fun i s hi => by
    cases i with
    | zero => simpa using hi
    | succ n => simp at hi)

/-- A callee whose post leaves old blocks as they were. -/
theorem Mem.ext {w0 w w' : World} {rs : List Res} (h : Mem w0 rs w) (hb : Below w.heap.size w w') : Mem w0 rs w' := by
  have := h.comp (rs' := []) ⟨hb, fun _ _ h => by simp at h, fun _ _ h => by simp at h, fun _ _ _ _ _ h => by simp at h⟩
  simpa using this

/-- A new resource in new blocks. -/
theorem Mem.add {w0 w w' : World} {rs : List Res} {r : Res} (h : Mem w0 rs w) (hb : Below w.heap.size w w') (hr : r.holds w') (hf : ∀ b, r.foot b → w.heap.size ≤ b) : Mem w0 (rs ++ [r]) w' := by
  refine h.comp ⟨hb, fun i s hi => ?_, fun i s hi b hs => ?_, fun i j s t hij hi hj => ?_⟩
  · cases i with
    | zero => simp at hi; subst hi; exact hr
    | succ n => simp at hi
  · cases i with
    | zero => simp at hi; subst hi; exact hf b hs
    | succ n => simp at hi
  · cases i <;> cases j <;> simp_all

/-! ### Goals -/

section
variable (P : Program) (N : Nat) (env : Env) (w0 : World) (rs : List Res)
/-- Something of every frame and world of which just this is known. -/
def HX (φ : Act → World → Prop) : Prop := ∀ a w, Sat N env a → Mem w0 rs w → φ a w
def HW (c : Code) (Q : Exit → Act → World → Prop) : Prop := ∀ a w, Sat N env a → Mem w0 rs w → c.wp P Q a w
def HL (ops : Array Oper) (Q : Exit → Act → World → Prop) (l : List Oper) : Prop := ∀ a w, Sat N env a → Mem w0 rs w → wpList P ops Q l a w
def HQ (ops : Array Oper) (Q : Act → Prop) (l : List Oper) : Prop := ∀ a, Sat N env a → wpQuiet P ops (Mem w0 rs) Q l a
/-- An operation that reads: the value v, whatever else holds. -/
def QO (o : Oper) (v : Value) : Prop := ∀ a, Sat N env a → ∀ w, Mem w0 rs w → o.quietAt P a (Mem w0 rs) w v
end

section
variable {P : Program} {N : Nat} {env : Env} {w0 : World} {rs : List Res} {Q : Exit → Act → World → Prop}

theorem hw_seq {x y : Code} (h : HW P N env w0 rs x (Exit.then (fun a w => y.wp P Q a w) Q)) : HW P N env w0 rs (.seq x y) Q :=
  fun a w hs hm => wp_seq (h a w hs hm)
theorem hw_skip (h : HX N env w0 rs (Q .normal)) : HW P N env w0 rs .skip Q := fun a w hs hm => wp_skip (h a w hs hm)
theorem hw_ret (h : HX N env w0 rs (Q .ret)) : HW P N env w0 rs .ret Q := fun a w hs hm => wp_ret (h a w hs hm)
theorem hw_exit {id : Nat} (h : HX N env w0 rs (Q (.exit id))) : HW P N env w0 rs (.exit id) Q := fun a w hs hm => wp_exit (h a w hs hm)
theorem hw_block {id : Nat} {c : Code} (h : HW P N env w0 rs c (Exit.inBlock id Q)) : HW P N env w0 rs (.block id c) Q := fun a w hs hm => wp_block (h a w hs hm)
theorem hw_true {c : Operand} {x y : Code} (hc : env.ev c = some (.bool true)) (h : HW P N env w0 rs x Q) : HW P N env w0 rs (.cond c x y) Q :=
  fun a w hs hm => wp_cond_true (hs.ev hc) (h a w hs hm)
theorem hw_false {c : Operand} {x y : Code} (hc : env.ev c = some (.bool false)) (h : HW P N env w0 rs y Q) : HW P N env w0 rs (.cond c x y) Q :=
  fun a w hs hm => wp_cond_false (hs.ev hc) (h a w hs hm)
theorem hw_if {c : Operand} {x y : Code} {p : Prop} [Decidable p] (hc : env.ev c = some (.bool (decide p))) (ht : p → HW P N env w0 rs x Q) (hf : ¬ p → HW P N env w0 rs y Q) :
    HW P N env w0 rs (.cond c x y) Q := fun a w hs hm =>
  wp_cond_split (hs.ev hc) (fun h => ht (by simpa using h) a w hs hm) (fun h => hf (by simpa using h) a w hs hm)

theorem hw_bool {c : Operand} {x y : Code} {b : Bool} (hc : env.ev c = some (.bool b)) (ht : b = true → HW P N env w0 rs x Q) (hf : b = false → HW P N env w0 rs y Q) :
    HW P N env w0 rs (.cond c x y) Q := fun a w hs hm =>
  wp_cond_split (hs.ev hc) (fun h => ht h a w hs hm) (fun h => hf h a w hs hm)

theorem hx_next {y : Code} (h : HW P N env w0 rs y Q) : HX N env w0 rs (Exit.then (fun a w => y.wp P Q a w) Q .normal) := h
theorem hx_then_ret {f : Act → World → Prop} (h : HX N env w0 rs (Q .ret)) : HX N env w0 rs (Exit.then f Q .ret) := h
theorem hx_then_exit {f : Act → World → Prop} {id : Nat} (h : HX N env w0 rs (Q (.exit id))) : HX N env w0 rs (Exit.then f Q (.exit id)) := h
theorem hx_block {id : Nat} (h : HX N env w0 rs (Q .normal)) : HX N env w0 rs (Exit.inBlock id Q .normal) := h
theorem hx_block_ret {id : Nat} (h : HX N env w0 rs (Q .ret)) : HX N env w0 rs (Exit.inBlock id Q .ret) := h
theorem hx_block_here {id : Nat} (h : HX N env w0 rs (Q .normal)) : HX N env w0 rs (Exit.inBlock id Q (.exit id)) := fun a w hs hm => by
  simp only [Exit.inBlock, if_true]; exact h a w hs hm
theorem hx_block_far {id id' : Nat} (hne : (id' = id) = False) (h : HX N env w0 rs (Q (.exit id'))) : HX N env w0 rs (Exit.inBlock id Q (.exit id')) := fun a w hs hm => by
  simp only [Exit.inBlock, hne, if_false]; exact h a w hs hm

theorem hx_le {e : Env} {φ : Act → World → Prop} (hle : env.le e) (h : HX N e w0 rs φ) : HX N env w0 rs φ := fun a w hs hm => h a w (hs.mono hle) hm
theorem hw_le {e : Env} {c : Code} (hle : env.le e) (h : HW P N e w0 rs c Q) : HW P N env w0 rs c Q := fun a w hs hm => h a w (hs.mono hle) hm

/-- A slot whose Bool is decided by a proposition. -/
theorem Sat.lit {a : Act} {g : Nat} {v : Value} {b : Bool} (h : Sat N env a) (hg : env.at g = some (.bool b)) (hv : v = .bool b) : Sat N ((g, v) :: env) a :=
  ⟨h.size, h.defs, fun n u hn => by
    simp only [Env.at] at hn
    split at hn
    · rename_i e; subst e; cases hn; rw [hv]; exact h.get n _ hg
    · exact h.get n u hn⟩

theorem hl_case {ops : Array Oper} {l : List Oper} (g : Nat) {b : Bool} (hg : env.at g = some (.bool b))
    (ht : b = true → HL P N ((g, .bool true) :: env) w0 rs ops Q l) (hf : b = false → HL P N ((g, .bool false) :: env) w0 rs ops Q l) : HL P N env w0 rs ops Q l := fun a w hs hm => by
  cases hb : b with
  | true => exact ht hb a w (hs.lit hg (by rw [hb])) hm
  | false => exact hf hb a w (hs.lit hg (by rw [hb])) hm
theorem hq_case {ops : Array Oper} {l : List Oper} {K : Act → Prop} (g : Nat) {b : Bool} (hg : env.at g = some (.bool b))
    (ht : b = true → HQ P N ((g, .bool true) :: env) w0 rs ops K l) (hf : b = false → HQ P N ((g, .bool false) :: env) w0 rs ops K l) : HQ P N env w0 rs ops K l := fun a hs => by
  cases hb : b with
  | true => exact ht hb a (hs.lit hg (by rw [hb]))
  | false => exact hf hb a (hs.lit hg (by rw [hb]))
theorem hw_case {c : Code} (g : Nat) {b : Bool} (hg : env.at g = some (.bool b))
    (ht : b = true → HW P N ((g, .bool true) :: env) w0 rs c Q) (hf : b = false → HW P N ((g, .bool false) :: env) w0 rs c Q) : HW P N env w0 rs c Q := fun a w hs hm => by
  cases hb : b with
  | true => exact ht hb a w (hs.lit hg (by rw [hb])) hm
  | false => exact hf hb a w (hs.lit hg (by rw [hb])) hm

/-! ### Regions -/
theorem hw_region {id : Nat} {l : List Oper} (h : HL P N env w0 rs l.toArray Q l) : HW P N env w0 rs (.region id l.toArray false) Q := fun a w hs hm => wp_region_lit (h a w hs hm)
theorem hw_draw {id : Nat} {l : List Oper} (hmix : P.follows .mixedOrders = true) (hB : Region.lexB .any l.toArray = true)
    (h : HQ P N env w0 rs l.toArray (fun a' => ∀ w', Mem w0 rs w' → Q .normal a' w') l) : HW P N env w0 rs (.region id l.toArray true) Q := fun a w hs hm =>
  wp_region_quiet (C := Mem w0 rs) hmix hB (hm.draw _) (by simpa using h a hs)
theorem hl_nil {ops : Array Oper} (h : HX N env w0 rs (Q .normal)) : HL P N env w0 rs ops Q [] := fun a w hs hm => h a w hs hm
theorem hq_nil {ops : Array Oper} (h : HX N env w0 rs (Q .normal)) : HQ P N env w0 rs ops (fun a' => ∀ w', Mem w0 rs w' → Q .normal a' w') [] :=
  fun a hs w' hm => h a w' hs hm

variable {ops : Array Oper} {l : List Oper} {K : Act → Prop} {op : Op} {d : Nat} {ty : TypeId} {pos : String} {after : Array Edge} {gd : Option (Nat × Bool)} {v : Value}
theorem wanted_yes {a : Act} {i g : Nat} {c : Bool} (hs : Sat N env a) (ho : (ops[i]?).bind (·.dst) = some g) (hg : env.at g = some (.bool c)) {dst : Option Nat} :
    Region.wanted ⟨dst, op, ty, pos, after, some (i, c)⟩ (yielded ops a.tmps) = true := by
  simp [Region.wanted, hs.yield ho hg]
theorem wanted_no {a : Act} {i g : Nat} {c c' : Bool} (hs : Sat N env a) (ho : (ops[i]?).bind (·.dst) = some g) (hg : env.at g = some (.bool c')) (hne : (c' == c) = false) {dst : Option Nat} :
    Region.wanted ⟨dst, op, ty, pos, after, some (i, c)⟩ (yielded ops a.tmps) = false := by
  simp only [Region.wanted, hs.yield ho hg]
  revert hne; cases c <;> cases c' <;> decide

theorem hl_q (hd : d < N) (hq : QO P N env w0 rs ⟨some d, op, ty, pos, after, none⟩ v) (h : HL P N ((d, v) :: env) w0 rs ops Q l) :
    HL P N env w0 rs ops Q (⟨some d, op, ty, pos, after, none⟩ :: l) := fun a w hs hm =>
  wpList_plain rfl fun _ hK => Oper.wp_of_quiet (C := Mem w0 rs) (K := fun a' => ∀ w', Mem w0 rs w' → wpList P ops Q l a' w') hm (fun _ _ hm' h' => hK _ _ (h' _ hm'))
    ⟨v, hq a hs, fun w' hm' => h _ w' (hs.put v hd) hm'⟩
theorem hq_q (hd : d < N) (hq : QO P N env w0 rs ⟨some d, op, ty, pos, after, none⟩ v) (h : HQ P N ((d, v) :: env) w0 rs ops K l) :
    HQ P N env w0 rs ops K (⟨some d, op, ty, pos, after, none⟩ :: l) := fun a hs =>
  wpQuiet_step fun _ hK => by
    simp only [Region.wanted, if_true]
    exact ⟨v, hq a hs, hK _ (h _ (hs.put v hd))⟩
theorem hl_g (i g : Nat) {c : Bool} (ho : (ops[i]?).bind (·.dst) = some g) (hg : env.at g = some (.bool c)) (hd : d < N) (hq : QO P N env w0 rs ⟨some d, op, ty, pos, after, some (i, c)⟩ v) (h : HL P N ((d, v) :: env) w0 rs ops Q l) :
    HL P N env w0 rs ops Q (⟨some d, op, ty, pos, after, some (i, c)⟩ :: l) := fun a w hs hm =>
  wpList_step fun _ hK => by
    rw [if_pos (wanted_yes hs ho hg)]
    exact Oper.wp_of_quiet (C := Mem w0 rs) (K := fun a' => ∀ w', Mem w0 rs w' → wpList P ops Q l a' w') hm (fun _ _ hm' h' => hK _ _ (h' _ hm')) ⟨v, hq a hs, fun w' hm' => h _ w' (hs.put v hd) hm'⟩
theorem hq_g (i g : Nat) {c : Bool} (ho : (ops[i]?).bind (·.dst) = some g) (hg : env.at g = some (.bool c)) (hd : d < N) (hq : QO P N env w0 rs ⟨some d, op, ty, pos, after, some (i, c)⟩ v) (h : HQ P N ((d, v) :: env) w0 rs ops K l) :
    HQ P N env w0 rs ops K (⟨some d, op, ty, pos, after, some (i, c)⟩ :: l) := fun a hs =>
  wpQuiet_step fun _ hK => by
    rw [if_pos (wanted_yes hs ho hg)]
    exact ⟨v, hq a hs, hK _ (h _ (hs.put v hd))⟩
theorem hl_skip (i g : Nat) {c c' : Bool} (ho : (ops[i]?).bind (·.dst) = some g) (hg : env.at g = some (.bool c')) (hne : (c' == c) = false) (hd : d < N) (h : HL P N ((d, undef) :: env) w0 rs ops Q l) :
    HL P N env w0 rs ops Q (⟨some d, op, ty, pos, after, some (i, c)⟩ :: l) := fun a w hs hm =>
  wpList_step fun _ hK => by
    rw [if_neg (by rw [wanted_no hs ho hg hne]; exact Bool.false_ne_true)]
    exact hK _ _ (h _ w (hs.put undef hd) hm)
theorem hq_skip (i g : Nat) {c c' : Bool} (ho : (ops[i]?).bind (·.dst) = some g) (hg : env.at g = some (.bool c')) (hne : (c' == c) = false) (hd : d < N) (h : HQ P N ((d, undef) :: env) w0 rs ops K l) :
    HQ P N env w0 rs ops K (⟨some d, op, ty, pos, after, some (i, c)⟩ :: l) := fun a hs =>
  wpQuiet_step fun _ hK => by
    rw [if_neg (by rw [wanted_no hs ho hg hne]; exact Bool.false_ne_true)]
    exact hK _ (h _ (hs.put undef hd))

theorem Sat.dec {a : Act} {g : Nat} {p : Prop} [Decidable p] (h : Sat N env a) (hg : env.at g = some (.bool (decide p))) : (p → Sat N ((g, .bool true) :: env) a) ∧ (¬ p → Sat N ((g, .bool false) :: env) a) :=
  ⟨fun hp => h.lit hg (by simp [hp]), fun hp => h.lit hg (by simp [hp])⟩
theorem hl_gdec {i g : Nat} {c : Bool} {dst : Option Nat} {p : Prop} [Decidable p] (ho : (ops[i]?).bind (·.dst) = some g) (hg : env.at g = some (.bool (decide p)))
    (ht : p → HL P N ((g, .bool true) :: env) w0 rs ops Q (⟨dst, op, ty, pos, after, some (i, c)⟩ :: l)) (hf : ¬ p → HL P N ((g, .bool false) :: env) w0 rs ops Q (⟨dst, op, ty, pos, after, some (i, c)⟩ :: l)) :
    HL P N env w0 rs ops Q (⟨dst, op, ty, pos, after, some (i, c)⟩ :: l) := fun a w hs hm => by
  by_cases hp : p
  · exact ht hp a w ((hs.dec hg).1 hp) hm
  · exact hf hp a w ((hs.dec hg).2 hp) hm
theorem hq_gdec {i g : Nat} {c : Bool} {dst : Option Nat} {p : Prop} [Decidable p] (ho : (ops[i]?).bind (·.dst) = some g) (hg : env.at g = some (.bool (decide p)))
    (ht : p → HQ P N ((g, .bool true) :: env) w0 rs ops K (⟨dst, op, ty, pos, after, some (i, c)⟩ :: l)) (hf : ¬ p → HQ P N ((g, .bool false) :: env) w0 rs ops K (⟨dst, op, ty, pos, after, some (i, c)⟩ :: l)) :
    HQ P N env w0 rs ops K (⟨dst, op, ty, pos, after, some (i, c)⟩ :: l) := fun a hs => by
  by_cases hp : p
  · exact ht hp a ((hs.dec hg).1 hp)
  · exact hf hp a ((hs.dec hg).2 hp)
theorem hl_gbool {i g : Nat} {c b : Bool} {dst : Option Nat} (ho : (ops[i]?).bind (·.dst) = some g) (hg : env.at g = some (.bool b))
    (ht : b = true → HL P N ((g, .bool true) :: env) w0 rs ops Q (⟨dst, op, ty, pos, after, some (i, c)⟩ :: l)) (hf : b = false → HL P N ((g, .bool false) :: env) w0 rs ops Q (⟨dst, op, ty, pos, after, some (i, c)⟩ :: l)) :
    HL P N env w0 rs ops Q (⟨dst, op, ty, pos, after, some (i, c)⟩ :: l) := hl_case g hg ht hf
theorem hq_gbool {i g : Nat} {c b : Bool} {dst : Option Nat} (ho : (ops[i]?).bind (·.dst) = some g) (hg : env.at g = some (.bool b))
    (ht : b = true → HQ P N ((g, .bool true) :: env) w0 rs ops K (⟨dst, op, ty, pos, after, some (i, c)⟩ :: l)) (hf : b = false → HQ P N ((g, .bool false) :: env) w0 rs ops K (⟨dst, op, ty, pos, after, some (i, c)⟩ :: l)) :
    HQ P N env w0 rs ops K (⟨dst, op, ty, pos, after, some (i, c)⟩ :: l) := hq_case g hg ht hf
end

/-! ### What the types and functions of a program are, by class (the instances are closed facts of one program) -/

/-- A type of one cell. -/
class One (P : Program) (t : TypeId) : Prop where
  agg : ∀ w, (isAgg t).run P w = .ok false w
  size : ∃ i, P.info? t = some i ∧ i.size = 1
/-- A type of n cells: a struct or an array. -/
class Agg (P : Program) (t : TypeId) (n : outParam Nat) : Prop where
  agg : ∀ w, (isAgg t).run P w = .ok true w
  size : ∃ i, P.info? t = some i ∧ i.size = n
/-- A slice of elements of type e, k cells and bb bytes each, whose zero is z. -/
class Slc (P : Program) (t : TypeId) (e k bb : outParam Nat) (z : outParam Value) : Prop where
  und : P.underlying t = some (.slice e)
  info : ∃ i, P.info? e = some i ∧ i.size = k ∧ i.bytes = bb ∧ i.zero = some z
  zs : z.cells.size = k
/-- An array's variable of n elements of k cells each. -/
class Arr (P : Program) (t : TypeId) (n e k : outParam Nat) : Prop where
  und : P.underlying t = some (.array n e)
  info : ∃ i, P.info? e = some i ∧ i.size = k
/-- A struct's field f lies at cell 'off'. -/
class Fld (P : Program) (s f : Nat) (off : outParam Nat) : Prop where
  run : ∀ (a : Addr) w, (Instr.fieldAt s (.pointer (some a)) f).run P w = .ok (.pointer (some (a.add off))) w
/-- An integer type. -/
class IntT (P : Program) (t : TypeId) (k : outParam IntKind) : Prop where
  und : P.underlying t = some (.int k)
/-- A type of Bools. -/
class BoolT (P : Program) (t : TypeId) : Prop where
  und : P.underlying t = some .bool
/-- A type of texts. -/
class StrT (P : Program) (t : TypeId) : Prop where
  und : P.underlying t = some .string
/-- A type whose zero is z. -/
class Zero (P : Program) (t : TypeId) (z : outParam Value) : Prop where
  run : ∀ w, (zeroValue t).run P w = .ok z w
/-- A Go function with a body. -/
class Body (P : Program) (f : FuncId) : Prop where
  run : ∀ args w, (callFunc f args).run P w = .ok (.enter f args) w

/-! ### Slices as values -/

/-- v is a slice of length n. -/
def SlOk (v : Value) (n : Nat) : Prop := ∃ a c, v = .slice a n c ∧ n ≤ c ∧ c ≤ maxLen ∧ (n ≠ 0 → a.isSome = true)

theorem SlOk.le {v : Value} {n : Nat} (h : SlOk v n) : (n : Int) ≤ 9223372036854775807 := by
  obtain ⟨_, c, _, h1, h2, _⟩ := h
  unfold maxLen at h2; omega
theorem SlOk.max {v : Value} {n : Nat} (h : SlOk v n) : n ≤ maxLen := by
  obtain ⟨_, c, _, h1, h2, _⟩ := h
  omega
/-- The place of cell i behind a slice's head. -/
def vAt : Value → Nat → Addr
  | .slice (some b) _ _, i => b.add i
  | _, _ => ⟨0, 0, none⟩

/-- What is read at p, whatever world it is. -/
def Ld (w0 : World) (rs : List Res) (p : Addr) (v : Value) : Prop := ∀ w, Mem w0 rs w → w.cell? p = some v

theorem Ld.cell {w0 w : World} {rs : List Res} {p : Addr} {v : Value} (h : Ld w0 rs p v) (hm : Mem w0 rs w) : w.cell? p = some v := h w hm
theorem ld_base {w0 : World} {rs : List Res} {p : Addr} {v : Value} (h : w0.cell? p = some v) : Ld w0 rs p v := fun w hm => by
  rw [hm.below.cell (World.block_lt_of_cell? w0 p h)]; exact h
theorem ld_res {w0 : World} {rs : List Res} {p : Addr} {v : Value} (i : Nat) {r : Res} (hi : rs[i]? = some r) (h : ∀ w, r.holds w → w.cell? p = some v) : Ld w0 rs p v :=
  fun w hm => h w (hm.holds i r hi)

/-- A call that hands back a value and new resources. -/
def Gives (P : Program) (f : FuncId) (args : List Value) (w : World) (Φ : Value → List Res → Prop) : Prop :=
  Calls P f args.toArray w fun e w' => ∃ v rs', e = .returned v ∧ Mem w rs' w' ∧ Φ v rs'
/-- A call that hands back this value, and nothing new that counts. -/
def Ret (P : Program) (f : FuncId) (args : List Value) (w : World) (v : Value) : Prop :=
  Calls P f args.toArray w fun e w' => e = .returned v ∧ Mem w [] w'

section
variable {P : Program} {N : Nat} {env : Env} {w0 : World} {rs : List Res}
variable {dst : Option Nat} {ty : TypeId} {pos : String} {after : Array Edge} {gd : Option (Nat × Bool)}

theorem qo_val {o : Oper} {v : Value} (h : ∀ a, Sat N env a → ∀ w, Mem w0 rs w → (execOp a.eval o).run P w = .ok (.value v) w) : QO P N env w0 rs o v := fun a hs w hm => by
  unfold Oper.quietAt
  rw [h a hs w hm]
  exact ⟨rfl, rfl⟩

variable {x y c : Operand} {u v : Value}
theorem q_move (hx : env.ev x = some v) : QO P N env w0 rs ⟨dst, .move x, ty, pos, after, gd⟩ v := qo_val fun a hs w _ => by simp [execOp, hs.ev hx]
theorem q_assign (hx : env.ev x = some v) : QO P N env w0 rs ⟨dst, .assign x, ty, pos, after, gd⟩ v := qo_val fun a hs w _ => by simp [execOp, hs.ev hx]
theorem q_pickT (hc : env.ev c = some (.bool true)) (hx : env.ev x = some v) : QO P N env w0 rs ⟨dst, .pick c x y, ty, pos, after, gd⟩ v := qo_val fun a hs w _ => by
  simp [execOp, hs.ev hc, hs.ev hx, asBool]
theorem q_pickF (hc : env.ev c = some (.bool false)) (hy : env.ev y = some v) : QO P N env w0 rs ⟨dst, .pick c x y, ty, pos, after, gd⟩ v := qo_val fun a hs w _ => by
  simp [execOp, hs.ev hc, hs.ev hy, asBool]
theorem q_not {t : TypeId} {b : Bool} (hx : env.ev x = some (.bool b)) : QO P N env w0 rs ⟨dst, .unOp .not t x, ty, pos, after, gd⟩ (.bool (!b)) := qo_val fun a hs w _ => by
  simp [execOp, hs.ev hx, Op.unary]
theorem q_notD {t : TypeId} {p : Prop} [Decidable p] (hx : env.ev x = some (.bool (decide p))) : QO P N env w0 rs ⟨dst, .unOp .not t x, ty, pos, after, gd⟩ (.bool (decide (¬ p))) := qo_val fun a hs w _ => by
  simp [execOp, hs.ev hx, Op.unary]
theorem q_nilP {p : Addr} (hx : env.ev x = some (.pointer (some p))) : QO P N env w0 rs ⟨dst, .nilCheck x, ty, pos, after, gd⟩ (.pointer (some p)) := qo_val fun a hs w _ => by
  simp [execOp, hs.ev hx]
theorem q_nilF {f : FuncId} {fs cs : Array Value} (hx : env.ev x = some (.func (.func f) fs cs)) : QO P N env w0 rs ⟨dst, .nilCheck x, ty, pos, after, gd⟩ (.func (.func f) fs cs) := qo_val fun a hs w _ => by
  simp [execOp, hs.ev hx]
theorem q_ext {vs : Array Value} {i : Nat} (hx : env.ev x = some (.tuple vs)) (hi : vs[i]? = some v) : QO P N env w0 rs ⟨dst, .extract x i, ty, pos, after, gd⟩ v := qo_val fun a hs w _ => by
  simp [execOp, hs.ev hx, Instr.extract, hi]
theorem q_field {s f off : Nat} [hF : Fld P s f off] {p : Addr} (hx : env.ev x = some (.pointer (some p))) : QO P N env w0 rs ⟨dst, .fieldAddr s x f, ty, pos, after, gd⟩ (.pointer (some (p.add off))) := qo_val fun a hs w _ => by
  simp [execOp, hs.ev hx, hF.run]
theorem q_load {t : TypeId} [hT : One P t] {p : Addr} (hx : env.ev x = some (.pointer (some p))) (hl : Ld w0 rs p v) : QO P N env w0 rs ⟨dst, .load t x, ty, pos, after, gd⟩ v := qo_val fun a hs w hm => by
  simp [execOp, hs.ev hx, Instr.loadAt, Instr.sureAddr, loadVar, hT.agg w, hl w hm]
theorem q_len {t ty' : TypeId} {e k bb : Nat} {z : Value} [hT : Slc P t e k bb z] {n : Nat} (hx : env.ev x = some v) (hs' : SlOk v n) :
    QO P N env w0 rs ⟨dst, .call { callee := .builtin .len, args := #[x], argTypes := #[t] }, ty', pos, after, gd⟩ (.int .i64 (n : Int)) := qo_val fun a hs w _ => by
  obtain ⟨b, c, rfl, _, _, _⟩ := hs'
  simp [execOp, resolve, invoke, builtin, hs.ev hx, Builtin.len_, run_underlying hT.und, goInt]
theorem q_idxN {t : TypeId} {e bb : Nat} {z : Value} [hT : Slc P t e 1 bb z] {n i : Nat} {k : IntKind} (hx : env.ev x = some v) (hy : env.ev y = some (.int k (i : Int))) (hs' : SlOk v n) (hi : i < n) :
    QO P N env w0 rs ⟨dst, .indexAddr t x y, ty, pos, after, gd⟩ (.pointer (some (vAt v i))) := qo_val fun a hs w _ => by
  obtain ⟨b, c, rfl, _, _, hb⟩ := hs'
  obtain ⟨b, rfl⟩ := Option.isSome_iff_exists.1 (hb (by omega))
  obtain ⟨j, hj, hsz, _⟩ := hT.info
  have h1 : (0 : Int) ≤ i ∧ (i : Int) < n := by omega
  simp [execOp, hs.ev hx, hs.ev hy, Instr.indexAt, asIntOf, run_underlying hT.und, sizeOf, typeInfo, hj, hsz, vAt, hi]
theorem q_idx {t : TypeId} {e bb sz : Nat} {z : Value} [hT : Slc P t e sz bb z] {n : Nat} {i : Int} {k : IntKind} (hx : env.ev x = some v) (hy : env.ev y = some (.int k i)) (hs' : SlOk v n) (h0 : 0 ≤ i) (hi : i < n) :
    QO P N env w0 rs ⟨dst, .indexAddr t x y, ty, pos, after, gd⟩ (.pointer (some (vAt v (i.toNat * sz)))) := qo_val fun a hs w _ => by
  obtain ⟨b, c, rfl, _, _, hb⟩ := hs'
  obtain ⟨b, rfl⟩ := Option.isSome_iff_exists.1 (hb (by omega))
  obtain ⟨j, hj, hsz, _⟩ := hT.info
  simp [execOp, hs.ev hx, hs.ev hy, Instr.indexAt, asIntOf, run_underlying hT.und, sizeOf, typeInfo, hj, hsz, vAt, hi, h0]
theorem q_idxM {t : TypeId} {e bb sz : Nat} {z : Value} [hT : Slc P t e sz bb z] {n i : Nat} {k : IntKind} (hx : env.ev x = some v) (hy : env.ev y = some (.int k (i : Int))) (hs' : SlOk v n) (hi : i < n) :
    QO P N env w0 rs ⟨dst, .indexAddr t x y, ty, pos, after, gd⟩ (.pointer (some (vAt v (i * sz)))) := by
  have h := q_idx (t := t) (P := P) (N := N) (w0 := w0) (rs := rs) (dst := dst) (ty := ty) (pos := pos) (after := after) (gd := gd) hx hy hs' (Int.natCast_nonneg i) (by omega)
  rwa [Int.toNat_natCast] at h
theorem q_call {f : FuncId} [hB : Body P f] {args : Array Operand} {ats : Array TypeId} {vs : List Value} (hcall : ∀ w, Mem w0 rs w → Ret P f vs w v) (hargs : args.toList.map env.ev = vs.map some) :
    QO P N env w0 rs ⟨dst, .call { callee := .value (.func f), args := args, argTypes := ats }, ty, pos, after, gd⟩ v := fun a hs w hm => by
  have hmap : args.map a.eval = vs.toArray := by
    have : ∀ (l : List Operand) (us : List Value), l.map env.ev = us.map some → l.map a.eval = us := by
      intro l
      induction l with
      | nil => intro us h; cases us <;> simp_all
      | cons o l ih =>
        intro us h
        cases us with
        | nil => simp at h
        | cons u us =>
          simp only [List.map_cons, List.cons.injEq] at h ⊢
          exact ⟨hs.ev h.1, ih us h.2⟩
    apply Array.toList_inj.1
    rw [Array.toList_map, this _ _ hargs]
  unfold Oper.quietAt
  have hrun : (execOp a.eval ⟨dst, .call { callee := .value (.func f), args := args, argTypes := ats }, ty, pos, after, gd⟩).run P w = .ok (.enter f vs.toArray) w := by
    simp [execOp, resolve, Deferred.ofValue, invoke, Act.eval, hmap, hB.run]
  rw [hrun]
  exact ⟨rfl, (hcall w hm).mono fun e w' h => ⟨h.1, hm.ext h.2.below⟩⟩

/-! arithmetic and tests on integers -/
section
variable {t t' : TypeId} {k : IntKind} {m n : Int}
theorem qo_bin {bop : BinOp} {u1 u2 r : Value} (hx : env.ev x = some u1) (hy : env.ev y = some u2) (hg : eqGuard bop t x y u1 u2 = pure ()) (hrun : ∀ w, (binOp bop t u1 u2).run P w = .ok r w) :
    QO P N env w0 rs ⟨dst, .binOp bop t x y t', ty, pos, after, gd⟩ r := qo_val fun a hs w _ => by
  have h1 := hs.ev hx
  have h2 := hs.ev hy
  simp [execOp, h1, h2, hg, hrun w]
theorem q_lss (hx : env.ev x = some (.int k m)) (hy : env.ev y = some (.int k n)) : QO P N env w0 rs ⟨dst, .binOp .lss t x y t', ty, pos, after, gd⟩ (.bool (decide (m < n))) :=
  qo_bin hx hy (by simp [go_sem]) fun w => by simp [go_sem]
theorem q_leq (hx : env.ev x = some (.int k m)) (hy : env.ev y = some (.int k n)) : QO P N env w0 rs ⟨dst, .binOp .leq t x y t', ty, pos, after, gd⟩ (.bool (decide (m ≤ n))) :=
  qo_bin hx hy (by simp [go_sem]) fun w => by simp [go_sem]
theorem q_gtr (hx : env.ev x = some (.int k m)) (hy : env.ev y = some (.int k n)) : QO P N env w0 rs ⟨dst, .binOp .gtr t x y t', ty, pos, after, gd⟩ (.bool (decide (n < m))) :=
  qo_bin hx hy (by simp [go_sem]) fun w => by simp [go_sem]
theorem q_geq (hx : env.ev x = some (.int k m)) (hy : env.ev y = some (.int k n)) : QO P N env w0 rs ⟨dst, .binOp .geq t x y t', ty, pos, after, gd⟩ (.bool (decide (n ≤ m))) :=
  qo_bin hx hy (by simp [go_sem]) fun w => by simp [go_sem]
theorem q_eql (hx : env.ev x = some (.int k m)) (hy : env.ev y = some (.int k n)) : QO P N env w0 rs ⟨dst, .binOp .eql t x y t', ty, pos, after, gd⟩ (.bool (decide (m = n))) :=
  qo_bin hx hy (by simp [go_sem]) fun w => by rw [binOp_eql, show (m == n) = decide (m = n) from rfl]; rfl
theorem q_neq (hx : env.ev x = some (.int k m)) (hy : env.ev y = some (.int k n)) : QO P N env w0 rs ⟨dst, .binOp .neq t x y t', ty, pos, after, gd⟩ (.bool (decide (m ≠ n))) :=
  qo_bin hx hy (by simp [go_sem]) fun w => by rw [binOp_neq, show (m != n) = decide (m ≠ n) by rw [bne, show (m == n) = decide (m = n) from rfl, ← decide_not]]; rfl
theorem run_equalB {t : TypeId} [hT : BoolT P t] (a b : Bool) (w : World) : (Op.equal t (.bool a) (.bool b)).run P w = .ok (a == b) w := by
  have h : ∀ d : Nat, (Op.equalIn (d + 1) t (.bool a) (.bool b)).run P w = .ok (a == b) w := fun d => by simp [Op.equalIn, run_underlying hT.und]
  simp [Op.equal, Op.maxDepth, h 9999]
theorem q_eqlB {a b : Bool} [hT : BoolT P t] (hx : env.ev x = some (.bool a)) (hy : env.ev y = some (.bool b)) : QO P N env w0 rs ⟨dst, .binOp .eql t x y t', ty, pos, after, gd⟩ (.bool (decide (a = b))) :=
  qo_bin hx hy (by simp [go_sem]) fun w => by
    have h := run_equalB (P := P) (t := t) a b w
    cases a <;> cases b <;> simp [binOp, h]
theorem q_neqB {a b : Bool} [hT : BoolT P t] (hx : env.ev x = some (.bool a)) (hy : env.ev y = some (.bool b)) : QO P N env w0 rs ⟨dst, .binOp .neq t x y t', ty, pos, after, gd⟩ (.bool (decide (a ≠ b))) :=
  qo_bin hx hy (by simp [go_sem]) fun w => by
    have h := run_equalB (P := P) (t := t) a b w
    cases a <;> cases b <;> simp [binOp, h]
theorem q_eqlS {a b : ByteArray} (hx : env.ev x = some (.string a)) (hy : env.ev y = some (.string b)) : QO P N env w0 rs ⟨dst, .binOp .eql t x y t', ty, pos, after, gd⟩ (.bool (decide (a.toList = b.toList))) :=
  qo_bin hx hy (by simp [go_sem]) fun w => by
    have h : (a.toList == b.toList) = decide (a.toList = b.toList) := by by_cases h : a.toList = b.toList <;> simp [h]
    simp [binOp, Op.stringOp, h]
theorem q_neqS {a b : ByteArray} (hx : env.ev x = some (.string a)) (hy : env.ev y = some (.string b)) : QO P N env w0 rs ⟨dst, .binOp .neq t x y t', ty, pos, after, gd⟩ (.bool (decide (a.toList ≠ b.toList))) :=
  qo_bin hx hy (by simp [go_sem]) fun w => by
    have h : (a.toList == b.toList) = decide (a.toList = b.toList) := by by_cases h : a.toList = b.toList <;> simp [h]
    simp [binOp, Op.stringOp, h]
theorem q_add (hx : env.ev x = some (.int .i64 m)) (hy : env.ev y = some (.int .i64 n)) (hr : -9223372036854775808 ≤ m + n ∧ m + n ≤ 9223372036854775807) :
    QO P N env w0 rs ⟨dst, .binOp .add t x y t', ty, pos, after, gd⟩ (.int .i64 (m + n)) :=
  qo_bin hx hy (by simp [go_sem]) fun w => by simp [go_sem, IntWalk.i64_in _ hr]
theorem q_sub (hx : env.ev x = some (.int .i64 m)) (hy : env.ev y = some (.int .i64 n)) (hr : -9223372036854775808 ≤ m - n ∧ m - n ≤ 9223372036854775807) :
    QO P N env w0 rs ⟨dst, .binOp .sub t x y t', ty, pos, after, gd⟩ (.int .i64 (m - n)) :=
  qo_bin hx hy (by simp [go_sem]) fun w => by simp [go_sem, IntWalk.i64_in _ hr]
theorem q_mul (hx : env.ev x = some (.int .i64 m)) (hy : env.ev y = some (.int .i64 n)) (hr : -9223372036854775808 ≤ m * n ∧ m * n ≤ 9223372036854775807) :
    QO P N env w0 rs ⟨dst, .binOp .mul t x y t', ty, pos, after, gd⟩ (.int .i64 (m * n)) :=
  qo_bin hx hy (by simp [go_sem]) fun w => by simp [go_sem, IntWalk.i64_in _ hr]
theorem q_quo (hx : env.ev x = some (.int .i64 m)) (hy : env.ev y = some (.int .i64 n)) (hm : 0 ≤ m ∧ m ≤ 9223372036854775807) (hn : 1 ≤ n) :
    QO P N env w0 rs ⟨dst, .binOp .quo t x y t', ty, pos, after, gd⟩ (.int .i64 (m / n)) :=
  qo_bin hx hy (by simp [go_sem]) fun w => by
    have h1 : 0 ≤ m / n := Int.ediv_nonneg hm.1 (by omega)
    have h2 : m / n ≤ m := Int.ediv_le_self n hm.1
    have h3 : m.tdiv n = m / n := Int.tdiv_eq_ediv_of_nonneg hm.1
    have h0 : n ≠ 0 := by omega
    have hw : IntKind.i64.wrap (m / n) = m / n := IntWalk.i64_in _ (by omega)
    simp [go_sem, h0, h3, hw]
theorem q_rem (hx : env.ev x = some (.int .i64 m)) (hy : env.ev y = some (.int .i64 n)) (hm : 0 ≤ m ∧ m ≤ 9223372036854775807) (hn : 1 ≤ n) :
    QO P N env w0 rs ⟨dst, .binOp .rem t x y t', ty, pos, after, gd⟩ (.int .i64 (m % n)) :=
  qo_bin hx hy (by simp [go_sem]) fun w => by
    have h1 : 0 ≤ m % n := Int.emod_nonneg m (by omega)
    have h2 : m % n < n := Int.emod_lt_of_pos m (by omega)
    have h4 : m / n * n + m % n = m := Int.ediv_mul_add_emod m n
    have h5 : 0 ≤ m / n := Int.ediv_nonneg hm.1 (by omega)
    have h6 : 0 ≤ m / n * n := Int.mul_nonneg h5 (by omega)
    have h3 : m.tmod n = m % n := Int.tmod_eq_emod_of_nonneg hm.1
    have h0 : n ≠ 0 := by omega
    simp [go_sem, h0, h3]
end
end

/-! ### Entry, return, loops -/

/-- The frame at the entry of a call. -/
def envOf : Nat → List Value → Env
  | _, [] => []
  | n, v :: vs => (n, v) :: envOf (n + 1) vs

theorem envOf_at : ∀ (vs : List Value) (k n : Nat) (v : Value), (envOf k vs).at n = some v → k ≤ n ∧ vs[n - k]? = some v
  | [], k, n, v, h => by cases h
  | u :: vs, k, n, v, h => by
    simp only [envOf, Env.at] at h
    split at h
    · rename_i e; subst e; cases h; simp
    · have ⟨h1, h2⟩ := envOf_at vs (k + 1) n v h
      refine ⟨by omega, ?_⟩
      rw [show n - k = (n - (k + 1)) + 1 by omega]
      simpa using h2

section
variable {P : Program} {N : Nat} {env : Env} {w0 : World} {rs : List Res} {Q : Exit → Act → World → Prop}

theorem calls_hw {f : FuncId} {fn : Func} {c : Code} {vs : List Value} {w : World} {R : Ending → World → Prop} (hf : P.funcs[f]? = some fn) (hN : fn.ntmps = N) (hb : fn.body = some c) (hn : Nat.ble vs.length N = true)
    (h : HW P N (envOf 0 vs) w [] c (bodyPost P fn R)) : Calls P f vs.toArray w R := by
  have hn' := Nat.le_of_ble_eq_true hn
  subst hN
  refine calls_of_wp hf hb (h _ w ⟨?_, rfl, fun n v hv => ?_⟩ (Mem.refl w))
  · simp; omega
  · obtain ⟨_, h2⟩ := envOf_at vs 0 n v hv
    have hlt := (List.getElem?_eq_some_iff.1 h2).1
    rw [Array.getElem?_append_left (by simpa using hlt)]
    simpa using h2

theorem hx_ret0 {fn : Func} {R : Ending → World → Prop} (hres : fn.results = #[]) (h : ∀ w, Mem w0 rs w → R (.returned (.tuple #[])) w) : HX N env w0 rs (bodyPost P fn R .ret) := fun a w hs hm =>
  bodyPost_ret (results_none hres _ _ _) hs.defs (h w hm)
theorem hx_end0 {fn : Func} {R : Ending → World → Prop} (hres : fn.results = #[]) (h : ∀ w, Mem w0 rs w → R (.returned (.tuple #[])) w) : HX N env w0 rs (bodyPost P fn R .normal) := fun a w hs hm =>
  bodyPost_end (results_none hres _ _ _) hs.defs (h w hm)
theorem Sat.slot {a : Act} {t : Nat} {v : Value} (h : Sat N env a) (ht : env.at t = some v) : a.tmps.getD t undef = v := by
  have := h.get t v ht
  simp [Array.getD_eq_getD_getElem?, this]
theorem hx_ret1 {fn : Func} {R : Ending → World → Prop} {t : Nat} {v : Value} (hres : fn.results = #[.tmp t]) (ht : env.at t = some v) (h : ∀ w, Mem w0 rs w → R (.returned v) w) : HX N env w0 rs (bodyPost P fn R .ret) := fun a w hs hm =>
  bodyPost_ret (v := v) (by rw [results_tmp hres, hs.slot ht]) hs.defs (h w hm)
theorem hx_ret2 {fn : Func} {R : Ending → World → Prop} {t t' : Nat} {v v' : Value} (hres : fn.results = #[.tmp t, .tmp t']) (ht : env.at t = some v) (ht' : env.at t' = some v')
    (h : ∀ w, Mem w0 rs w → R (.returned (.tuple #[v, v'])) w) : HX N env w0 rs (bodyPost P fn R .ret) := fun a w hs hm =>
  bodyPost_ret (v := .tuple #[v, v']) (by rw [results_tmp2 hres, hs.slot ht, hs.slot ht']) hs.defs (h w hm)
theorem hx_ret3 {fn : Func} {R : Ending → World → Prop} {t t' t'' : Nat} {v v' v'' : Value} (hres : fn.results = #[.tmp t, .tmp t', .tmp t'']) (ht : env.at t = some v) (ht' : env.at t' = some v') (ht'' : env.at t'' = some v'')
    (h : ∀ w, Mem w0 rs w → R (.returned (.tuple #[v, v', v''])) w) : HX N env w0 rs (bodyPost P fn R .ret) := fun a w hs hm =>
  bodyPost_ret (v := .tuple #[v, v', v'']) (by rw [results_tmp3 hres, hs.slot ht, hs.slot ht', hs.slot ht'']) hs.defs (h w hm)

/-- A loop: at each head the frame, the resources and the measure stand in the relation I. -/
theorem hw_loop {c : Code} (I : Env → List Res → Nat → Prop) {e0 : Env} {m0 : Nat} (h0 : I e0 rs m0) (hle : env.le e0)
    (round : ∀ e r m, I e r m → HW P N e w0 r c (Exit.then (fun a w => ∃ e' r' m', I e' r' m' ∧ m' < m ∧ Sat N e' a ∧ Mem w0 r' w) Q)) : HW P N env w0 rs (.loop c) Q := fun a w hs hm => by
  refine wp_loop_ghost (fun m a w => ∃ e r, I e r m ∧ Sat N e a ∧ Mem w0 r w) m0 ⟨e0, rs, h0, hs.mono hle, hm⟩ ?_
  intro m a w ⟨e, r, hI, hs', hm'⟩
  refine wp_mono (round e r m hI a w hs' hm') ?_
  intro ex a' w' hq
  cases ex with
  | normal =>
    obtain ⟨e', r', m', h1, h2, h3, h4⟩ := hq
    exact ⟨m', h2, e', r', h1, h3, h4⟩
  | _ => exact hq

/-- The end of a round. -/
theorem hx_round {I : Env → List Res → Nat → Prop} {m : Nat} {e' : Env} {m' : Nat} (hI : I e' rs m') (hlt : m' < m) (hle : env.le e') :
    HX N env w0 rs (Exit.then (fun a w => ∃ e' r' m', I e' r' m' ∧ m' < m ∧ Sat N e' a ∧ Mem w0 r' w) Q .normal) := fun _ _ hs hm => ⟨e', rs, m', hI, hlt, hs.mono hle, hm⟩
end

/-! ### Blocks of the call's own -/

/-- A block whose cells are known. -/
def rBlk (b : Nat) (cs : Array Value) (t : TypeId) : Res where
  foot := fun b' => b' = b
  holds := fun w => w.heap[b]? = some (.cells cs t (0, 0))
  bnd := fun w h b' hb => by subst hb; exact (Array.getElem?_eq_some_iff.1 h).1
  loc := fun w w' h hs => by rw [hs b rfl]; exact h

/-- A slice of n elements of k cells each, the call's own, whose cells are xs. -/
def rOwn (e k : Nat) (v : Value) (n : Nat) (xs : List Value) : Res where
  foot := fun b => v.ownBlock = some b
  holds := fun w => w.ownsRow 0 e k v n xs
  bnd := fun w h b hb => (h.lt b hb).2
  loc := fun w w' h hs => by
    refine ⟨h.1, ?_⟩
    rcases h.2 with hn | ⟨g, cap, cur, rfl, hb, hg, rest⟩
    · exact .inl hn
    · exact .inr ⟨g, cap, cur, rfl, hb, by rw [hs g rfl]; exact hg, rest⟩

theorem rOwn.slOk {w : World} {e k n : Nat} {v : Value} {xs : List Value} (h : (rOwn e k v n xs).holds w) : SlOk v n := by
  rcases h.2 with ⟨rfl, rfl⟩ | ⟨g, cap, cur, rfl, _, _, h1, h2, _⟩
  · exact ⟨none, 0, rfl, Nat.le_refl _, Nat.zero_le _, fun h => absurd rfl h⟩
  · exact ⟨_, cap, rfl, h1, h2, fun _ => rfl⟩
theorem rOwn.len {w : World} {e k n : Nat} {v : Value} {xs : List Value} (h : (rOwn e k v n xs).holds w) : xs.length = n * k := h.1
theorem vAt_own (g n c i : Nat) : vAt (.slice (some ⟨g, 0, none⟩) n c) i = ⟨g, i, none⟩ := by
  simp only [vAt, Addr.add]
  split
  · subst_vars; rfl
  · simp
theorem rOwn.cell {w : World} {e k n : Nat} {v : Value} {xs : List Value} (h : (rOwn e k v n xs).holds w) {i : Nat} {u : Value} (hi : xs[i]? = some u) : w.cell? (vAt v i) = some u := by
  have hlt := (List.getElem?_eq_some_iff.1 hi).1
  rcases h.2 with ⟨rfl, rfl⟩ | ⟨g, cap, cur, rfl, _, _, h1, h2, _⟩
  · have := h.1; omega
  · have h' : w.ownsRow 0 e k (.slice (some ⟨g, 0, none⟩) n cap) n xs := h
    rw [vAt_own, h'.cellAt i (by rw [← h.1]; exact hlt), hi]

section
variable {P : Program} {N : Nat} {env : Env} {w0 : World} {rs : List Res} {Q : Exit → Act → World → Prop}
variable {ops : Array Oper} {l : List Oper} {op : Op} {d : Nat} {ty : TypeId} {pos : String} {after : Array Edge} {x y : Operand} {u v : Value}

/-- What lies in the own resources. -/
theorem own_slOk {i : Nat} {e k n : Nat} {xs : List Value} (hi : rs[i]? = some (rOwn e k v n xs)) {w : World} (hm : Mem w0 rs w) : SlOk v n := rOwn.slOk (hm.holds i _ hi)
theorem ld_own (i : Nat) {e k n j : Nat} {xs : List Value} (hi : rs[i]? = some (rOwn e k v n xs)) (hj : xs[j]? = some u) : Ld w0 rs (vAt v j) u := fun w hm => rOwn.cell (hm.holds i _ hi) hj
theorem ld_blk (i : Nat) {b off : Nat} {cs : Array Value} {t : TypeId} (hi : rs[i]? = some (rBlk b cs t)) (hj : cs[off]? = some u) : Ld w0 rs ⟨b, off, none⟩ u := fun w hm => by
  have h : w.heap[b]? = some (.cells cs t (0, 0)) := hm.holds i _ hi
  rw [cell_of_row w b off cs t (0, 0) h]; exact hj

/-- An operation with an effect. -/
theorem hl_eff {Φ : Value → List Res → Prop} (hd : d < N)
    (hrun : ∀ a, Sat N env a → ∀ w, Mem w0 rs w → ∃ v w' rs', (execOp a.eval ⟨some d, op, ty, pos, after, none⟩).run P w = .ok (.value v) w' ∧ Mem w0 rs' w' ∧ Φ v rs')
    (k : ∀ v rs', Φ v rs' → HL P N ((d, v) :: env) w0 rs' ops Q l) : HL P N env w0 rs ops Q (⟨some d, op, ty, pos, after, none⟩ :: l) := fun a w hs hm =>
  wpList_plain rfl fun K hK => by
    obtain ⟨v, w', rs', hr, hm', hΦ⟩ := hrun a hs w hm
    unfold Oper.wp
    rw [hr]
    exact hK _ _ (k v rs' hΦ _ _ (hs.put v hd) hm')

theorem eff_skip {rs' : List Res} (hrun : ∀ a, Sat N env a → ∀ w, Mem w0 rs w → ∃ w', (execOp a.eval ⟨none, op, ty, pos, after, none⟩).run P w = .ok .skip w' ∧ Mem w0 rs' w')
    (k : HL P N env w0 rs' ops Q l) : HL P N env w0 rs ops Q (⟨none, op, ty, pos, after, none⟩ :: l) := fun a w hs hm =>
  wpList_plain rfl fun K hK => by
    obtain ⟨w', hr, hm'⟩ := hrun a hs w hm
    unfold Oper.wp
    rw [hr]
    exact hK _ _ (k _ _ hs hm')

theorem args_eval {a : Act} (hs : Sat N env a) {args : Array Operand} {vs : List Value} (hargs : args.toList.map env.ev = vs.map some) : args.map a.eval = vs.toArray := by
  have : ∀ (l : List Operand) (us : List Value), l.map env.ev = us.map some → l.map a.eval = us := by
    intro l
    induction l with
    | nil => intro us h; cases us <;> simp_all
    | cons o l ih =>
      intro us h
      cases us with
      | nil => simp at h
      | cons u us =>
        simp only [List.map_cons, List.cons.injEq] at h ⊢
        exact ⟨hs.ev h.1, ih us h.2⟩
  apply Array.toList_inj.1
  rw [Array.toList_map, this _ _ hargs]

theorem hl_call {f : FuncId} [hB : Body P f] {args : Array Operand} {ats : Array TypeId} {vs : List Value} {Φ : Value → List Res → Prop} (hd : d < N)
    (hcall : ∀ w, Mem w0 rs w → Gives P f vs w Φ) (hargs : args.toList.map env.ev = vs.map some) (k : ∀ v rs', Φ v rs' → HL P N ((d, v) :: env) w0 (rs ++ rs') ops Q l) :
    HL P N env w0 rs ops Q (⟨some d, .call { callee := .value (.func f), args := args, argTypes := ats }, ty, pos, after, none⟩ :: l) := fun a w hs hm =>
  wpList_plain rfl fun K hK => by
    have hmap := args_eval hs hargs
    unfold Oper.wp
    have hrun : (execOp a.eval ⟨some d, .call { callee := .value (.func f), args := args, argTypes := ats }, ty, pos, after, none⟩).run P w = .ok (.enter f vs.toArray) w := by
      simp [execOp, resolve, Deferred.ofValue, invoke, Act.eval, hmap, hB.run]
    rw [hrun]
    refine (hcall w hm).mono ?_
    rintro e w' ⟨v, rs', rfl, hm', hΦ⟩
    exact hK _ _ (k v rs' hΦ _ _ (hs.put v hd) (hm.comp hm'))

/-- A call through a function value. -/
theorem hl_callv {t : Nat} {f : FuncId} [hB : Body P f] {args : Array Operand} {ats : Array TypeId} {vs : List Value} {fs cs : Array Value} {Φ : Value → List Res → Prop} (ht : env.at t = some (.func (.func f) fs cs)) (hd : d < N)
    (hargs : args.toList.map env.ev = vs.map some) (hcall : ∀ w, Mem w0 rs w → Gives P f (fs.toList ++ vs ++ cs.toList) w Φ) (k : ∀ v rs', Φ v rs' → HL P N ((d, v) :: env) w0 (rs ++ rs') ops Q l) :
    HL P N env w0 rs ops Q (⟨some d, .call { callee := .value (.tmp t), args := args, argTypes := ats }, ty, pos, after, none⟩ :: l) := fun a w hs hm =>
  wpList_plain rfl fun K hK => by
    have hmap := args_eval hs hargs
    have h1 : a.eval (.tmp t) = .func (.func f) fs cs := hs.ev ht
    unfold Oper.wp
    have hrun : (execOp a.eval ⟨some d, .call { callee := .value (.tmp t), args := args, argTypes := ats }, ty, pos, after, none⟩).run P w = .ok (.enter f (fs ++ vs.toArray ++ cs)) w := by
      simp [execOp, resolve, Deferred.ofValue, invoke, h1, hmap, hB.run]
    rw [hrun]
    have he : fs ++ vs.toArray ++ cs = (fs.toList ++ vs ++ cs.toList).toArray := by simp
    rw [he]
    refine (hcall w hm).mono ?_
    rintro e w' ⟨v, rs', rfl, hm', hΦ⟩
    exact hK _ _ (k v rs' hΦ _ _ (hs.put v hd) (hm.comp hm'))
theorem q_callv {dst : Option Nat} {gd : Option (Nat × Bool)} {t : Nat} {f : FuncId} [hB : Body P f] {args : Array Operand} {ats : Array TypeId} {vs : List Value} {fs cs : Array Value} (ht : env.at t = some (.func (.func f) fs cs))
    (hargs : args.toList.map env.ev = vs.map some) (hcall : ∀ w, Mem w0 rs w → Ret P f (fs.toList ++ vs ++ cs.toList) w v) :
    QO P N env w0 rs ⟨dst, .call { callee := .value (.tmp t), args := args, argTypes := ats }, ty, pos, after, gd⟩ v := fun a hs w hm => by
  have hmap := args_eval hs hargs
  have h1 : a.eval (.tmp t) = .func (.func f) fs cs := hs.ev ht
  unfold Oper.quietAt
  have hrun : (execOp a.eval ⟨dst, .call { callee := .value (.tmp t), args := args, argTypes := ats }, ty, pos, after, gd⟩).run P w = .ok (.enter f (fs ++ vs.toArray ++ cs)) w := by
    simp [execOp, resolve, Deferred.ofValue, invoke, h1, hmap, hB.run]
  have he : fs ++ vs.toArray ++ cs = (fs.toList ++ vs ++ cs.toList).toArray := by simp
  rw [hrun, he]
  exact ⟨rfl, (hcall w hm).mono fun e w' h => ⟨h.1, hm.ext h.2.below⟩⟩

/-! new blocks -/
theorem below_alloc (w : World) (o : Obj) : Below w.heap.size w (w.alloc o) := (Below.refl _ _).alloc (Nat.le_refl _) o

theorem hl_box {t : TypeId} (hd : d < N) (hx : env.ev x = some v) (k : ∀ b, HL P N ((d, .pointer (some ⟨b, 0, none⟩)) :: env) w0 (rs ++ [rBlk b v.cells t]) ops Q l) :
    HL P N env w0 rs ops Q (⟨some d, .box t x, ty, pos, after, none⟩ :: l) :=
  hl_eff (Φ := fun v' rs' => ∃ b, v' = .pointer (some ⟨b, 0, none⟩) ∧ rs' = rs ++ [rBlk b v.cells t]) hd
    (fun a hs w hm => ⟨_, _, _, by simp [execOp, hs.ev hx, Instr.box, newVar, newRow],
      hm.add (r := rBlk w.heap.size v.cells t) (below_alloc w _) (heap_alloc_new w _) (fun b hb => by cases hb; exact Nat.le_refl _), _, rfl, rfl⟩)
    (by rintro _ _ ⟨b, rfl, rfl⟩; exact k b)
theorem hl_alloc {t : TypeId} {z : Value} [hZ : Zero P t z] (hd : d < N) (k : ∀ b, HL P N ((d, .pointer (some ⟨b, 0, none⟩)) :: env) w0 (rs ++ [rBlk b z.cells t]) ops Q l) :
    HL P N env w0 rs ops Q (⟨some d, .alloc t, ty, pos, after, none⟩ :: l) :=
  hl_eff (Φ := fun v' rs' => ∃ b, v' = .pointer (some ⟨b, 0, none⟩) ∧ rs' = rs ++ [rBlk b z.cells t]) hd
    (fun a hs w hm => ⟨_, _, _, by simp [execOp, Instr.alloc, hZ.run w, newVar, newRow],
      hm.add (r := rBlk w.heap.size z.cells t) (below_alloc w _) (heap_alloc_new w _) (fun b hb => by cases hb; exact Nat.le_refl _), _, rfl, rfl⟩)
    (by rintro _ _ ⟨b, rfl, rfl⟩; exact k b)
theorem hl_make {t : TypeId} {e sz bb n : Nat} {z : Value} [hT : Slc P t e sz bb z] {kl kc : IntKind} (hd : d < N) (hx : env.ev x = some (.int kl (n : Int))) (hy : env.ev y = some (.int kc (n : Int))) (hb : bb * n ≤ 281474976710656) (hn : n ≤ maxLen)
    (k : ∀ v, SlOk v n → HL P N ((d, v) :: env) w0 (rs ++ [rOwn e sz v n (madeCells z.cells (n * sz)).toList]) ops Q l) :
    HL P N env w0 rs ops Q (⟨some d, .makeSlice t x y, ty, pos, after, none⟩ :: l) :=
  hl_eff (Φ := fun v rs' => SlOk v n ∧ rs' = rs ++ [rOwn e sz v n (madeCells z.cells (n * sz)).toList]) hd
    (fun a hs w hm => by
      obtain ⟨j, hj, hsz, hbb, hz⟩ := hT.info
      obtain ⟨w', hr, hown, hg⟩ := run_make_full (P := P) w 0 t e j z sz hT.und hj hz hsz kl kc n (by rw [hbb]; exact hb) hn (Nat.zero_le _)
      exact ⟨_, w', _, by simp [execOp, hs.ev hx, hs.ev hy, hr], hm.add (r := rOwn e sz _ n _) ((Below.refl _ _).grown hg (Nat.le_refl _) (fun k hk => by cases hk)) hown
        (fun b hb => by simp [rOwn, Value.ownBlock] at hb; omega), ⟨_, n, rfl, Nat.le_refl _, hn, fun _ => rfl⟩, rfl⟩)
    (by rintro v _ ⟨h1, rfl⟩; exact k v h1)
theorem toList_madeCells1 (z : Value) (hz : z.cells = #[z]) (n : Nat) : (madeCells z.cells (n * 1)).toList = List.replicate n z := by rw [hz, Nat.mul_one]; exact toList_madeCells_one z n

/-- Where append's result lies: in the old block, or in a new one. -/
theorem append_block {P : Program} {w : World} {t ty e : TypeId} {i : TypeInfo} {z : Value} (ht : P.underlying t = some (.slice e)) (hi : P.info? e = some i) (hz : i.zero = some z)
    {v : Value} {n : Nat} {xs : List Value} (hown : w.ownsRow 0 e i.size v n xs) {a : Addr} {m c : Nat} {news : List Value} (hl : news.length = m * i.size)
    (hnews : ∀ j u, news[j]? = some u → w.cell? (a.add j) = some u) (h1 : ∀ u ∈ news, u.oneCell' = true) (h63 : n + m ≤ maxLen) (hbytes : (n + m) * i.bytes ≤ 140737488355328)
    {v' : Value} {w' : World} (hr : (Builtin.append_ #[t, t] ty #[v, .slice (some a) m c]).run P w = .ok v' w') {b : Nat} (hb : v'.ownBlock = some b) (hlt : b < w.heap.size) : v.ownBlock = some b := by
  have hsmall : n + m ≤ 9223372036854775807 := by simp only [maxLen] at h63; omega
  rcases hown.2 with ⟨rfl, rfl⟩ | ⟨g, cap, cur, rfl, hbg, hg, hnc, hcm, hcs, htake⟩
  · by_cases hm : m = 0
    · subst hm
      have hn : news = [] := List.eq_nil_of_length_eq_zero (by simpa using hl)
      subst hn
      have h2 : (Builtin.append_ #[t, t] ty #[.slice none 0 0, .slice (some a) 0 c]).run P w = .ok (.slice none 0 0) w := by
        simp [Builtin.append_, run_underlying ht, sizeOf, typeInfo, hi, Builtin.lenOf, Builtin.firstCells, loadCells, loadCellsFrom]
      rw [h2] at hr; cases hr; exact hb
    · have h2 := run_append_nil (P := P) w t ty e i z ht hi hz a m c news hl hnews (by omega) (by omega) (by have hb := hbytes; simp only [Nat.zero_add] at hb; omega)
      rw [h2] at hr; cases hr; simp [Value.ownBlock] at hb; omega
  · by_cases hroom : n + m ≤ cap
    · have hfit : n * i.size + news.length ≤ cur.size := by rw [hl, hcs, ← Nat.add_mul]; exact Nat.mul_le_mul_right _ hroom
      have h2 := run_append_room (P := P) w t ty e i ht hi g n cap cur hg a m c news hl hnews h1 hroom hfit
      rw [h2] at hr; cases hr; exact hb
    · have holds : ∀ j u, xs[j]? = some u → w.cell? ((⟨g, 0, none⟩ : Addr).add j) = some u := hown.cells (g := g) rfl
      have h2 := run_append_grow (P := P) w t ty e i z ht hi hz ⟨g, 0, none⟩ n cap xs hown.1 holds a m c news hl hnews (by omega) (by omega) (growslice_fits (by omega) hbytes)
      rw [h2] at hr; cases hr; simp [Value.ownBlock] at hb; omega

/-- append of a run of cells that are known. -/
theorem hl_append {t : TypeId} {e sz bb n m c : Nat} {z : Value} [hT : Slc P t e sz bb z] {xs news : List Value} {ad : Addr} (i : Nat) (hi : rs[i]? = some (rOwn e sz v n xs)) (hd : d < N)
    (hx : env.ev x = some v) (hy : env.ev y = some (.slice (some ad) m c)) (hl : news.length = m * sz) (hnews : ∀ j u, news[j]? = some u → Ld w0 rs (ad.add j) u) (h1 : ∀ u ∈ news, u.oneCell' = true) (hsz0 : 0 < sz)
    (h63 : n + m ≤ maxLen) (hb0 : (n + m) * bb ≤ 140737488355328) (k : ∀ v', SlOk v' (n + m) → HL P N ((d, v') :: env) w0 (rs.set i (rOwn e sz v' (n + m) (xs ++ news))) ops Q l) :
    HL P N env w0 rs ops Q (⟨some d, .call { callee := .builtin .append, args := #[x, y], argTypes := #[t, t] }, ty, pos, after, none⟩ :: l) :=
  hl_eff (Φ := fun v' rs' => SlOk v' (n + m) ∧ rs' = rs.set i (rOwn e sz v' (n + m) (xs ++ news))) hd
    (fun a hs w hm => by
      obtain ⟨j, hj, hsz, hbb, hz⟩ := hT.info
      have hown : w.ownsRow 0 e sz v n xs := hm.holds i _ hi
      obtain ⟨v', w', hr, hown', hg, _⟩ := run_append_own (P := P) w 0 t ty e j z sz bb hT.und hj hz hsz hbb hT.zs hsz0 v n xs hown ad m c news hl (fun j' u hu => hnews j' u hu w hm) h1 h63 hb0 (Nat.zero_le _)
      refine ⟨v', w', _, by simp [execOp, resolve, invoke, builtin, hs.ev hx, hs.ev hy, hr], hm.upd (r' := rOwn e sz v' (n + m) (xs ++ news)) hi hg.os hg.tape hg.output hg.size (fun b hb hnf => hg.block b hb (fun e' => hnf e'.symm)) hown' (fun b hb => ?_), rOwn.slOk hown', rfl⟩
      have hvb : v'.ownBlock = some b := hb
      by_cases hlt : b < w.heap.size
      · left
        subst hsz; subst hbb
        exact append_block hT.und hj hz hown hl (fun j' u hu => hnews j' u hu w hm) h1 h63 hb0 hr hvb hlt
      · right; omega)
    (by rintro v' _ ⟨h1, rfl⟩; exact k v' h1)

/-- '[]T{x}' and the like: a slice of k one-cell values, whole. -/
theorem hl_build1 {t : TypeId} {e bb : Nat} {z : Value} [hT : Slc P t e 1 bb z] (hd : d < N) (hx : env.ev x = some u) (hu : u.oneCell' = true) (hzc : z.cells = #[z])
    (k : ∀ b, HL P N ((d, .slice (some ⟨b, 0, none⟩) 1 1) :: env) w0 (rs ++ [rOwn e 1 (.slice (some ⟨b, 0, none⟩) 1 1) 1 [u]]) ops Q l) :
    HL P N env w0 rs ops Q (⟨some d, .buildSlice t 1 #[(0, x)], ty, pos, after, none⟩ :: l) :=
  hl_eff (Φ := fun v' rs' => ∃ b, v' = .slice (some ⟨b, 0, none⟩) 1 1 ∧ rs' = rs ++ [rOwn e 1 (.slice (some ⟨b, 0, none⟩) 1 1) 1 [u]]) hd
    (fun a hs w hm => by
      obtain ⟨j, hj, hsz, _, hz⟩ := hT.info
      have hc : u.cells = #[u] := by cases u <;> first | rfl | cases hu
      have hf : Instr.fill (fun i => some (i * 1, 1)) (#[z] : Array Value) [(0, u)] = some #[u] := by
        simp [Instr.fill, hc]
      have hr : (execOp a.eval ⟨some d, .buildSlice t 1 #[(0, x)], ty, pos, after, none⟩).run P w = .ok (.value (.slice (some ⟨w.heap.size, 0, none⟩) 1 1)) (w.alloc (.cells #[u] e)) := by
        simp [execOp, hs.ev hx, Instr.buildSlice, run_underlying hT.und, sizeOf, typeInfo, hj, hsz, zeroValue, hz, hzc, newRow, Array.range_succ, Array.range_zero']
        simp [Instr.fill, hc]
      refine ⟨_, _, _, hr, hm.add (r := rOwn e 1 (.slice (some ⟨w.heap.size, 0, none⟩) 1 1) 1 [u]) (below_alloc w _) ?_ (fun b hb => by simp [rOwn, Value.ownBlock] at hb; omega), _, rfl, rfl⟩
      have := World.ownsRow_lit (base := 0) (e := e) (size := 1) w #[u] 1 (Nat.zero_le _) (by decide) rfl
      simpa [rOwn] using this)
    (by rintro _ _ ⟨b, rfl, rfl⟩; exact k b)
/-- '[]T{}'. -/
theorem hl_build0 {t : TypeId} {e sz bb : Nat} {z : Value} [hT : Slc P t e sz bb z] (hd : d < N)
    (k : ∀ b, HL P N ((d, .slice (some ⟨b, 0, none⟩) 0 0) :: env) w0 (rs ++ [rOwn e sz (.slice (some ⟨b, 0, none⟩) 0 0) 0 []]) ops Q l) :
    HL P N env w0 rs ops Q (⟨some d, .buildSlice t 0 #[], ty, pos, after, none⟩ :: l) :=
  hl_eff (Φ := fun v' rs' => ∃ b, v' = .slice (some ⟨b, 0, none⟩) 0 0 ∧ rs' = rs ++ [rOwn e sz (.slice (some ⟨b, 0, none⟩) 0 0) 0 []]) hd
    (fun a hs w hm => by
      obtain ⟨j, hj, _, _, hz⟩ := hT.info
      have hr : (execOp a.eval ⟨some d, .buildSlice t 0 #[], ty, pos, after, none⟩).run P w = .ok (.value (.slice (some ⟨w.heap.size, 0, none⟩) 0 0)) (w.alloc (.cells #[] e)) := by
        simp [execOp, Instr.buildSlice, run_underlying hT.und, sizeOf, typeInfo, hj, newRow, Array.range_zero', Instr.fill]
      refine ⟨_, _, _, hr, hm.add (r := rOwn e sz (.slice (some ⟨w.heap.size, 0, none⟩) 0 0) 0 []) (below_alloc w _) ?_ (fun b hb => by simp [rOwn, Value.ownBlock] at hb; omega), _, rfl, rfl⟩
      have := World.ownsRow_lit (base := 0) (e := e) (size := sz) w #[] 0 (Nat.zero_le _) (Nat.zero_le _) (by simp)
      simpa [rOwn] using this)
    (by rintro _ _ ⟨b, rfl, rfl⟩; exact k b)

/-- 'append(s, x)', one value of one cell: the two operations that it is. -/
theorem hl_push {t d' : Nat} {e bb n : Nat} {z : Value} [hT : Slc P t e 1 bb z] {xs : List Value} {ty' : TypeId} {pos' : String} {after' : Array Edge} (i : Nat) (hi : rs[i]? = some (rOwn e 1 v n xs)) (hd : d < N) (hd' : d' < N)
    (hx : env.ev x = some u) (hu : u.oneCell' = true) (hzc : z.cells = #[z]) (hy : ∀ b, Env.ev ((d, .slice (some ⟨b, 0, none⟩) 1 1) :: env) y = some v) (hn : n < 1099511627776) (hbb : bb ≤ 64)
    (k : ∀ v' b, SlOk v' (n + 1) → HL P N ((d', v') :: (d, .slice (some ⟨b, 0, none⟩) 1 1) :: env) w0 (rs.set i (rOwn e 1 v' (n + 1) (xs ++ [u]))) ops Q l) :
    HL P N env w0 rs ops Q (⟨some d, .buildSlice t 1 #[(0, x)], ty, pos, after, none⟩ :: ⟨some d', .call { callee := .builtin .append, args := #[y, .tmp d], argTypes := #[t, t] }, ty', pos', after', none⟩ :: l) := by
  refine hl_build1 hd hx hu hzc (fun b => ?_)
  have hlen : i < rs.length := (List.getElem?_eq_some_iff.1 hi).1
  refine hl_append (m := 1) (c := 1) (news := [u]) (ad := ⟨b, 0, none⟩) i (by rw [List.getElem?_append_left hlen]; exact hi) hd' (hy b) (by simp [Env.ev, Env.at]) rfl ?_ (by simpa using hu) (by decide) (by unfold maxLen; omega) ?_ (fun v' hv' => ?_)
  · intro j w hw
    cases j with
    | zero =>
      simp at hw; subst hw
      have h0 : (⟨b, 0, none⟩ : Addr).add 0 = vAt (.slice (some ⟨b, 0, none⟩) 1 1) 0 := by rw [vAt_own]; rfl
      rw [h0]
      exact ld_own (e := e) (k := 1) (n := 1) (xs := [u]) rs.length (by simp) rfl
    | succ j => simp at hw
  · have := Nat.mul_le_mul (show n + 1 ≤ 1099511627776 by omega) hbb
    omega
  · rw [List.set_append_left _ _ hlen]
    intro a w hs hm
    refine k v' b hv' a w hs (hm.weaken id _ (fun _ _ e _ _ => e) (fun j r hj => ?_))
    have h2 := (List.getElem?_eq_some_iff.1 hj).1
    show (rs.set i _ ++ _)[j]? = _
    rw [List.getElem?_append_left h2]; exact hj

/-! stores -/
theorem hl_storeO {t : TypeId} [hT : One P t] {e n i : Nat} {xs : List Value} (j : Nat) (hj : rs[j]? = some (rOwn e 1 v n xs)) (hx : env.ev x = some (.pointer (some (vAt v i)))) (hi : i < n) (hy : env.ev y = some u) (hu : u.oneCell' = true)
    (k : HL P N env w0 (rs.set j (rOwn e 1 v n (xs.set i u))) ops Q l) : HL P N env w0 rs ops Q (⟨none, .store t x y, ty, pos, after, none⟩ :: l) :=
  eff_skip (fun a hs w hm => by
    have hown : w.ownsRow 0 e 1 v n xs := hm.holds j _ hj
    rcases hown.2 with ⟨rfl, rfl⟩ | ⟨g, cap, cur, rfl, _, hg, h1, h2, _⟩
    · omega
    · obtain ⟨h3, h4⟩ := hown.stored i u
      have hlen := hown.1
      have hi' : i < xs.length := by omega
      have hcell : w.cell? ⟨g, i, none⟩ = some xs[i] := by rw [hown.cellAt i (by omega)]; simp [hi']
      have hfr := hown.frozenAt i
      have hc : u.cells = #[u] := by cases u <;> first | rfl | cases hu
      obtain ⟨inf, hinf, hisz⟩ := hT.size
      rw [vAt_own] at hx
      refine ⟨_, ?_, hm.upd (r' := rOwn e 1 (.slice (some ⟨g, 0, none⟩) n cap) n (xs.set i u)) hj h4.os h4.tape h4.output h4.size (fun b hb hnf => h4.block b hb (fun e' => hnf (by cases e'; rfl))) h3 (fun b hb => .inl hb)⟩
      simp [execOp, hs.ev hx, hs.ev hy, Instr.storeAt, Instr.sureAddr, storeVar, hc, sizeOf, typeInfo, hinf, hisz, storeCells, Addr.add, run_store P w _ u _ hu, hcell, hfr]) k
theorem hl_storeB {t tb : TypeId} [hT : One P t] {b off : Nat} {cs : Array Value} (j : Nat) (hj : rs[j]? = some (rBlk b cs tb)) {p : Addr} (hx : env.ev x = some (.pointer (some p))) (hp : p = ⟨b, off, none⟩) (hoff' : Nat.ble (off + 1) cs.size = true)
    (hy : env.ev y = some u) (hu : u.oneCell' = true) (k : HL P N env w0 (rs.set j (rBlk b (cs.setIfInBounds off u) tb)) ops Q l) : HL P N env w0 rs ops Q (⟨none, .store t x y, ty, pos, after, none⟩ :: l) :=
  eff_skip (fun a hs w hm => by
    subst hp
    have hoff : off < cs.size := Nat.le_of_ble_eq_true hoff'
    have hb : w.heap[b]? = some (.cells cs tb (0, 0)) := hm.holds j _ hj
    have hc : u.cells = #[u] := by cases u <;> first | rfl | cases hu
    obtain ⟨inf, hinf, hisz⟩ := hT.size
    have hcell : w.cell? ⟨b, off, none⟩ = some cs[off] := by rw [cell_of_row w b off cs tb (0, 0) hb]; simp [hoff]
    have hfr : w.frozen? ⟨b, off, none⟩ = false := frozen_of_row w b off cs tb hb
    refine ⟨w.setCell ⟨b, off, none⟩ u, ?_, hm.upd (r' := rBlk b (cs.setIfInBounds off u) tb) hj rfl rfl rfl (by simp) (fun b' _ hnf => heap_setCell_other w ⟨b, off, none⟩ b' u (fun e' => hnf e'))
      (heap_setCell_same w b off cs tb u hb) (fun b' hb' => .inl hb')⟩
    simp [execOp, hs.ev hx, hs.ev hy, Instr.storeAt, Instr.sureAddr, storeVar, hc, sizeOf, typeInfo, hinf, hisz, storeCells, Addr.add, run_store P w _ u _ hu, hcell, hfr]) k
end

/-! ### Turning resources round -/
section
variable {P : Program} {N : Nat} {env : Env} {w0 : World} {rs rs' : List Res} {Q : Exit → Act → World → Prop} {ops : Array Oper} {l : List Oper} {c : Code} {φ : Act → World → Prop}
theorem hx_fact {p : Prop} (h : ∀ w, Mem w0 rs w → p) (k : p → HX N env w0 rs φ) : HX N env w0 rs φ := fun a w hs hm => k (h w hm) a w hs hm
theorem hw_fact {p : Prop} (h : ∀ w, Mem w0 rs w → p) (k : p → HW P N env w0 rs c Q) : HW P N env w0 rs c Q := fun a w hs hm => k (h w hm) a w hs hm
theorem hl_fact {p : Prop} (h : ∀ w, Mem w0 rs w → p) (k : p → HL P N env w0 rs ops Q l) : HL P N env w0 rs ops Q l := fun a w hs hm => k (h w hm) a w hs hm
theorem hx_mem (h : ∀ w, Mem w0 rs w → Mem w0 rs' w) (k : HX N env w0 rs' φ) : HX N env w0 rs φ := fun a w hs hm => k a w hs (h w hm)
theorem hw_mem (h : ∀ w, Mem w0 rs w → Mem w0 rs' w) (k : HW P N env w0 rs' c Q) : HW P N env w0 rs c Q := fun a w hs hm => k a w hs (h w hm)
theorem hl_mem (h : ∀ w, Mem w0 rs w → Mem w0 rs' w) (k : HL P N env w0 rs' ops Q l) : HL P N env w0 rs ops Q l := fun a w hs hm => k a w hs (h w hm)
end

/-! ### Structs -/
section
variable {P : Program} {N : Nat} {env : Env} {w0 : World} {rs : List Res} {Q : Exit → Act → World → Prop} {ops : Array Oper} {l : List Oper} {d : Nat} {ty : TypeId} {pos : String} {after : Array Edge} {x y : Operand} {u v : Value}

theorem ld_blkA (i : Nat) {b off : Nat} {cs : Array Value} {t : TypeId} {p : Addr} (hi : rs[i]? = some (rBlk b cs t)) (hp : p = ⟨b, off, none⟩) (hj : cs[off]? = some u) : Ld w0 rs p u := by
  subst hp; exact ld_blk i hi hj
theorem run_loadCells {P : Program} {w : World} {p : Addr} : ∀ (cs : List Value) (k : Nat) (acc : Array Value), (∀ i v, cs[i]? = some v → w.cell? (p.add (k + i)) = some v) →
    (loadCellsFrom p k cs.length acc).run P w = .ok (acc ++ cs.toArray) w
  | [], k, acc, h => by simp [loadCellsFrom]
  | v :: cs, k, acc, h => by
    have h0 : w.cell? (p.add k) = some v := by simpa using h 0 v rfl
    have ih := run_loadCells (P := P) (w := w) (p := p) cs (k + 1) (acc.push v) (fun i u hu => by
      have := h (i + 1) u (by simpa using hu)
      rwa [show k + 1 + i = k + (i + 1) by omega])
    simp [loadCellsFrom, h0, ih]
theorem run_loadAgg {w : World} {t n : Nat} [hA : Agg P t n] {p : Addr} {cs : Array Value} (hn : cs.size = n) (h : ∀ (i : Nat) (v : Value), cs[i]? = some v → w.cell? (p.add i) = some v) : (loadVar t p).run P w = .ok (.agg cs) w := by
  obtain ⟨i, hi, hs⟩ := hA.size
  have hr := run_loadCells (P := P) (w := w) (p := p) cs.toList 0 #[] (fun i v hv => by rw [Nat.zero_add]; exact h i v (by simpa using hv))
  rw [Array.length_toList, hn, ← hs] at hr
  simp [loadVar, hA.agg w, sizeOf, typeInfo, hi, loadCells, hr]
/-- A struct, loaded whole. -/
theorem q_loadA {dst : Option Nat} {gd : Option (Nat × Bool)} {t n : Nat} [hA : Agg P t n] {p : Addr} {cs : Array Value} (hx : env.ev x = some (.pointer (some p))) (hn : cs.size = n) (h : ∀ (i : Nat) (v : Value), cs[i]? = some v → Ld w0 rs (p.add i) v) :
    QO P N env w0 rs ⟨dst, .load t x, ty, pos, after, gd⟩ (.agg cs) := qo_val fun a hs w hm => by
  have hr := run_loadAgg (P := P) (w := w) (t := t) (p := p) hn (fun i v hv => h i v hv w hm)
  simp [execOp, hs.ev hx, Instr.loadAt, Instr.sureAddr, hr]
/-- A struct of two cells, loaded whole. -/
theorem q_loadA2 {dst : Option Nat} {gd : Option (Nat × Bool)} {t : TypeId} [hA : Agg P t 2] {p : Addr} {u0 u1 : Value} (hx : env.ev x = some (.pointer (some p))) (h0 : Ld w0 rs (p.add 0) u0) (h1 : Ld w0 rs (p.add 1) u1) :
    QO P N env w0 rs ⟨dst, .load t x, ty, pos, after, gd⟩ (.agg #[u0, u1]) := q_loadA hx rfl fun i v hv => by
  match i, hv with
  | 0, hv => cases hv; exact h0
  | 1, hv => cases hv; exact h1
  | i + 2, hv => simp at hv
/-- A struct in a block of the call's own, loaded whole. -/
theorem q_loadB {dst : Option Nat} {gd : Option (Nat × Bool)} {t n tb : Nat} [hA : Agg P t n] {b : Nat} {cs : Array Value} (i : Nat) (hi : rs[i]? = some (rBlk b cs tb)) (hx : env.ev x = some (.pointer (some ⟨b, 0, none⟩))) (hn : cs.size = n) :
    QO P N env w0 rs ⟨dst, .load t x, ty, pos, after, gd⟩ (.agg cs) :=
  q_loadA hx hn fun j v hv => ld_blkA i hi (by unfold Addr.add; split <;> simp_all) hv

theorem run_storeCells_blk {P : Program} {b tb : Nat} : ∀ (us : List Value) (k : Nat) (w : World) (cs : Array Value), w.heap[b]? = some (.cells cs tb (0, 0)) → (∀ u ∈ us, u.oneCell' = true) → k + us.length ≤ cs.size →
    ∃ w', (storeCells ⟨b, 0, none⟩ us k).run P w = .ok () w' ∧ w'.heap[b]? = some (.cells ((us.zipIdx k).foldl (fun c p => c.setIfInBounds p.2 p.1) cs) tb (0, 0)) ∧ (∀ b', b' ≠ b → w'.heap[b']? = w.heap[b']?) ∧ w'.heap.size = w.heap.size ∧ w'.os = w.os ∧ w'.tape = w.tape ∧ w'.output = w.output
  | [], k, w, cs, hb, _, _ => ⟨w, by simp [storeCells], by simpa using hb, fun _ _ => rfl, rfl, rfl, rfl, rfl⟩
  | u :: us, k, w, cs, hb, hu, hk => by
    simp only [List.length_cons] at hk
    have hadd : (⟨b, 0, none⟩ : Addr).add k = ⟨b, k, none⟩ := by unfold Addr.add; split <;> simp_all
    have hcell : w.cell? ⟨b, k, none⟩ = some cs[k] := by rw [cell_of_row w b k cs tb (0, 0) hb]; simp [show k < cs.size by omega]
    have hfr : w.frozen? ⟨b, k, none⟩ = false := frozen_of_row w b k cs tb hb
    have hb1 := heap_setCell_same w b k cs tb u hb
    obtain ⟨w', h1, h2, h3, h4, h5, h6, h7⟩ := run_storeCells_blk (P := P) us (k + 1) (w.setCell ⟨b, k, none⟩ u) (cs.setIfInBounds k u) hb1 (fun v hv => hu v (by simp [hv])) (by simp; omega)
    refine ⟨w', ?_, by simpa [List.zipIdx_cons] using h2, fun b' hne => ?_, by rw [h4]; simp, h5, h6, h7⟩
    · simp [storeCells, hadd, run_store P w _ u _ (hu u (by simp)), hcell, hfr, h1]
    · rw [h3 b' hne, heap_setCell_other w ⟨b, k, none⟩ b' u hne]

theorem foldl_setAll (us : List Value) : ∀ (k : Nat) (cs : Array Value), k + us.length = cs.size → ((us.zipIdx k).foldl (fun c p => c.setIfInBounds p.2 p.1) cs).toList = cs.toList.take k ++ us := by
  induction us with
  | nil => intro k cs h; simp at h ⊢; rw [List.take_of_length_le (by simp; omega)]
  | cons u us ih =>
    intro k cs h
    simp only [List.length_cons] at h
    simp only [List.zipIdx_cons, List.foldl_cons]
    rw [ih (k + 1) _ (by simp; omega), Array.toList_setIfInBounds]
    apply List.ext_getElem?
    intro i
    by_cases h1 : i < k
    · rw [List.getElem?_append_left (by simp; omega), List.getElem?_append_left (by simp; omega), List.getElem?_take, List.getElem?_take, if_pos (by omega), if_pos h1, List.getElem?_set, if_neg (by omega)]
    · by_cases h2 : i = k
      · subst h2
        have hl : (List.take i cs.toList).length = i := by simp; omega
        rw [List.getElem?_append_left (by simp; omega), List.getElem?_append_right (by omega), hl, List.getElem?_take, if_pos (by omega), List.getElem?_set_self (by simp; omega), Nat.sub_self]
        rfl
      · have hl : (List.take k cs.toList).length = k := by simp; omega
        have hl' : (List.take (k + 1) (cs.toList.set k u)).length = k + 1 := by simp; omega
        rw [List.getElem?_append_right (by omega), List.getElem?_append_right (by omega), hl, hl', show i - k = (i - (k + 1)) + 1 by omega, List.getElem?_cons_succ]

/-- A struct stored whole into a block of the call's own. -/
theorem hl_storeA {t n tb : Nat} [hA : Agg P t n] {b : Nat} {cs us : Array Value} (j : Nat) (hj : rs[j]? = some (rBlk b cs tb)) (hx : env.ev x = some (.pointer (some ⟨b, 0, none⟩))) (hy : env.ev y = some (.agg us)) (hn : us.size = n) (hn' : cs.size = n)
    (hu : ∀ u ∈ us.toList, u.oneCell' = true) (k : HL P N env w0 (rs.set j (rBlk b us tb)) ops Q l) : HL P N env w0 rs ops Q (⟨none, .store t x y, ty, pos, after, none⟩ :: l) :=
  eff_skip (fun a hs w hm => by
    have hb : w.heap[b]? = some (.cells cs tb (0, 0)) := hm.holds j _ hj
    obtain ⟨inf, hinf, hisz⟩ := hA.size
    obtain ⟨w', h1, h2, h3, h4, h5, h6, h7⟩ := run_storeCells_blk (P := P) us.toList 0 w cs hb hu (by simp; omega)
    have he : (us.toList.zipIdx 0).foldl (fun c p => c.setIfInBounds p.2 p.1) cs = us := by
      apply Array.toList_inj.1
      rw [foldl_setAll _ 0 cs (by simp; omega)]; simp
    rw [he] at h2
    refine ⟨w', ?_, hm.upd (r' := rBlk b us tb) hj h5 h6 h7 (by omega) (fun b' _ hnf => h3 b' hnf) h2 (fun b' hb' => .inl hb')⟩
    have hsz : us.size = inf.size := by rw [hn, hisz]
    simp [execOp, hs.ev hx, hs.ev hy, Instr.storeAt, Instr.sureAddr, storeVar, Value.cells, sizeOf, typeInfo, hinf, hsz, h1]) k

/-- The result lies in a block of the call's own. -/
theorem hx_retB {fn : Func} {R : Ending → World → Prop} {t tt n tb : Nat} [hA : Agg P tt n] {b : Nat} {cs : Array Value} (i : Nat) (hres : fn.results = #[.cell t tt]) (hi : rs[i]? = some (rBlk b cs tb)) (ht : env.at t = some (.pointer (some ⟨b, 0, none⟩))) (hn : cs.size = n)
    (h : ∀ w, Mem w0 rs w → R (.returned (.agg cs)) w) : HX N env w0 rs (bodyPost P fn R .ret) := fun a w hs hm => by
  have hr := run_loadAgg (P := P) (w := w) (t := tt) (p := ⟨b, 0, none⟩) (cs := cs) hn (fun j v hv => ld_blkA (w0 := w0) i hi (by unfold Addr.add; split <;> simp_all) hv w hm)
  refine bodyPost_ret (v := .agg cs) ?_ hs.defs (h w hm)
  have h3 := hs.get _ _ ht
  simp [results, hres, h3, asAddr, hr]
theorem hx_retBt {fn : Func} {R : Ending → World → Prop} {t t' tt n tb : Nat} [hA : Agg P tt n] {b : Nat} {cs : Array Value} (i : Nat) (hres : fn.results = #[.cell t tt, .tmp t']) (hi : rs[i]? = some (rBlk b cs tb)) (ht : env.at t = some (.pointer (some ⟨b, 0, none⟩))) (ht' : env.at t' = some v) (hn : cs.size = n)
    (h : ∀ w, Mem w0 rs w → R (.returned (.tuple #[.agg cs, v])) w) : HX N env w0 rs (bodyPost P fn R .ret) := fun a w hs hm => by
  have hr := run_loadAgg (P := P) (w := w) (t := tt) (p := ⟨b, 0, none⟩) (cs := cs) hn (fun j v hv => ld_blkA (w0 := w0) i hi (by unfold Addr.add; split <;> simp_all) hv w hm)
  refine bodyPost_ret (v := .tuple #[.agg cs, v]) ?_ hs.defs (h w hm)
  rw [results_cell_tmp hres, hs.slot ht, hs.slot ht']
  simp [asAddr, hr]

/-! ### A region in every order -/
def HA (P : Program) (N : Nat) (env : Env) (w0 : World) (rs : List Res) (ops : Array Oper) (Q : Exit → Act → World → Prop) (fuel : Nat) (listed : Array Bool) : Prop :=
  ∀ a w, Sat N env a → Mem w0 rs w → wpAny P .any ops Q fuel listed a w
theorem hw_any {id : Nat} {l : List Oper} (hm : P.follows .mixedOrders = true) (h : HA P N env w0 rs l.toArray Q l.length (Array.replicate l.length false)) : HW P N env w0 rs (.region id l.toArray true) Q := fun a w hs hm' =>
  wp_region_any hm (by have h1 := h a _ hs (hm'.draw (w.drawn + 1)); rw [← List.size_toArray] at h1; exact h1)
theorem ha_end {fuel : Nat} {listed : Array Bool} (hr : Region.ready .any ops listed = []) (h : HX N env w0 rs (Q .normal)) : HA P N env w0 rs ops Q fuel listed := fun a w hs hm => by
  cases fuel with
  | zero => exact ⟨hr, h a w hs hm⟩
  | succ f => exact ⟨fun _ => h a w hs hm, fun i hi => by rw [hr] at hi; cases hi⟩
theorem wpOp_one {f : Act → World → Prop} {i : Nat} {o : Oper} {a : Act} {w : World} (ho : ops[i]? = some o) (h : wpList P ops (Exit.then f Q) [o] a w) : wpOp P ops Q i f a w := by
  unfold wpOp
  rw [ho]
  unfold wpList at h
  split at h
  · rename_i hw
    simp only [hw, if_true]
    rcases h with h | ⟨h1, a1, w1, h2⟩
    · left
      unfold Oper.wp at h ⊢
      generalize (execOp a.eval o).run P w = r at *
      cases r with
      | ok n w' =>
        cases n <;> first | exact h | (simp only [Oper.upon] at h ⊢; exact h.mono fun e w'' he => by cases e <;> first | exact he | (obtain ⟨a1, w1, h2⟩ := he; exact ⟨a1, w1, h2⟩))
      | halt x w' => cases x <;> exact h
    · exact .inr ⟨h1, a1, w1, h2⟩
  · rename_i hw
    simp only [hw]
    exact h
theorem ha_1 (i : Nat) {o : Oper} {fuel : Nat} {listed : Array Bool} (hr : Region.ready .any ops listed = [i]) (ho : ops[i]? = some o)
    (h : HL P N env w0 rs ops (Exit.then (fun a w => wpAny P .any ops Q fuel (listed.setIfInBounds i true) a w) Q) [o]) : HA P N env w0 rs ops Q (fuel + 1) listed := fun a w hs hm => by
  refine ⟨fun h0 => ?_, fun j hj => ?_⟩
  · rw [hr] at h0; cases h0
  · rw [hr] at hj
    simp at hj
    subst hj
    exact wpOp_one ho (h a w hs hm)
theorem ha_2 (i j : Nat) {o o' : Oper} {fuel : Nat} {listed : Array Bool} (hr : Region.ready .any ops listed = [i, j]) (ho : ops[i]? = some o) (ho' : ops[j]? = some o')
    (h : HL P N env w0 rs ops (Exit.then (fun a w => wpAny P .any ops Q fuel (listed.setIfInBounds i true) a w) Q) [o])
    (h' : HL P N env w0 rs ops (Exit.then (fun a w => wpAny P .any ops Q fuel (listed.setIfInBounds j true) a w) Q) [o']) : HA P N env w0 rs ops Q (fuel + 1) listed := fun a w hs hm => by
  refine ⟨fun h0 => ?_, fun k hk => ?_⟩
  · rw [hr] at h0; cases h0
  · rw [hr] at hk
    simp at hk
    rcases hk with rfl | rfl
    · exact wpOp_one ho (h a w hs hm)
    · exact wpOp_one ho' (h' a w hs hm)
theorem hx_any {fuel : Nat} {listed : Array Bool} (h : HA P N env w0 rs ops Q fuel listed) : HX N env w0 rs (Exit.then (fun a w => wpAny P .any ops Q fuel listed a w) Q .normal) := h
end

/-! ### Calls that write into a resource of the caller's -/
section
variable {P : Program} {N : Nat} {env : Env} {w0 : World} {rs : List Res} {Q : Exit → Act → World → Prop} {ops : Array Oper} {l : List Oper} {d : Nat} {ty : TypeId} {pos : String} {after : Array Edge}

/-- Several resources as one. -/
def rStar (l : List Res) : Res where
  foot := fun b => ∃ r ∈ l, r.foot b
  holds := fun w => (∀ r ∈ l, r.holds w) ∧ ∀ (i j : Nat) (r s : Res), i ≠ j → l[i]? = some r → l[j]? = some s → ∀ b, r.foot b → ¬ s.foot b
  bnd := fun w h b ⟨r, hr, hb⟩ => r.bnd w (h.1 r hr) b hb
  loc := fun w w' h hs => ⟨fun r hr => r.loc w w' (h.1 r hr) (fun b hb => hs b ⟨r, hr, hb⟩), h.2⟩

/-- The call writes into r, whatever else there is, and hands back v and what r has become. -/
def Mut (P : Program) (f : FuncId) (args : List Value) (r : Res) (Φ : Value → Res → Prop) : Prop :=
  ∀ (w0 : World) (F : Res) (w : World), Mem w0 [r, F] w → Calls P f args.toArray w fun e w' => ∃ v r', e = .returned v ∧ Φ v r' ∧ Mem w0 [r', F] w'

/-- Resource i, and all the others as one. -/
theorem Mem.focus {w : World} {i : Nat} {r : Res} (h : Mem w0 rs w) (hi : rs[i]? = some r) : Mem w0 [r, rStar (rs.eraseIdx i)] w := by
  have hlen : i < rs.length := (List.getElem?_eq_some_iff.1 hi).1
  have inv : ∀ (j : Nat) (s : Res), (rs.eraseIdx i)[j]? = some s → ∃ k, k ≠ i ∧ rs[k]? = some s ∧ k = (if j < i then j else j + 1) := by
    intro j s hj
    rw [List.getElem?_eraseIdx] at hj
    split at hj
    · rename_i hlt; exact ⟨j, by omega, hj, by simp [hlt]⟩
    · rename_i hge; exact ⟨j + 1, by omega, hj, by simp [hge]⟩
  have mem : ∀ s ∈ rs.eraseIdx i, ∃ k, k ≠ i ∧ rs[k]? = some s := by
    intro s hs
    obtain ⟨j, hj⟩ := List.mem_iff_getElem?.1 hs
    obtain ⟨k, h1, h2, _⟩ := inv j s hj
    exact ⟨k, h1, h2⟩
  have hstar : (rStar (rs.eraseIdx i)).holds w := by
    refine ⟨fun s hs => ?_, fun j k s t hjk hj hk b hb hb' => ?_⟩
    · obtain ⟨k, _, hk⟩ := mem s hs
      exact h.holds k s hk
    · obtain ⟨j', _, hj', e1⟩ := inv j s hj
      obtain ⟨k', _, hk', e2⟩ := inv k t hk
      refine h.apart j' k' s t ?_ hj' hk' b hb hb'
      rw [e1, e2]
      split <;> split <;> omega
  refine ⟨h.below, fun j s hj => ?_, fun j s hj b hb => ?_, fun j k s t hjk hj hk b hb hb' => ?_⟩
  · match j, hj with
    | 0, hj => simp at hj; subst hj; exact h.holds i _ hi
    | 1, hj => simp at hj; subst hj; exact hstar
    | n + 2, hj => simp at hj
  · match j, hj with
    | 0, hj => simp at hj; subst hj; exact h.fresh i _ hi b hb
    | 1, hj =>
      simp at hj; subst hj
      obtain ⟨s, hs, hb1⟩ := hb
      obtain ⟨k, _, hk⟩ := mem s hs
      exact h.fresh k s hk b hb1
    | n + 2, hj => simp at hj
  · match j, hj, k, hk, hjk with
    | 0, hj, 0, _, hjk => exact hjk rfl
    | 0, hj, 1, hk, _ =>
      simp at hj hk; subst hj; subst hk
      obtain ⟨s, hs, hb1⟩ := hb'
      obtain ⟨k, hne, hk⟩ := mem s hs
      exact h.apart i k _ s (fun e => hne e.symm) hi hk b hb hb1
    | 1, hj, 0, hk, _ =>
      simp at hj hk; subst hj; subst hk
      obtain ⟨s, hs, hb1⟩ := hb
      obtain ⟨k, hne, hk⟩ := mem s hs
      exact h.apart i k _ s (fun e => hne e.symm) hi hk b hb' hb1
    | 1, _, 1, _, hjk => exact hjk rfl
    | n + 2, hj, _, _, _ => simp at hj
    | 0, _, n + 2, hk, _ => simp at hk
    | 1, _, n + 2, hk, _ => simp at hk

theorem Mem.unfocus {w : World} {i : Nat} {r r' : Res} (hi : rs[i]? = some r) (h : Mem w0 [r', rStar (rs.eraseIdx i)] w) : Mem w0 (rs.set i r') w := by
  have hlen : i < rs.length := (List.getElem?_eq_some_iff.1 hi).1
  have hr := h.holds 0 r' rfl
  have hs := h.holds 1 _ rfl
  have key : ∀ (j : Nat) (s : Res), (rs.set i r')[j]? = some s → (j = i ∧ s = r') ∨ (j ≠ i ∧ (rs.eraseIdx i)[if j < i then j else j - 1]? = some s) := by
    intro j s hj
    rw [List.getElem?_set] at hj
    by_cases e : i = j
    · subst e; simp [hlen] at hj; exact .inl ⟨rfl, hj.symm⟩
    · simp [e] at hj
      refine .inr ⟨fun e' => e e'.symm, ?_⟩
      rw [List.getElem?_eraseIdx]
      by_cases hlt : j < i
      · simp [hlt, hj]
      · have h1 : ¬ (j - 1 < i) := by omega
        have h2 : j - 1 + 1 = j := by omega
        simp [hlt, h1, h2, hj]
  have fr : ∀ s ∈ rs.eraseIdx i, ∀ b, s.foot b → w0.heap.size ≤ b ∧ ¬ r'.foot b := fun s hm b hb =>
    ⟨h.fresh 1 _ rfl b ⟨s, hm, hb⟩, fun hb' => h.apart 0 1 r' _ (by omega) rfl rfl b hb' ⟨s, hm, hb⟩⟩
  refine ⟨h.below, fun j s hj => ?_, fun j s hj b hb => ?_, fun j k s t hjk hj hk b hb hb' => ?_⟩
  · rcases key j s hj with ⟨_, rfl⟩ | ⟨_, h1⟩
    · exact hr
    · exact hs.1 s (List.mem_of_getElem? h1)
  · rcases key j s hj with ⟨_, rfl⟩ | ⟨_, h1⟩
    · exact h.fresh 0 _ rfl b hb
    · exact (fr s (List.mem_of_getElem? h1) b hb).1
  · rcases key j s hj with ⟨e1, rfl⟩ | ⟨n1, h1⟩ <;> rcases key k t hk with ⟨e2, rfl⟩ | ⟨n2, h2⟩
    · omega
    · exact (fr t (List.mem_of_getElem? h2) b hb').2 hb
    · exact (fr s (List.mem_of_getElem? h1) b hb).2 hb'
    · refine hs.2 _ _ s t ?_ h1 h2 b hb hb'
      split <;> split <;> omega

theorem Mem.flat {w : World} {l rest : List Res} (h : Mem w0 (rStar l :: rest) w) : Mem w0 (l ++ rest) w := by
  have hs := h.holds 0 _ rfl
  have key : ∀ (j : Nat) (s : Res), (l ++ rest)[j]? = some s → (j < l.length ∧ l[j]? = some s) ∨ (l.length ≤ j ∧ (rStar l :: rest)[j - l.length + 1]? = some s) := by
    intro j s hj
    rw [List.getElem?_append] at hj
    split at hj
    · rename_i hlt; exact .inl ⟨hlt, hj⟩
    · rename_i hge; exact .inr ⟨by omega, by simpa using hj⟩
  refine ⟨h.below, fun j s hj => ?_, fun j s hj b hb => ?_, fun j k s t hjk hj hk b hb hb' => ?_⟩
  · rcases key j s hj with ⟨_, h1⟩ | ⟨_, h1⟩
    · exact hs.1 s (List.mem_of_getElem? h1)
    · exact h.holds _ s h1
  · rcases key j s hj with ⟨_, h1⟩ | ⟨_, h1⟩
    · exact h.fresh 0 _ rfl b ⟨s, List.mem_of_getElem? h1, hb⟩
    · exact h.fresh _ s h1 b hb
  · rcases key j s hj with ⟨l1, h1⟩ | ⟨l1, h1⟩ <;> rcases key k t hk with ⟨l2, h2⟩ | ⟨l2, h2⟩
    · exact hs.2 j k s t hjk h1 h2 b hb hb'
    · exact h.apart 0 _ _ t (by omega) rfl h2 b ⟨s, List.mem_of_getElem? h1, hb⟩ hb'
    · exact h.apart 0 _ _ s (by omega) rfl h1 b ⟨t, List.mem_of_getElem? h2, hb'⟩ hb
    · exact h.apart _ _ s t (by omega) h1 h2 b hb hb'
theorem Mem.star {w : World} {l rest : List Res} (h : Mem w0 (l ++ rest) w) : Mem w0 (rStar l :: rest) w := by
  have inl : ∀ (j : Nat) (s : Res), l[j]? = some s → (l ++ rest)[j]? = some s := fun j s hj => by
    rw [List.getElem?_append_left (List.getElem?_eq_some_iff.1 hj).1]; exact hj
  have inr : ∀ (j : Nat) (s : Res), rest[j]? = some s → (l ++ rest)[l.length + j]? = some s := fun j s hj => by
    rw [List.getElem?_append_right (by omega)]; simpa using hj
  have mem : ∀ s ∈ l, ∃ j, j < l.length ∧ (l ++ rest)[j]? = some s := fun s hs => by
    obtain ⟨j, hj⟩ := List.mem_iff_getElem?.1 hs
    exact ⟨j, (List.getElem?_eq_some_iff.1 hj).1, inl j s hj⟩
  refine ⟨h.below, fun j s hj => ?_, fun j s hj b hb => ?_, fun j k s t hjk hj hk b hb hb' => ?_⟩
  · cases j with
    | zero =>
      simp at hj; subst hj
      exact ⟨fun s hs => (by obtain ⟨j, _, hj⟩ := mem s hs; exact h.holds j s hj), fun j k s t hjk hj hk b hb hb' => h.apart j k s t hjk (inl j s hj) (inl k t hk) b hb hb'⟩
    | succ j => exact h.holds _ s (inr j s (by simpa using hj))
  · cases j with
    | zero =>
      simp at hj; subst hj
      obtain ⟨s, hs, hb1⟩ := hb
      obtain ⟨j, _, hj⟩ := mem s hs
      exact h.fresh j s hj b hb1
    | succ j => exact h.fresh _ s (inr j s (by simpa using hj)) b hb
  · cases j with
    | zero =>
      cases k with
      | zero => exact hjk rfl
      | succ k =>
        simp at hj; subst hj
        obtain ⟨s, hs, hb1⟩ := hb
        obtain ⟨j, hjl, hj⟩ := mem s hs
        exact h.apart j _ s t (by omega) hj (inr k t (by simpa using hk)) b hb1 hb'
    | succ j =>
      cases k with
      | zero =>
        simp at hk; subst hk
        obtain ⟨t, ht, hb1⟩ := hb'
        obtain ⟨k, hkl, hk⟩ := mem t ht
        exact h.apart k _ t s (by omega) hk (inr j s (by simpa using hj)) b hb1 hb
      | succ k => exact h.apart _ _ s t (by omega) (inr j s (by simpa using hj)) (inr k t (by simpa using hk)) b hb hb'

/-- A call that writes into one part of a star. -/
theorem hl_mutIn {f : FuncId} [hB : Body P f] {args : Array Operand} {ats : Array TypeId} {vs : List Value} {L : List Res} {r : Res} {Φ : Value → Res → Prop} (i j : Nat) (hi : rs[i]? = some (rStar L)) (hj : L[j]? = some r) (hd : d < N)
    (hcall : Mut P f vs r Φ) (hargs : args.toList.map env.ev = vs.map some) (k : ∀ v r', Φ v r' → HL P N ((d, v) :: env) w0 (rs.set i (rStar (L.set j r'))) ops Q l) :
    HL P N env w0 rs ops Q (⟨some d, .call { callee := .value (.func f), args := args, argTypes := ats }, ty, pos, after, none⟩ :: l) := fun a w hs hm =>
  wpList_plain rfl fun K hK => by
    have hmap := args_eval hs hargs
    unfold Oper.wp
    have hrun : (execOp a.eval ⟨some d, .call { callee := .value (.func f), args := args, argTypes := ats }, ty, pos, after, none⟩).run P w = .ok (.enter f vs.toArray) w := by
      simp [execOp, resolve, Deferred.ofValue, invoke, Act.eval, hmap, hB.run]
    rw [hrun]
    have hjl : j < L.length := (List.getElem?_eq_some_iff.1 hj).1
    have h1 := (hm.focus hi).flat
    have hj' : (L ++ [rStar (rs.eraseIdx i)])[j]? = some r := by rw [List.getElem?_append_left hjl]; exact hj
    refine (hcall w0 _ w (h1.focus hj')).mono ?_
    rintro e w' ⟨v, r', rfl, hΦ, hm'⟩
    have h2 := hm'.unfocus hj'
    rw [List.set_append_left _ _ hjl] at h2
    exact hK _ _ (k v r' hΦ _ _ (hs.put v hd) (h2.star.unfocus hi))

theorem hl_mut {f : FuncId} [hB : Body P f] {args : Array Operand} {ats : Array TypeId} {vs : List Value} {r : Res} {Φ : Value → Res → Prop} (i : Nat) (hi : rs[i]? = some r) (hd : d < N)
    (hcall : Mut P f vs r Φ) (hargs : args.toList.map env.ev = vs.map some) (k : ∀ v r', Φ v r' → HL P N ((d, v) :: env) w0 (rs.set i r') ops Q l) :
    HL P N env w0 rs ops Q (⟨some d, .call { callee := .value (.func f), args := args, argTypes := ats }, ty, pos, after, none⟩ :: l) := fun a w hs hm =>
  wpList_plain rfl fun K hK => by
    have hmap := args_eval hs hargs
    unfold Oper.wp
    have hrun : (execOp a.eval ⟨some d, .call { callee := .value (.func f), args := args, argTypes := ats }, ty, pos, after, none⟩).run P w = .ok (.enter f vs.toArray) w := by
      simp [execOp, resolve, Deferred.ofValue, invoke, Act.eval, hmap, hB.run]
    rw [hrun]
    refine (hcall w0 _ w (hm.focus hi)).mono ?_
    rintro e w' ⟨v, r', rfl, hΦ, hm'⟩
    exact hK _ _ (k v r' hΦ _ _ (hs.put v hd) (hm'.unfocus hi))

/-- The body of a call that writes. -/
theorem mut_hw {f : FuncId} {fn : Func} {c : Code} {vs : List Value} {r : Res} {Φ : Value → Res → Prop} (hf : P.funcs[f]? = some fn) (hN : fn.ntmps = N) (hb : fn.body = some c) (hn : Nat.ble vs.length N = true)
    (h : ∀ w0 F, HW P N (envOf 0 vs) w0 [r, F] c (bodyPost P fn fun e w' => ∃ v r', e = .returned v ∧ Φ v r' ∧ Mem w0 [r', F] w')) : Mut P f vs r Φ := fun w0 F w hm => by
  have hn' := Nat.le_of_ble_eq_true hn
  subst hN
  refine calls_of_wp hf hb (h w0 F _ w ⟨?_, rfl, fun n v hv => ?_⟩ hm)
  · simp; omega
  · obtain ⟨_, h2⟩ := envOf_at vs 0 n v hv
    have hlt := (List.getElem?_eq_some_iff.1 h2).1
    rw [Array.getElem?_append_left (by simpa using hlt)]
    simpa using h2
end

attribute [irreducible] HX HW HL HQ HA QO Ld SlOk


section
variable {P : Program}
def aggB : TypeDesc → Bool
  | .struct _ | .array _ _ => true
  | _ => false
theorem run_isAgg {t : TypeId} {b : Bool} (h : (P.underlying t).map aggB = some b) (w : World) : (isAgg t).run P w = .ok b w := by
  obtain ⟨d, hd, rfl⟩ := Option.map_eq_some_iff.1 h
  cases d <;> simp [isAgg, run_underlying hd, aggB]
theorem one_mk {t : TypeId} (h : (P.underlying t).map aggB = some false) (hs : (P.info? t).map (·.size) = some 1) : One P t :=
  ⟨run_isAgg h, by obtain ⟨i, hi, he⟩ := Option.map_eq_some_iff.1 hs; exact ⟨i, hi, he⟩⟩
theorem agg_mk {t : TypeId} {n : Nat} (h : (P.underlying t).map aggB = some true) (hs : (P.info? t).map (·.size) = some n) : Agg P t n :=
  ⟨run_isAgg h, by obtain ⟨i, hi, he⟩ := Option.map_eq_some_iff.1 hs; exact ⟨i, hi, he⟩⟩
theorem slc_mk {t e k bb : Nat} {z : Value} (h : P.underlying t = some (.slice e)) (hs : (P.info? e).map (fun i => (i.size, i.bytes, i.zero)) = some (k, bb, some z)) (hz : z.cells.size = k) : Slc P t e k bb z :=
  ⟨h, by
    obtain ⟨i, hi, he⟩ := Option.map_eq_some_iff.1 hs
    simp only [Prod.mk.injEq] at he
    exact ⟨i, hi, he⟩, hz⟩
theorem arr_mk {t n e k : Nat} (h : P.underlying t = some (.array n e)) (hs : (P.info? e).map (·.size) = some k) : Arr P t n e k :=
  ⟨h, by obtain ⟨i, hi, he⟩ := Option.map_eq_some_iff.1 hs; exact ⟨i, hi, he⟩⟩
def fieldOf (P : Program) (s f : Nat) : Option (Nat × Nat) :=
  match P.underlying s with
  | some (.struct fs) => match fs[f]? with
    | some fl => (P.info? fl.type).map fun i => (fl.offset, i.size)
    | none => none
  | _ => none
theorem fld_mk {s f off k : Nat} (h : fieldOf P s f = some (off, k + 1)) : Fld P s f off := ⟨fun a w => by
  unfold fieldOf at h
  split at h
  · rename_i fs hs
    split at h
    · rename_i fl hf
      obtain ⟨i, hi, he⟩ := Option.map_eq_some_iff.1 h
      simp only [Prod.mk.injEq] at he
      simp [Instr.fieldAt, run_underlying hs, hf, Instr.sureAddr, fieldPlace, sizeOf, typeInfo, hi, he.1, he.2]
    · cases h
  · cases h⟩
theorem zero_mk {t : TypeId} {z : Value} (h : (P.info? t).map (·.zero) = some (some z)) : Zero P t z := ⟨fun w => by
  obtain ⟨i, hi, he⟩ := Option.map_eq_some_iff.1 h
  simp [zeroValue, typeInfo, hi, he]⟩
theorem body_mk {f : FuncId} {fn : Func} (h : P.funcs[f]? = some fn) (hn : (fn.name == "runtime.NumGoroutine") = false) (hb : fn.body.isNone = false) : Body P f := ⟨fun args w => by
  have hn' : fn.name ≠ "runtime.NumGoroutine" := by simpa using hn
  have hb' : fn.body ≠ none := by intro e; simp [e] at hb
  simp [callFunc, h, hn', hb']⟩
end

/-! ### The rules with their side conditions found by themselves -/
section
variable {P : Program} {N : Nat} {env : Env} {w0 : World} {rs : List Res} {Q : Exit → Act → World → Prop} {ops : Array Oper} {l : List Oper} {K : Act → Prop} {op : Op} {d : Nat} {ty : TypeId} {pos : String} {after : Array Edge} {v : Value}
theorem hl_a (h : HL P N ((d, v) :: env) w0 rs ops Q l) (hd : d < N := by decide) (hq : QO P N env w0 rs ⟨some d, op, ty, pos, after, none⟩ v := by first | (apply q_move; rfl) | (apply q_assign; rfl) | (apply q_load; rfl; first | assumption | (apply ld_base; assumption) | exact ld_blkA 0 rfl rfl rfl | exact ld_blkA 1 rfl rfl rfl | exact ld_blkA 2 rfl rfl rfl | exact ld_blkA 3 rfl rfl rfl) | exact q_loadB 0 rfl rfl rfl | exact q_loadB 1 rfl rfl rfl | exact q_loadB 2 rfl rfl rfl | exact q_loadB 3 rfl rfl rfl | (apply q_loadA2; rfl; (first | assumption | (apply ld_base; assumption)); (first | assumption | (apply ld_base; assumption))) | (apply q_field; rfl) | (apply q_ext; rfl; rfl) | (apply q_nilP; rfl) | (apply q_len; rfl; assumption) | (apply q_idxN; rfl; rfl; assumption; assumption) | (apply q_idxM; rfl; rfl; assumption; assumption) | (apply q_lss; rfl; rfl) | (apply q_leq; rfl; rfl) | (apply q_gtr; rfl; rfl) | (apply q_geq; rfl; rfl) | (apply q_eql; rfl; rfl) | (apply q_neq; rfl; rfl) | (apply q_eqlB; rfl; rfl) | (apply q_neqB; rfl; rfl) | exact q_notD rfl | (apply q_not; rfl) | (apply q_pickT; rfl; rfl) | (apply q_pickF; rfl; rfl) | (apply q_add; rfl; rfl; omega) | (apply q_sub; rfl; rfl; omega)) :
    HL P N env w0 rs ops Q (⟨some d, op, ty, pos, after, none⟩ :: l) := hl_q hd hq h
theorem hq_a (h : HQ P N ((d, v) :: env) w0 rs ops K l) (hd : d < N := by decide) (hq : QO P N env w0 rs ⟨some d, op, ty, pos, after, none⟩ v := by first | (apply q_move; rfl) | (apply q_assign; rfl) | (apply q_load; rfl; first | assumption | (apply ld_base; assumption) | exact ld_blkA 0 rfl rfl rfl | exact ld_blkA 1 rfl rfl rfl | exact ld_blkA 2 rfl rfl rfl | exact ld_blkA 3 rfl rfl rfl) | exact q_loadB 0 rfl rfl rfl | exact q_loadB 1 rfl rfl rfl | exact q_loadB 2 rfl rfl rfl | exact q_loadB 3 rfl rfl rfl | (apply q_loadA2; rfl; (first | assumption | (apply ld_base; assumption)); (first | assumption | (apply ld_base; assumption))) | (apply q_field; rfl) | (apply q_ext; rfl; rfl) | (apply q_nilP; rfl) | (apply q_len; rfl; assumption) | (apply q_idxN; rfl; rfl; assumption; assumption) | (apply q_idxM; rfl; rfl; assumption; assumption) | (apply q_lss; rfl; rfl) | (apply q_leq; rfl; rfl) | (apply q_gtr; rfl; rfl) | (apply q_geq; rfl; rfl) | (apply q_eql; rfl; rfl) | (apply q_neq; rfl; rfl) | (apply q_eqlB; rfl; rfl) | (apply q_neqB; rfl; rfl) | exact q_notD rfl | (apply q_not; rfl) | (apply q_pickT; rfl; rfl) | (apply q_pickF; rfl; rfl) | (apply q_add; rfl; rfl; omega) | (apply q_sub; rfl; rfl; omega)) :
    HQ P N env w0 rs ops K (⟨some d, op, ty, pos, after, none⟩ :: l) := hq_q hd hq h
theorem hl_ga {i g : Nat} {c : Bool} (h : HL P N ((d, v) :: env) w0 rs ops Q l) (ho : (ops[i]?).bind (·.dst) = some g := by rfl) (hg : env.at g = some (.bool c) := by rfl) (hd : d < N := by decide)
    (hq : QO P N env w0 rs ⟨some d, op, ty, pos, after, some (i, c)⟩ v := by first | (apply q_move; rfl) | (apply q_assign; rfl) | (apply q_load; rfl; first | assumption | (apply ld_base; assumption) | exact ld_blkA 0 rfl rfl rfl | exact ld_blkA 1 rfl rfl rfl | exact ld_blkA 2 rfl rfl rfl | exact ld_blkA 3 rfl rfl rfl) | exact q_loadB 0 rfl rfl rfl | exact q_loadB 1 rfl rfl rfl | exact q_loadB 2 rfl rfl rfl | exact q_loadB 3 rfl rfl rfl | (apply q_loadA2; rfl; (first | assumption | (apply ld_base; assumption)); (first | assumption | (apply ld_base; assumption))) | (apply q_field; rfl) | (apply q_ext; rfl; rfl) | (apply q_nilP; rfl) | (apply q_len; rfl; assumption) | (apply q_idxN; rfl; rfl; assumption; assumption) | (apply q_idxM; rfl; rfl; assumption; assumption) | (apply q_lss; rfl; rfl) | (apply q_leq; rfl; rfl) | (apply q_gtr; rfl; rfl) | (apply q_geq; rfl; rfl) | (apply q_eql; rfl; rfl) | (apply q_neq; rfl; rfl) | (apply q_eqlB; rfl; rfl) | (apply q_neqB; rfl; rfl) | exact q_notD rfl | (apply q_not; rfl) | (apply q_pickT; rfl; rfl) | (apply q_pickF; rfl; rfl) | (apply q_add; rfl; rfl; omega) | (apply q_sub; rfl; rfl; omega)) : HL P N env w0 rs ops Q (⟨some d, op, ty, pos, after, some (i, c)⟩ :: l) := hl_g i g ho hg hd hq h
theorem hq_ga {i g : Nat} {c : Bool} (h : HQ P N ((d, v) :: env) w0 rs ops K l) (ho : (ops[i]?).bind (·.dst) = some g := by rfl) (hg : env.at g = some (.bool c) := by rfl) (hd : d < N := by decide)
    (hq : QO P N env w0 rs ⟨some d, op, ty, pos, after, some (i, c)⟩ v := by first | (apply q_move; rfl) | (apply q_assign; rfl) | (apply q_load; rfl; first | assumption | (apply ld_base; assumption) | exact ld_blkA 0 rfl rfl rfl | exact ld_blkA 1 rfl rfl rfl | exact ld_blkA 2 rfl rfl rfl | exact ld_blkA 3 rfl rfl rfl) | exact q_loadB 0 rfl rfl rfl | exact q_loadB 1 rfl rfl rfl | exact q_loadB 2 rfl rfl rfl | exact q_loadB 3 rfl rfl rfl | (apply q_loadA2; rfl; (first | assumption | (apply ld_base; assumption)); (first | assumption | (apply ld_base; assumption))) | (apply q_field; rfl) | (apply q_ext; rfl; rfl) | (apply q_nilP; rfl) | (apply q_len; rfl; assumption) | (apply q_idxN; rfl; rfl; assumption; assumption) | (apply q_idxM; rfl; rfl; assumption; assumption) | (apply q_lss; rfl; rfl) | (apply q_leq; rfl; rfl) | (apply q_gtr; rfl; rfl) | (apply q_geq; rfl; rfl) | (apply q_eql; rfl; rfl) | (apply q_neq; rfl; rfl) | (apply q_eqlB; rfl; rfl) | (apply q_neqB; rfl; rfl) | exact q_notD rfl | (apply q_not; rfl) | (apply q_pickT; rfl; rfl) | (apply q_pickF; rfl; rfl) | (apply q_add; rfl; rfl; omega) | (apply q_sub; rfl; rfl; omega)) : HQ P N env w0 rs ops K (⟨some d, op, ty, pos, after, some (i, c)⟩ :: l) := hq_g i g ho hg hd hq h
theorem hl_sk {i g : Nat} {c c' : Bool} (h : HL P N ((d, undef) :: env) w0 rs ops Q l) (ho : (ops[i]?).bind (·.dst) = some g := by rfl) (hg : env.at g = some (.bool c') := by rfl) (hne : (c' == c) = false := by rfl) (hd : d < N := by decide) :
    HL P N env w0 rs ops Q (⟨some d, op, ty, pos, after, some (i, c)⟩ :: l) := hl_skip i g ho hg hne hd h
theorem hq_sk {i g : Nat} {c c' : Bool} (h : HQ P N ((d, undef) :: env) w0 rs ops K l) (ho : (ops[i]?).bind (·.dst) = some g := by rfl) (hg : env.at g = some (.bool c') := by rfl) (hne : (c' == c) = false := by rfl) (hd : d < N := by decide) :
    HQ P N env w0 rs ops K (⟨some d, op, ty, pos, after, some (i, c)⟩ :: l) := hq_skip i g ho hg hne hd h
theorem hl_gd {i g : Nat} {c : Bool} {dst : Option Nat} {p : Prop} {dp : Decidable p}
    (ht : p → HL P N ((g, .bool true) :: env) w0 rs ops Q (⟨dst, op, ty, pos, after, some (i, c)⟩ :: l)) (hf : ¬ p → HL P N ((g, .bool false) :: env) w0 rs ops Q (⟨dst, op, ty, pos, after, some (i, c)⟩ :: l))
    (ho : (ops[i]?).bind (·.dst) = some g := by rfl) (hg : env.at g = some (.bool (@decide p dp)) := by rfl) : HL P N env w0 rs ops Q (⟨dst, op, ty, pos, after, some (i, c)⟩ :: l) := hl_gdec ho hg ht hf
theorem hq_gd {i g : Nat} {c : Bool} {dst : Option Nat} {p : Prop} {dp : Decidable p}
    (ht : p → HQ P N ((g, .bool true) :: env) w0 rs ops K (⟨dst, op, ty, pos, after, some (i, c)⟩ :: l)) (hf : ¬ p → HQ P N ((g, .bool false) :: env) w0 rs ops K (⟨dst, op, ty, pos, after, some (i, c)⟩ :: l))
    (ho : (ops[i]?).bind (·.dst) = some g := by rfl) (hg : env.at g = some (.bool (@decide p dp)) := by rfl) : HQ P N env w0 rs ops K (⟨dst, op, ty, pos, after, some (i, c)⟩ :: l) := hq_gdec ho hg ht hf
theorem hl_gT {i g : Nat} {c : Bool} {dst : Option Nat} {p : Prop} {dp : Decidable p} (h : HL P N ((g, .bool true) :: env) w0 rs ops Q (⟨dst, op, ty, pos, after, some (i, c)⟩ :: l))
    (ho : (ops[i]?).bind (·.dst) = some g := by rfl) (hg : env.at g = some (.bool (@decide p dp)) := by rfl) (hp : p := by assumption) : HL P N env w0 rs ops Q (⟨dst, op, ty, pos, after, some (i, c)⟩ :: l) := hl_gdec ho hg (fun _ => h) (fun hn => absurd hp hn)
theorem hl_gF {i g : Nat} {c : Bool} {dst : Option Nat} {p : Prop} {dp : Decidable p} (h : HL P N ((g, .bool false) :: env) w0 rs ops Q (⟨dst, op, ty, pos, after, some (i, c)⟩ :: l))
    (ho : (ops[i]?).bind (·.dst) = some g := by rfl) (hg : env.at g = some (.bool (@decide p dp)) := by rfl) (hp : ¬ p := by assumption) : HL P N env w0 rs ops Q (⟨dst, op, ty, pos, after, some (i, c)⟩ :: l) := hl_gdec ho hg (fun hy => absurd hy hp) (fun _ => h)
theorem hq_gT {i g : Nat} {c : Bool} {dst : Option Nat} {p : Prop} {dp : Decidable p} (h : HQ P N ((g, .bool true) :: env) w0 rs ops K (⟨dst, op, ty, pos, after, some (i, c)⟩ :: l))
    (ho : (ops[i]?).bind (·.dst) = some g := by rfl) (hg : env.at g = some (.bool (@decide p dp)) := by rfl) (hp : p := by assumption) : HQ P N env w0 rs ops K (⟨dst, op, ty, pos, after, some (i, c)⟩ :: l) := hq_gdec ho hg (fun _ => h) (fun hn => absurd hp hn)
theorem hq_gF {i g : Nat} {c : Bool} {dst : Option Nat} {p : Prop} {dp : Decidable p} (h : HQ P N ((g, .bool false) :: env) w0 rs ops K (⟨dst, op, ty, pos, after, some (i, c)⟩ :: l))
    (ho : (ops[i]?).bind (·.dst) = some g := by rfl) (hg : env.at g = some (.bool (@decide p dp)) := by rfl) (hp : ¬ p := by assumption) : HQ P N env w0 rs ops K (⟨dst, op, ty, pos, after, some (i, c)⟩ :: l) := hq_gdec ho hg (fun hy => absurd hy hp) (fun _ => h)
theorem hw_iT {c : Operand} {x y : Code} {p : Prop} {dp : Decidable p} (h : HW P N env w0 rs x Q) (hc : env.ev c = some (.bool (@decide p dp)) := by rfl) (hp : p := by assumption) : HW P N env w0 rs (.cond c x y) Q := hw_if hc (fun _ => h) (fun hn => absurd hp hn)
theorem hw_iF {c : Operand} {x y : Code} {p : Prop} {dp : Decidable p} (h : HW P N env w0 rs y Q) (hc : env.ev c = some (.bool (@decide p dp)) := by rfl) (hp : ¬ p := by assumption) : HW P N env w0 rs (.cond c x y) Q := hw_if hc (fun hy => absurd hy hp) (fun _ => h)
theorem hw_tt {c : Operand} {x y : Code} (h : HW P N env w0 rs x Q) (hc : env.ev c = some (.bool true) := by rfl) : HW P N env w0 rs (.cond c x y) Q := hw_true hc h
theorem hw_ff {c : Operand} {x y : Code} (h : HW P N env w0 rs y Q) (hc : env.ev c = some (.bool false) := by rfl) : HW P N env w0 rs (.cond c x y) Q := hw_false hc h
theorem hw_dr {id : Nat} {l : List Oper} (h : HQ P N env w0 rs l.toArray (fun a' => ∀ w', Mem w0 rs w' → Q .normal a' w') l) (hmix : P.follows .mixedOrders = true := by kernel_rfl) (hB : Region.lexB .any l.toArray = true := by kernel_rfl) :
    HW P N env w0 rs (.region id l.toArray true) Q := hw_draw hmix hB h
theorem hx_far {id id' : Nat} (h : HX N env w0 rs (Q (.exit id'))) (hne : (id' = id) = False := by simp) : HX N env w0 rs (Exit.inBlock id Q (.exit id')) := hx_block_far hne h
end
end Go.Eng
