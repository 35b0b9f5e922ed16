/- Structs built, function values, empty slices, chains behind a pointer. -/
import Derived.Test.YtgeidbjcphjbiaaLibQ
import Derived.Laws.Tables
namespace Go.Eng
open Go.RowKit
set_option linter.unusedVariables false

section
variable {P : Program} {N : Nat} {env : Env} {w0 : World} {rs : List Res} {dst : Option Nat} {ty : TypeId} {pos : String} {after : Array Edge} {gd : Option (Nat × Bool)} {x y : Operand} {u v : Value}

theorem pairs_eval {a : Act} (hs : Sat N env a) : ∀ {ps : List (Nat × Operand)} {us : List (Nat × Value)}, ps.map (fun p => (p.1, env.ev p.2)) = us.map (fun p => (p.1, some p.2)) → ps.map (fun p => (p.1, a.eval p.2)) = us
  | [], [], _ => rfl
  | [], u :: us, h => by simp at h
  | p :: ps, [], h => by simp at h
  | p :: ps, u :: us, h => by
    simp only [List.map_cons, List.cons.injEq, Prod.mk.injEq] at h ⊢
    exact ⟨Prod.ext h.1.1 (hs.ev h.1.2), pairs_eval hs h.2⟩
/-- A struct or an array built of some of its parts. -/
theorem q_bld (us : List (Nat × Value)) (cs : Array Value) {t : TypeId} {parts : Array (Nat × Operand)} (hparts : parts.toList.map (fun p => (p.1, env.ev p.2)) = us.map (fun p => (p.1, some p.2))) (hb : P.built t us = some cs) :
    QO P N env w0 rs ⟨dst, .build t parts, ty, pos, after, gd⟩ (.agg cs) := qo_val fun a hs w _ => by
  have hp : (parts.map fun p => (p.1, a.eval p.2)).toList = us := by simpa using pairs_eval hs hparts
  have h1 := run_build (P := P) w t (parts.map fun p => (p.1, a.eval p.2)) cs (by rw [hp]; exact hb)
  simp [execOp, h1]
/-- A function value with what it has caught. -/
theorem q_fn {f : FuncId} {caps : Array Operand} (cs : List Value) (hc : caps.toList.map env.ev = cs.map some) : QO P N env w0 rs ⟨dst, .makeFunc (.func f) #[] caps, ty, pos, after, gd⟩ (.func (.func f) #[] cs.toArray) := qo_val fun a hs w _ => by
  have h1 := args_eval hs hc
  simp [execOp, Instr.makeFunc, h1]
end

section
variable {w0 w : World} {rs : List Res}
theorem Mem.nilOwn (e k : Nat) (h : Mem w0 rs w) : Mem w0 (rs ++ [rOwn e k (.slice Option.none 0 0) 0 []]) w :=
  h.add (r := rOwn e k (.slice Option.none 0 0) 0 []) (Below.refl _ _) ⟨by simp, .inl ⟨rfl, rfl⟩⟩ (fun b hb => by simp [rOwn, Value.ownBlock] at hb)
theorem Mem.nilE {α : Type} (e : TypeId) (enc : α → Value) (h : Mem w0 rs w) : Mem w0 (rs ++ [rE e enc (.slice Option.none 0 0) []]) w := h.nilOwn e 1
theorem Mem.lone {r : Res} (i : Nat) (h : Mem w0 rs w) (hi : rs[i]? = some r) : Mem w0 [r] w := h.pick [i] (by simp) (by simp [hi])
/-- A slice of slices, out of its two halves. -/
theorem Mem.rows {α : Type} {e1 e2 : TypeId} {enc : α → Value} {v : Value} {vs : List Value} {xss : List (List α)} {n : Nat} (i j : Nat) (h : Mem w0 rs w) (hn : n = vs.length) (hij : i ≠ j) (hi : rs[i]? = some (rOwn e1 1 v n vs)) (hj : rs[j]? = some (rStar (rRow e2 enc vs xss))) :
    Mem w0 [rRows e1 e2 enc v vs xss] w := by
  subst hn
  exact (h.pick (rs' := [_, _]) [i, j] (by simp [hij]) (by simp [hi, hj])).under
theorem Mem.rows' {α : Type} {e1 e2 : TypeId} {enc : α → Value} {v : Value} {vs : List Value} {xss : List (List α)} {n : Nat} (pre : List Res) (idx : List Nat) (i j : Nat) (h : Mem w0 rs w) (hn : n = vs.length) (hnd : (idx ++ [i, j]).Nodup) (hp : idx.map (fun i => rs[i]?) = pre.map some) (hi : rs[i]? = some (rOwn e1 1 v n vs)) (hj : rs[j]? = some (rStar (rRow e2 enc vs xss))) :
    Mem w0 (pre ++ [rRows e1 e2 enc v vs xss]) w := by
  subst hn
  have h1 : Mem w0 (pre ++ [rOwn e1 1 v vs.length vs, rStar (rRow e2 enc vs xss)]) w := h.pick (idx ++ [i, j]) hnd (by simp [hp, hi, hj])
  have h2 : Mem w0 (rStar (rRow e2 enc vs xss) :: rOwn e1 1 v vs.length vs :: pre) w := h1.weaken (fun k => if k = 0 then pre.length + 1 else if k = 1 then pre.length else k - 2) _ (fun a b e ha hb => by
      simp at ha hb
      split at e <;> split at e <;> (try split at e) <;> (try split at e) <;> omega) (fun a r ha => by
    match a, ha with
    | 0, ha => simp at ha; subst ha; simp
    | 1, ha => simp at ha; subst ha; simp
    | k + 2, ha =>
      simp at ha
      have := (List.getElem?_eq_some_iff.1 ha).1
      simp [List.getElem?_append_left this, ha])
  have h3 : Mem w0 (rRow e2 enc vs xss ++ (rOwn e1 1 v vs.length vs :: pre)) w := h2.flat
  have h4 : Mem w0 ((rOwn e1 1 v vs.length vs :: rRow e2 enc vs xss) ++ pre) w := h3.weaken (fun k => if k = 0 then (rRow e2 enc vs xss).length else if k ≤ (rRow e2 enc vs xss).length then k - 1 else k) _ (fun a b e ha hb => by
      simp at ha hb
      split at e <;> split at e <;> (try split at e) <;> (try split at e) <;> omega) (fun a r ha => by
    cases a with
    | zero => simp at ha; subst ha; simp
    | succ k =>
      simp only [List.cons_append, List.getElem?_cons_succ] at ha
      by_cases hk : k < (rRow e2 enc vs xss).length
      · rw [List.getElem?_append_left hk] at ha
        have : k + 1 ≤ (rRow e2 enc vs xss).length := hk
        simp only [Nat.succ_ne_zero, if_false, this, if_true, Nat.add_sub_cancel]
        rw [List.getElem?_append_left hk]; exact ha
      · rw [List.getElem?_append_right (by omega)] at ha
        have : ¬ k + 1 ≤ (rRow e2 enc vs xss).length := by omega
        simp only [Nat.succ_ne_zero, if_false, this]
        rw [List.getElem?_append_right (by omega)]
        have e : k + 1 - (rRow e2 enc vs xss).length = (k - (rRow e2 enc vs xss).length) + 1 := by omega
        rw [e, List.getElem?_cons_succ]; exact ha)
  have h5 : Mem w0 (rRows e1 e2 enc v vs xss :: pre) w := h4.star
  exact h5.weaken (fun k => if k < pre.length then k + 1 else 0) _ (fun a b e ha hb => by
      simp at ha hb
      split at e <;> split at e <;> omega) (fun a r ha => by
    rw [List.getElem?_append] at ha
    split at ha
    · rename_i hlt; simp only [hlt, if_true]; simpa using ha
    · rename_i hge
      have : a - pre.length = 0 := by have := (List.getElem?_eq_some_iff.1 ha).1; simp at this; omega
      rw [this] at ha; simp at ha; subst ha; simp [hge])
end

/-- A chain behind a pointer. -/
structure PtC (w : World) (p : Addr) (st tot : Int) (v : Value) (xss : List (List Int)) (row : Nat → Value) : Prop where
  h0 : w.cell? (p.add 0) = some (.int .i64 st)
  h1 : w.cell? (p.add 1) = some (.int .i64 tot)
  h2 : w.cell? (p.add 2) = some v
  hr : RdS (Value.int .i64) 0 w v xss row
theorem PtC.up {w w' : World} {p : Addr} {st tot : Int} {v : Value} {xss : List (List Int)} {row : Nat → Value} (h : PtC w p st tot v xss row) (hb : Below w.heap.size w w') : PtC w' p st tot v xss row :=
  ⟨cell_up hb h.h0, cell_up hb h.h1, cell_up hb h.h2, h.hr.up hb⟩
theorem ptC_blk {w0 w : World} {rs : List Res} (i : Nat) {b tb : Nat} {st tot : Int} {v : Value} {xss : List (List Int)} {row : Nat → Value} (hi : rs[i]? = some (rBlk b #[.int .i64 st, .int .i64 tot, v] tb)) (hm : Mem w0 rs w) (hr : RdS (Value.int .i64) 0 w v xss row) :
    PtC w ⟨b, 0, none⟩ st tot v xss row :=
  ⟨(ld_blkA (w0 := w0) (off := 0) i hi rfl rfl).cell hm, (ld_blkA (w0 := w0) (off := 1) i hi rfl rfl).cell hm, (ld_blkA (w0 := w0) (off := 2) i hi rfl rfl).cell hm, hr⟩
end Go.Eng
