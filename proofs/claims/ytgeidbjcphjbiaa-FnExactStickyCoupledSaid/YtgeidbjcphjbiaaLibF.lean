/- Calls that write into a resource of the caller's, where something is known of the base; calls of function values that write. -/
import Derived.Test.YtgeidbjcphjbiaaLibP
namespace Go.Eng
open Go.RowKit
set_option linter.unusedVariables false
section
variable {P : Program} {N : Nat} {env : Env} {w0 : World} {rs : List Res} {Q : Exit → Act → World → Prop} {ops : Array Oper} {l : List Oper} {d : Nat} {ty : TypeId} {pos : String} {after : Array Edge}
/-- The call writes into r, beside F, over the base w0. -/
def MutF (P : Program) (f : FuncId) (args : List Value) (w0 : World) (r F : Res) (Φ : Value → Res → Prop) : Prop :=
  ∀ w : World, Mem w0 [r, F] w → Calls P f args.toArray w fun e w' => ∃ v r', e = .returned v ∧ Φ v r' ∧ Mem w0 [r', F] w'
theorem mutF_hw {f : FuncId} {fn : Func} {c : Code} {vs : List Value} {r F : Res} {Φ : Value → Res → Prop} (hf : P.funcs[f]? = some fn) (hN : fn.ntmps = N) (hb : fn.body = some c) (hn : Nat.ble vs.length N = true)
    (h : HW P N (envOf 0 vs) w0 [r, F] c (bodyPost P fn fun e w' => ∃ v r', e = .returned v ∧ Φ v r' ∧ Mem w0 [r', F] w')) : MutF P f vs w0 r F Φ := fun w hm => by
  have hn' := Nat.le_of_ble_eq_true hn
  subst hN
  unfold HW at h
  refine calls_of_wp hf hb (h _ w ⟨?_, rfl, fun n v hv => ?_⟩ hm)
  · simp; omega
  · obtain ⟨_, h2⟩ := envOf_at vs 0 n v hv
    have hlt := (List.getElem?_eq_some_iff.1 h2).1
    rw [Array.getElem?_append_left (by simpa using hlt)]
    simpa using h2
theorem hl_mutF {f : FuncId} [hB : Body P f] {args : Array Operand} {ats : Array TypeId} {vs : List Value} {r : Res} {Φ : Value → Res → Prop} (i : Nat) (hi : rs[i]? = some r) (hd : d < N)
    (hcall : MutF P f vs w0 r (rStar (rs.eraseIdx i)) Φ) (hargs : args.toList.map env.ev = vs.map some) (k : ∀ v r', Φ v r' → HL P N ((d, v) :: env) w0 (rs.set i r') ops Q l) :
    HL P N env w0 rs ops Q (⟨some d, .call { callee := .value (.func f), args := args, argTypes := ats }, ty, pos, after, none⟩ :: l) := by
  unfold HL at k ⊢
  exact fun a w hs hm => wpList_plain rfl fun K hK => by
    have hmap := args_eval hs hargs
    unfold Oper.wp
    have hrun : (execOp a.eval ⟨some d, .call { callee := .value (.func f), args := args, argTypes := ats }, ty, pos, after, none⟩).run P w = .ok (.enter f vs.toArray) w := by
      simp [execOp, resolve, Deferred.ofValue, invoke, Act.eval, hmap, hB.run]
    rw [hrun]
    refine (hcall w (hm.focus hi)).mono ?_
    rintro e w' ⟨v, r', rfl, hΦ, hm'⟩
    exact hK _ _ (k v r' hΦ _ _ (hs.put v hd) (hm'.unfocus hi))
theorem hl_mutFv {t : Nat} {f : FuncId} [hB : Body P f] {args : Array Operand} {ats : Array TypeId} {vs : List Value} {fs cs : Array Value} {r : Res} {Φ : Value → Res → Prop} (i : Nat) (hi : rs[i]? = some r) (ht : env.at t = some (.func (.func f) fs cs)) (hd : d < N)
    (hargs : args.toList.map env.ev = vs.map some) (hcall : MutF P f (fs.toList ++ vs ++ cs.toList) w0 r (rStar (rs.eraseIdx i)) Φ) (k : ∀ v r', Φ v r' → HL P N ((d, v) :: env) w0 (rs.set i r') ops Q l) :
    HL P N env w0 rs ops Q (⟨some d, .call { callee := .value (.tmp t), args := args, argTypes := ats }, ty, pos, after, none⟩ :: l) := by
  unfold HL at k ⊢
  exact fun a w hs hm => wpList_plain rfl fun K hK => by
    have hmap := args_eval hs hargs
    have h1 : a.eval (.tmp t) = .func (.func f) fs cs := hs.ev ht
    unfold Oper.wp
    have hrun : (execOp a.eval ⟨some d, .call { callee := .value (.tmp t), args := args, argTypes := ats }, ty, pos, after, none⟩).run P w = .ok (.enter f (fs ++ vs.toArray ++ cs)) w := by
      simp [execOp, resolve, Deferred.ofValue, invoke, h1, hmap, hB.run]
    rw [hrun]
    have he : fs ++ vs.toArray ++ cs = (fs.toList ++ vs ++ cs.toList).toArray := by simp
    rw [he]
    refine (hcall w (hm.focus hi)).mono ?_
    rintro e w' ⟨v, r', rfl, hΦ, hm'⟩
    exact hK _ _ (k v r' hΦ _ _ (hs.put v hd) (hm'.unfocus hi))
end
end Go.Eng
