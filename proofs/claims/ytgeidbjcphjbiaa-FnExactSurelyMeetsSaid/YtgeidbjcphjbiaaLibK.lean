/- Engine: a set of numbers in a map of Bools that the call made; method values. -/
import Derived.Test.YtgeidbjcphjbiaaLibR
import Derived.MapKept
namespace Go.Eng
open Go.RowKit
set_option linter.unusedVariables false

/-- A map of the call's own: these keys, all true. -/
def rSet (b : Nat) (ks : List Int) : Res where
  foot := fun b' => b' = b
  holds := fun w => ∃ (es : Array MapEntry) (clock : Nat), w.heap[b]? = some (.map es clock) ∧ es.toList.map (fun e => (e.key, e.val)) = ks.map fun k => (Value.int .i64 k, Value.bool true)
  bnd := fun w h b' hb => by obtain ⟨es, c, h, _⟩ := h; subst hb; exact (Array.getElem?_eq_some_iff.1 h).1
  loc := fun w w' h hs => by obtain ⟨es, c, h, h2⟩ := h; exact ⟨es, c, by rw [hs b rfl]; exact h, h2⟩

theorem find_keys {es : List MapEntry} {ks : List Int} (h : es.map (fun e => (e.key, e.val)) = ks.map fun k => (Value.int .i64 k, Value.bool true)) (x : Int) :
    (x ∉ ks ∧ Instr.findNow (.int .i64) (.int .i64 x) es 0 = some none) ∨ (x ∈ ks ∧ ∃ j, Instr.findNow (.int .i64) (.int .i64 x) es 0 = some (some (j, .bool true))) := by
  have hmem : ∀ e ∈ es, ∃ k ∈ ks, e.key = .int .i64 k ∧ e.val = .bool true := fun e he => by
    have h1 : (e.key, e.val) ∈ es.map (fun e => (e.key, e.val)) := List.mem_map.2 ⟨e, he, rfl⟩
    rw [h] at h1
    obtain ⟨k, hk, h2⟩ := List.mem_map.1 h1
    simp only [Prod.mk.injEq] at h2
    exact ⟨k, hk, h2.1.symm, h2.2.symm⟩
  have hback : ∀ k ∈ ks, ∃ e ∈ es, e.key = .int .i64 k := fun k hk => by
    have h1 : (Value.int .i64 k, Value.bool true) ∈ ks.map fun k => (Value.int .i64 k, Value.bool true) := List.mem_map.2 ⟨k, hk, rfl⟩
    rw [← h] at h1
    obtain ⟨e, he, h2⟩ := List.mem_map.1 h1
    simp only [Prod.mk.injEq] at h2
    exact ⟨e, he, h2.1⟩
  have hkey : ∀ e ∈ es, MapKept.IsKey (.int .i64) e.key := fun e he => by
    obtain ⟨k, _, h1, _⟩ := hmem e he
    rw [h1]; exact rfl
  rcases MapKept.findNow_spec (d := .int .i64) (k := .int .i64 x) rfl es 0 hkey with ⟨h1, h2⟩ | ⟨j, e, h1, h2, h3⟩
  · refine .inl ⟨fun hx => ?_, h1⟩
    obtain ⟨e, he, h4⟩ := hback x hx
    exact h2 e he h4
  · have he := List.mem_of_getElem? h2
    obtain ⟨k, hk, h4, h5⟩ := hmem e he
    rw [h3] at h4
    simp only [Value.int.injEq, true_and] at h4
    refine .inr ⟨by rw [h4]; exact hk, 0 + j, by rw [h1, h5]⟩

section
variable {P : Program} {N : Nat} {env : Env} {w0 : World} {rs : List Res} {Q : Exit → Act → World → Prop} {ops : Array Oper} {l : List Oper} {d : Nat} {dst : Option Nat} {gd : Option (Nat × Bool)} {ty : TypeId} {pos : String} {after : Array Edge} {x y z : Operand} {u v : Value} {t kt et : TypeId} {b : Nat} {ks : List Int} {a : Int}
theorem hl_makeMap (hd : d < N) (k : ∀ b, HL P N ((d, .map (some b)) :: env) w0 (rs ++ [rSet b []]) ops Q l) : HL P N env w0 rs ops Q (⟨some d, .makeMap t none, ty, pos, after, none⟩ :: l) :=
  hl_eff (Φ := fun v' rs' => ∃ b, v' = .map (some b) ∧ rs' = rs ++ [rSet b []]) hd
    (fun a hs w hm => ⟨.map (some w.heap.size), w.alloc (.map #[] 0), rs ++ [rSet w.heap.size []], by simp [execOp, RowKit.run_makeMap], hm.add (r := rSet w.heap.size []) (below_alloc w _) ⟨#[], 0, by show (w.heap.push _)[w.heap.size]? = _; simp, rfl⟩ (fun b hb => by have : b = w.heap.size := hb; omega), w.heap.size, rfl, rfl⟩)
    (by rintro v' _ ⟨b, rfl, rfl⟩; exact k b)
theorem q_lookup (i : Nat) [hZ : Zero P et (.bool false)] (ht : P.underlying t = some (.map kt et)) (hk : P.underlying kt = some (.int .i64)) (hi : rs[i]? = some (rSet b ks)) (hx : env.ev x = some (.map (some b))) (hy : env.ev y = some (.int .i64 a)) :
    QO P N env w0 rs ⟨dst, .lookup t x y false, ty, pos, after, gd⟩ (.bool (decide (a ∈ ks))) := qo_val fun ac hs w hm => by
  obtain ⟨es, clock, hb, hes⟩ : (rSet b ks).holds w := hm.holds i _ hi
  have hx' := hs.ev hx
  have hy' := hs.ev hy
  have hkey : MapKept.IsKey (.int .i64) (.int .i64 a) := rfl
  rcases find_keys hes a with ⟨hn, hf⟩ | ⟨hn, j, hf⟩
  · rw [decide_eq_false hn]
    have h1 : (Instr.lookup t (.map (some b)) (.int .i64 a) false).run P w = .ok (.bool false) w := by
      simp [Instr.lookup, run_underlying ht, MapKept.run_getObj_map hb, MapKept.run_checkKey (P := P) hk hkey, MapKept.run_findKey (P := P) hk hf, Result.andThen, hZ.run w]
    simp [execOp, hx', hy', h1]
  · rw [decide_eq_true hn]
    have h1 : (Instr.lookup t (.map (some b)) (.int .i64 a) false).run P w = .ok (.bool true) w := by
      simp [Instr.lookup, run_underlying ht, MapKept.run_getObj_map hb, MapKept.run_checkKey (P := P) hk hkey, MapKept.run_findKey (P := P) hk hf, Result.andThen]
    simp [execOp, hx', hy', h1]
theorem run_putKey {w : World} (i : Nat) (ht : P.underlying t = some (.map kt et)) (hk : P.underlying kt = some (.int .i64)) (hm : Mem w0 rs w) (hi : rs[i]? = some (rSet b ks)) (ha : a ∉ ks) :
    ∃ w', (Instr.mapUpdate t (.map (some b)) (.int .i64 a) (.bool true)).run P w = .ok () w' ∧ Mem w0 (rs.set i (rSet b (ks ++ [a]))) w' := by
  obtain ⟨es, clock, hb, hes⟩ : (rSet b ks).holds w := hm.holds i _ hi
  have hkey : MapKept.IsKey (.int .i64) (.int .i64 a) := rfl
  rcases find_keys hes a with ⟨hn, hf⟩ | ⟨hn, j, hf⟩
  · have hset := MapKept.heap_set (o' := .map (es.push { key := .int .i64 a, val := .bool true, born := clock }) (clock + 1)) hb
    refine ⟨{ w with heap := w.heap.setIfInBounds b (.map (es.push { key := .int .i64 a, val := .bool true, born := clock }) (clock + 1)) }, ?_, hm.upd (r' := rSet b (ks ++ [a])) hi rfl rfl rfl (by simp) (fun b' _ hne => hset.2 b' (fun e => hne e)) ⟨_, _, hset.1, ?_⟩ (fun b' hb' => .inl hb')⟩
    · simp [Instr.mapUpdate, run_underlying ht, MapKept.run_getObj_map hb, MapKept.run_checkKey (P := P) hk hkey, MapKept.run_findKey (P := P) hk hf, MapKept.run_setObj_map _ hb, Result.andThen]
    · simp [hes]
  · exact absurd hn ha
theorem hl_update (i : Nat) (ht : P.underlying t = some (.map kt et)) (hk : P.underlying kt = some (.int .i64)) (hi : rs[i]? = some (rSet b ks)) (hx : env.ev x = some (.map (some b))) (hy : env.ev y = some (.int .i64 a)) (hz : env.ev z = some (.bool true)) (ha : a ∉ ks)
    (k : HL P N env w0 (rs.set i (rSet b (ks ++ [a]))) ops Q l) : HL P N env w0 rs ops Q (⟨none, .mapUpdate t x y z, ty, pos, after, none⟩ :: l) :=
  eff_skip (fun ac hs w hm => by
    obtain ⟨w', h1, h2⟩ := run_putKey (P := P) i ht hk hm hi ha
    exact ⟨w', by simp [execOp, hs.ev hx, hs.ev hy, hs.ev hz, h1], h2⟩) k
theorem hl_insert (i : Nat) (ht : P.underlying t = some (.map kt et)) (hk : P.underlying kt = some (.int .i64)) (hi : rs[i]? = some (rSet b ks)) (hx : env.ev x = some (.map (some b))) (hy : env.ev y = some (.int .i64 a)) (hz : env.ev z = some (.bool true)) (ha : a ∉ ks)
    (k : HL P N env w0 (rs.set i (rSet b (ks ++ [a]))) ops Q l) : HL P N env w0 rs ops Q (⟨none, .insert t x y z, ty, pos, after, none⟩ :: l) :=
  eff_skip (fun ac hs w hm => by
    obtain ⟨w', h1, h2⟩ := run_putKey (P := P) i ht hk hm hi ha
    exact ⟨w', by simp [execOp, hs.ev hx, hs.ev hy, hs.ev hz, h1], h2⟩) k
/-- A method value. -/
theorem q_meth {f : FuncId} {fst : Array Operand} (cs : List Value) (hc : fst.toList.map env.ev = cs.map some) : QO P N env w0 rs ⟨dst, .makeFunc (.func f) fst #[], ty, pos, after, gd⟩ (.func (.func f) cs.toArray #[]) := qo_val fun a hs w _ => by
  have h1 := args_eval hs hc
  simp [execOp, Instr.makeFunc, h1]
end
end Go.Eng
