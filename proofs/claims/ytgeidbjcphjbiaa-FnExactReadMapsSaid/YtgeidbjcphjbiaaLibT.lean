/- Engine: texts: sums, tests, bytes, cuts, texts of bytes; parts of slices and arrays; integers of other kinds. -/
import Derived.Test.YtgeidbjcphjbiaaLibP
import Derived.Test.YtgeidbjcphjbiaaF22
import Derived.Laws.IdiomStrings
import Derived.Laws.Concat
namespace Go.Eng
open Go.RowKit
set_option linter.unusedVariables false

/-- A text's value. -/
abbrev sV (l : List UInt8) : Value := .string ⟨l.toArray⟩
/-- 's[i:]' of a slice of one-cell values. -/
def sufV : Value → Nat → Value
  | .slice a n c, i => .slice (if c = i then a else a.map (·.add i)) (n - i) (c - i)
  | v, _ => v
theorem sufV_ok {v : Value} {n i : Nat} (h : SlOk v n) (hi : i ≤ n) : SlOk (sufV v i) (n - i) := by
  unfold SlOk at h ⊢
  obtain ⟨a, c, rfl, h1, h2, h3⟩ := h
  refine ⟨_, _, rfl, by omega, by omega, fun e => ?_⟩
  have := h3 (by omega)
  split <;> simp [this]
theorem add_add (a : Addr) (i j : Nat) : (a.add i).add j = a.add (i + j) := by
  unfold Addr.add
  by_cases h1 : i = 0 <;> by_cases h2 : j = 0 <;> simp [h1, h2, Nat.add_assoc]
theorem sufV_at {v : Value} {n i : Nat} (h : SlOk v n) (j : Nat) (hj : i + j < n) : vAt (sufV v i) j = vAt v (i + j) := by
  unfold SlOk at h
  obtain ⟨a, c, rfl, h1, h2, h3⟩ := h
  have hc : ¬ c = i := by omega
  have ha := h3 (by omega)
  cases a with
  | none => simp at ha
  | some a => simp [sufV, hc, vAt, add_add]
theorem RdE.suf {α : Type} {enc : α → Value} {d : α} {w : World} {v : Value} {xs : List α} (h : RdE enc d w v xs) {i : Nat} (hi : i ≤ xs.length) : RdE enc d w (sufV v i) (xs.drop i) := by
  refine ⟨?_, fun j hj => ?_⟩
  · rw [List.length_drop]; exact sufV_ok h.sl hi
  · rw [List.length_drop] at hj
    rw [sufV_at h.sl j (by omega), h.get (i + j) (by omega)]
    simp [List.getD_eq_getElem?_getD]

section
variable {P : Program} {N : Nat} {env : Env} {w0 : World} {rs : List Res} {Q : Exit → Act → World → Prop} {ops : Array Oper} {l : List Oper} {d : Nat} {dst : Option Nat} {ty : TypeId} {pos : String} {after : Array Edge} {gd : Option (Nat × Bool)} {x y z : Operand} {t t' : TypeId} {a b : List UInt8} {v : Value}
theorem q_eqS (hx : env.ev x = some (sV a)) (hy : env.ev y = some (sV b)) : QO P N env w0 rs ⟨dst, .binOp .eql t x y t', ty, pos, after, gd⟩ (.bool (decide (a = b))) := by
  have h := q_eqlS (P := P) (N := N) (w0 := w0) (rs := rs) (dst := dst) (ty := ty) (pos := pos) (after := after) (gd := gd) (t := t) (t' := t') hx hy
  simpa only [ByteArray.toList_mk] using h
theorem q_neS (hx : env.ev x = some (sV a)) (hy : env.ev y = some (sV b)) : QO P N env w0 rs ⟨dst, .binOp .neq t x y t', ty, pos, after, gd⟩ (.bool (decide (a ≠ b))) := by
  have h := q_neqS (P := P) (N := N) (w0 := w0) (rs := rs) (dst := dst) (ty := ty) (pos := pos) (after := after) (gd := gd) (t := t) (t' := t') hx hy
  simpa only [ByteArray.toList_mk] using h
theorem q_catS (hx : env.ev x = some (sV a)) (hy : env.ev y = some (sV b)) (h : a.length + b.length ≤ 9223372036854775807) : QO P N env w0 rs ⟨dst, .binOp .add t x y t', ty, pos, after, gd⟩ (sV (a ++ b)) :=
  qo_bin hx hy (by simp [go_sem]) fun w => by
    rw [binOp_string_add, run_string_add_sum w _ _ (by simpa [ByteArray.size] using h), ByteArray.mk_append_mk]
theorem q_lenS {ty' : TypeId} [hT : StrT P t] (hx : env.ev x = some (sV a)) : QO P N env w0 rs ⟨dst, .call { callee := .builtin .len, args := #[x], argTypes := #[t] }, ty', pos, after, gd⟩ (.int .i64 (a.length : Int)) := qo_val fun ac hs w _ => by
  have he : (⟨a.toArray⟩ : ByteArray).size = a.length := by simp [ByteArray.size]
  simp [execOp, resolve, invoke, builtin, hs.ev hx, Builtin.len_, run_underlying hT.und, goInt, he]
theorem q_idxS [hT : StrT P t] {i : Nat} {k : IntKind} (hx : env.ev x = some (sV a)) (hy : env.ev y = some (.int k (i : Int))) (hi : i < a.length) : QO P N env w0 rs ⟨dst, .index t x y, ty, pos, after, gd⟩ (.int .u8 ((a.getD i 0).toNat : Int)) := qo_val fun ac hs w _ => by
  have h := run_index_string (P := P) w t ⟨a.toArray⟩ k (i : Int) hT.und
  have hx' := hs.ev hx
  have hy' := hs.ev hy
  have hs' : (0 : Int) ≤ (i : Int) ∧ (i : Int) < ((⟨a.toArray⟩ : ByteArray).size : Int) := by
    have e : (⟨a.toArray⟩ : ByteArray).size = a.length := by simp [ByteArray.size]
    rw [e]; omega
  rw [dif_pos hs'] at h
  have e2 : (a.getD i 0) = (⟨a.toArray⟩ : ByteArray)[(i : Int).toNat]'(by omega) := by
    simp only [Int.toNat_natCast]
    rw [List.getD_eq_getElem?_getD, List.getElem?_eq_getElem hi]
    rfl
  rw [e2]
  unfold execOp
  simp only [hx', hy', Sem.run_bind, h]
  rfl
/-- 's[i:j]' of a text. -/
theorem q_cutS [hT : StrT P t] {i j : Nat} {k k' : IntKind} (hx : env.ev x = some (sV a)) (hy : env.ev y = some (.int k (i : Int))) (hz : env.ev z = some (.int k' (j : Int))) (hi : i ≤ j) (hj : j ≤ a.length) : QO P N env w0 rs ⟨dst, .slice t x (some y) (some z) none, ty, pos, after, gd⟩ (sV ((a.take j).drop i)) := qo_val fun ac hs w _ => by
  have he : (⟨a.toArray⟩ : ByteArray).size = a.length := by simp [ByteArray.size]
  have hc : (⟨a.toArray⟩ : ByteArray).extract i j = ⟨((a.take j).drop i).toArray⟩ := by
    apply ByteArray.ext
    rw [ByteArray.data_extract]
    simp [List.drop_take]
  have h1 : j ≤ a.length := hj
  have h2 : i ≤ j := hi
  simp [execOp, hs.ev hx, hs.ev hy, hs.ev hz, Instr.sliceAt, Instr.slice, run_underlying hT.und, Instr.sliceBounds, Instr.sliceBound, asIntOf, he, h1, h2, hc]
/-- 's[i:]' of a text. -/
theorem q_sufS [hT : StrT P t] {i : Nat} {k : IntKind} (hx : env.ev x = some (sV a)) (hy : env.ev y = some (.int k (i : Int))) (hi : i ≤ a.length) : QO P N env w0 rs ⟨dst, .slice t x (some y) none none, ty, pos, after, gd⟩ (sV (a.drop i)) := qo_val fun ac hs w _ => by
  have he : (⟨a.toArray⟩ : ByteArray).size = a.length := by simp [ByteArray.size]
  have hc : (⟨a.toArray⟩ : ByteArray).extract i a.length = ⟨(a.drop i).toArray⟩ := by
    apply ByteArray.ext
    rw [ByteArray.data_extract]
    simp [List.take_of_length_le]
  have h1 : i ≤ a.length := hi
  simp [execOp, hs.ev hx, hs.ev hy, Instr.sliceAt, Instr.slice, run_underlying hT.und, Instr.sliceBounds, Instr.sliceBound, asIntOf, he, h1, hc]
/-- 's[:j]' of a text. -/
theorem q_preS [hT : StrT P t] {j : Nat} {k : IntKind} (hx : env.ev x = some (sV a)) (hy : env.ev y = some (.int k (j : Int))) (hj : j ≤ a.length) : QO P N env w0 rs ⟨dst, .slice t x none (some y) none, ty, pos, after, gd⟩ (sV (a.take j)) := qo_val fun ac hs w _ => by
  have he : (⟨a.toArray⟩ : ByteArray).size = a.length := by simp [ByteArray.size]
  have hc : (⟨a.toArray⟩ : ByteArray).extract 0 j = ⟨(a.take j).toArray⟩ := by
    apply ByteArray.ext
    rw [ByteArray.data_extract]
    simp
  have h1 : j ≤ a.length := hj
  simp [execOp, hs.ev hx, hs.ev hy, Instr.sliceAt, Instr.slice, run_underlying hT.und, Instr.sliceBounds, Instr.sliceBound, asIntOf, he, h1, hc]
/-- 's[i:]' of a slice. -/
theorem q_suf {e bb : Nat} {zz : Value} [hT : Slc P t e 1 bb zz] {n i : Nat} {k : IntKind} (hx : env.ev x = some v) (hy : env.ev y = some (.int k (i : Int))) (hs' : SlOk v n) (hi : i ≤ n) : QO P N env w0 rs ⟨dst, .slice t x (some y) none none, ty, pos, after, gd⟩ (sufV v i) := qo_val fun ac hs w _ => by
  obtain ⟨j, hj, hsz, _, hz⟩ := hT.info
  unfold SlOk at hs'
  obtain ⟨a0, c, rfl, h1, h2, h3⟩ := hs'
  have hx' := hs.ev hx
  have hy' := hs.ev hy
  have hb : i ≤ n := hi
  have hsl : (Instr.slice t (.slice a0 n c) (some (.int k (i : Int))) none none).run P w = .ok (sufV (.slice a0 n c) i) w := by
    simp [Instr.slice, run_underlying hT.und, Instr.sliceBounds, Instr.sliceBound, asIntOf, sizeOf, typeInfo, hj, hsz, hb, sufV]
  have hsa : (Instr.sliceAt t (.slice a0 n c) (some (.int k (i : Int))) none none).run P w = .ok (sufV (.slice a0 n c) i) w := by
    simp [Instr.sliceAt, run_underlying hT.und, hsl]
  simp [execOp, hx', hy', hsa]
/-- 's[i:]' of an array's variable. -/
theorem q_sufA {n e : Nat} [hT : Arr P t n e 1] {p : Addr} {i : Nat} {k : IntKind} (hx : env.ev x = some (.pointer (some p))) (hy : env.ev y = some (.int k (i : Int))) (hi : i < n) : QO P N env w0 rs ⟨dst, .slice t x (some y) none none, ty, pos, after, gd⟩ (.slice (some (p.add i)) (n - i) (n - i)) := qo_val fun ac hs w _ => by
  obtain ⟨j, hj, hsz⟩ := hT.info
  have hb : i ≤ n := by omega
  have hne : ¬ n = i := by omega
  simp [execOp, hs.ev hx, hs.ev hy, Instr.sliceAt, run_underlying hT.und, Instr.sureAddr, Instr.sliceBounds, Instr.sliceBound, asIntOf, sizeOf, typeInfo, hj, hsz, hb, hne]
/-- 'string(b)' of bytes. -/
theorem q_b2s {s e bb sz : Nat} {zz : Value} [hT : Slc P s e sz bb zz] [hI : IntT P e .u8] [hS : StrT P t] {p : Addr} {c : Nat} (a : List UInt8) (hx : env.ev x = some (.slice (some p) a.length c)) (hc : ∀ j, j < a.length → Ld w0 rs (p.add j) (.int .u8 ((a.getD j 0).toNat : Int))) :
    QO P N env w0 rs ⟨dst, .convert s t x, ty, pos, after, gd⟩ (sV a) := qo_val fun ac hs w hm => by
  have h := run_convert_bytes_back (P := P) w s t e p c a hT.und hI.und hS.und (fun j hj => by
    have h1 := (hc j hj).cell hm
    rw [h1, getD_lt _ _ _ hj])
  simp [execOp, hs.ev hx, h]

/-! integers of any kind -/
section
variable {k : IntKind} {m n : Int}
theorem q_addK (hx : env.ev x = some (.int k m)) (hy : env.ev y = some (.int k n)) (hr : k.wrap (m + n) = m + n) : QO P N env w0 rs ⟨dst, .binOp .add t x y t', ty, pos, after, gd⟩ (.int k (m + n)) :=
  qo_bin hx hy (by simp [go_sem]) fun w => by simp [go_sem, hr]
theorem q_subK (hx : env.ev x = some (.int k m)) (hy : env.ev y = some (.int k n)) (hr : k.wrap (m - n) = m - n) : QO P N env w0 rs ⟨dst, .binOp .sub t x y t', ty, pos, after, gd⟩ (.int k (m - n)) :=
  qo_bin hx hy (by simp [go_sem]) fun w => by simp [go_sem, hr]
theorem q_conv {s : TypeId} {k' : IntKind} [hS : IntT P s k] [hT : IntT P t k'] (hx : env.ev x = some (.int k m)) (hr : k'.wrap m = m) : QO P N env w0 rs ⟨dst, .convert s t x, ty, pos, after, gd⟩ (.int k' m) := qo_val fun ac hs w hm => by
  have h2 : (convert s t (.int k m)).run P w = .ok (.int k' m) w := by
    simp [convert, run_underlying hS.und, run_underlying hT.und, Conv.intToInt, hr]
  simp [execOp, hs.ev hx, h2]
end
theorem wrap_u64 {m : Int} (h0 : 0 ≤ m) (h1 : m < 18446744073709551616) : IntKind.u64.wrap m = m := by
  simp only [IntKind.wrap, IntKind.bits, IntKind.signed]; simp; omega
theorem wrap_u64N {m : Nat} (h1 : m < 18446744073709551616) : IntKind.u64.wrap (m : Int) = m := wrap_u64 (by omega) (by omega)
theorem wrap_u8 {m : Int} (h0 : 0 ≤ m) (h1 : m < 256) : IntKind.u8.wrap m = m := by
  simp only [IntKind.wrap, IntKind.bits, IntKind.signed]; simp; omega
theorem wrap_i64 {m : Int} (h0 : -9223372036854775808 ≤ m) (h1 : m ≤ 9223372036854775807) : IntKind.i64.wrap m = m := IntWalk.i64_in _ ⟨h0, h1⟩
section
variable {m n : Nat}
theorem q_quoU (hx : env.ev x = some (.int .u64 (m : Int))) (hy : env.ev y = some (.int .u64 (n : Int))) (hm : m < 18446744073709551616) (hn : 0 < n) :
    QO P N env w0 rs ⟨dst, .binOp .quo t x y t', ty, pos, after, gd⟩ (.int .u64 ((m / n : Nat) : Int)) :=
  qo_bin hx hy (by simp [go_sem]) fun w => by
    have h2 : m / n ≤ m := Nat.div_le_self m n
    have h3 : (m : Int).tdiv (n : Int) = ((m / n : Nat) : Int) := by rw [Int.tdiv_eq_ediv_of_nonneg (by omega)]; simp
    have h0 : (n : Int) ≠ 0 := by omega
    have hw : IntKind.u64.wrap ((m / n : Nat) : Int) = ((m / n : Nat) : Int) := wrap_u64N (Nat.lt_of_le_of_lt h2 hm)
    have h00 : n ≠ 0 := by omega
    simp only [Int.natCast_ediv] at h3 hw
    simp [go_sem, h00, h3, hw]
theorem q_remU (hx : env.ev x = some (.int .u64 (m : Int))) (hy : env.ev y = some (.int .u64 (n : Int))) (hm : m < 18446744073709551616) (hn : 0 < n) :
    QO P N env w0 rs ⟨dst, .binOp .rem t x y t', ty, pos, after, gd⟩ (.int .u64 ((m % n : Nat) : Int)) :=
  qo_bin hx hy (by simp [go_sem]) fun w => by
    have h3 : (m : Int).tmod (n : Int) = ((m % n : Nat) : Int) := by rw [Int.tmod_eq_emod_of_nonneg (by omega)]; simp
    have h0 : (n : Int) ≠ 0 := by omega
    have h2 : m % n ≤ m := Nat.mod_le m n
    have hw : IntKind.u64.wrap ((m % n : Nat) : Int) = ((m % n : Nat) : Int) := wrap_u64N (Nat.lt_of_le_of_lt h2 hm)
    have h00 : n ≠ 0 := by omega
    simp only [Int.natCast_emod] at h3 hw
    simp [go_sem, h00, h3, hw]
end
end
section
variable {P : Program} {N : Nat} {env : Env} {w0 : World} {rs : List Res} {Q : Exit → Act → World → Prop}
theorem hw_codeJ (E : Env) (R : List Res) {c : Code} (h : HW P N env w0 rs c (Exit.then (Joined N E w0 R) Q)) (k : HX N E w0 R (Q .normal)) : HW P N env w0 rs c Q := by
  unfold HW at h ⊢
  unfold HX at k
  intro a w hs hmem
  refine wp_mono (h a w hs hmem) ?_
  intro e a' w' hq
  cases e with
  | normal => exact k a' w' hq.1 hq.2
  | _ => exact hq
end
end Go.Eng
