/- Slices of structs of two cells that grow; operations on bits; conversions of numbers. -/
import Derived.Test.YtgeidbjcphjbiaaLibW
namespace Go.Eng
open Go.RowKit
set_option linter.unusedVariables false

section
variable {P : Program} {N : Nat} {env : Env} {w0 : World} {rs : List Res} {Q : Exit → Act → World → Prop} {ops : Array Oper} {l : List Oper} {d : Nat} {ty : TypeId} {pos : String} {after : Array Edge} {x y : Operand} {u v : Value}

/-- '[]T{x}', x a struct of two cells. -/
theorem hl_build1S {t e bb : Nat} {z z0 z1 u0 u1 : Value} [hT : Slc P t e 2 bb z] (hd : d < N) (hx : env.ev x = some (.agg #[u0, u1])) (hzc : z.cells = #[z0, z1])
    (k : ∀ b, HL P N ((d, .slice (some ⟨b, 0, none⟩) 1 1) :: env) w0 (rs ++ [rOwn e 2 (.slice (some ⟨b, 0, none⟩) 1 1) 1 [u0, u1]]) ops Q l) :
    HL P N env w0 rs ops Q (⟨some d, .buildSlice t 1 #[(0, x)], ty, pos, after, none⟩ :: l) :=
  hl_eff (Φ := fun v' rs' => ∃ b, v' = .slice (some ⟨b, 0, none⟩) 1 1 ∧ rs' = rs ++ [rOwn e 2 (.slice (some ⟨b, 0, none⟩) 1 1) 1 [u0, u1]]) hd
    (fun a hs w hm => by
      obtain ⟨j, hj, hsz, _, hz⟩ := hT.info
      have hfill : Instr.fill (fun i => some (i * 2, 2)) #[z0, z1] [(0, .agg #[u0, u1])] = some #[u0, u1] := by
        simp [Instr.fill, Value.cells]
      have hr : (execOp a.eval ⟨some d, .buildSlice t 1 #[(0, x)], ty, pos, after, none⟩).run P w = .ok (.value (.slice (some ⟨w.heap.size, 0, none⟩) 1 1)) (w.alloc (.cells #[u0, u1] e)) := by
        simp [execOp, hs.ev hx, Instr.buildSlice, run_underlying hT.und, sizeOf, typeInfo, hj, hsz, zeroValue, hz, hzc, newRow, Array.range_succ, Array.range_zero']
        simp [Instr.fill, Value.cells]
      refine ⟨_, _, _, hr, hm.add (r := rOwn e 2 (.slice (some ⟨w.heap.size, 0, none⟩) 1 1) 1 [u0, u1]) (below_alloc w _) ?_ (fun b hb => by simp [rOwn, Value.ownBlock] at hb; omega), _, rfl, rfl⟩
      have := World.ownsRow_lit (base := 0) (e := e) (size := 2) w #[u0, u1] 1 (Nat.zero_le _) (by decide) rfl
      simpa [rOwn] using this)
    (by rintro _ _ ⟨b, rfl, rfl⟩; exact k b)

/-- The append alone, of one struct that was built. -/
theorem hl_appS {t e bb n b : Nat} {z u0 u1 : Value} [hT : Slc P t e 2 bb z] {xs : List Value} (i j : Nat) (hi : rs[i]? = some (rOwn e 2 v n xs)) (hj : rs[j]? = some (rOwn e 2 (.slice (some ⟨b, 0, none⟩) 1 1) 1 [u0, u1])) (hd : d < N)
    (hx : env.ev x = some v) (hy : env.ev y = some (.slice (some ⟨b, 0, none⟩) 1 1)) (h0 : u0.oneCell' = true) (h1 : u1.oneCell' = true) (hn : n < 1099511627776) (hbb : bb ≤ 64)
    (k : ∀ v', SlOk v' (n + 1) → HL P N ((d, v') :: env) w0 (rs.set i (rOwn e 2 v' (n + 1) (xs ++ [u0, u1]))) ops Q l) :
    HL P N env w0 rs ops Q (⟨some d, .call { callee := .builtin .append, args := #[x, y], argTypes := #[t, t] }, ty, pos, after, none⟩ :: l) := by
  refine hl_append (m := 1) (c := 1) (news := [u0, u1]) (ad := ⟨b, 0, none⟩) i hi hd hx hy rfl ?_ (by simp [h0, h1]) (by decide) (by unfold maxLen; omega) ?_ k
  · intro q w hw
    have h0 : (⟨b, 0, none⟩ : Addr).add q = vAt (.slice (some ⟨b, 0, none⟩) 1 1) q := rfl
    rw [h0]
    exact ld_own (e := e) (k := 2) (n := 1) (xs := [u0, u1]) j hj hw
  · have := Nat.mul_le_mul (show n + 1 ≤ 1099511627776 by omega) hbb
    omega
/-- 'append(s, x)', x a struct of two cells: the two operations that it is. -/
theorem hl_pushS {t d' : Nat} {e bb n : Nat} {z z0 z1 u0 u1 : Value} [hT : Slc P t e 2 bb z] {xs : List Value} {ty' : TypeId} {pos' : String} {after' : Array Edge} (i : Nat) (hi : rs[i]? = some (rOwn e 2 v n xs)) (hd : d < N) (hd' : d' < N)
    (hx : env.ev x = some (.agg #[u0, u1])) (h0 : u0.oneCell' = true) (h1 : u1.oneCell' = true) (hzc : z.cells = #[z0, z1]) (hy : ∀ b, Env.ev ((d, .slice (some ⟨b, 0, none⟩) 1 1) :: env) y = some v) (hn : n < 1099511627776) (hbb : bb ≤ 64)
    (k : ∀ v' b, SlOk v' (n + 1) → HL P N ((d', v') :: (d, .slice (some ⟨b, 0, none⟩) 1 1) :: env) w0 (rs.set i (rOwn e 2 v' (n + 1) (xs ++ [u0, u1]))) ops Q l) :
    HL P N env w0 rs ops Q (⟨some d, .buildSlice t 1 #[(0, x)], ty, pos, after, none⟩ :: ⟨some d', .call { callee := .builtin .append, args := #[y, .tmp d], argTypes := #[t, t] }, ty', pos', after', none⟩ :: l) := by
  refine hl_build1S hd hx hzc (fun b => ?_)
  have hlen : i < rs.length := (List.getElem?_eq_some_iff.1 hi).1
  refine hl_appS (b := b) (u0 := u0) (u1 := u1) i rs.length (by rw [List.getElem?_append_left hlen]; exact hi) (by simp) hd' (hy b) (by simp [Env.ev, Env.at]) h0 h1 hn hbb (fun v' hv' => ?_)
  rw [List.set_append_left _ _ hlen]
  refine hl_mem (fun w hm => ?_) (k v' b hv')
  exact Mem.keep _ hm
/-- A store into a cell of a slice of the call's own, whatever its elements are. -/
theorem hl_storeC {t : TypeId} [hT : One P t] {e sz n i : Nat} {xs : List Value} (j : Nat) {p : Addr} (hj : rs[j]? = some (rOwn e sz v n xs)) (hx : env.ev x = some (.pointer (some p))) (hp : p = vAt v i) (hi : i < n * sz) (hy : env.ev y = some u) (hu : u.oneCell' = true)
    (k : HL P N env w0 (rs.set j (rOwn e sz v n (xs.set i u))) ops Q l) : HL P N env w0 rs ops Q (⟨none, .store t x y, ty, pos, after, none⟩ :: l) :=
  eff_skip (fun a hs w hm => by
    subst hp
    have hown : w.ownsRow 0 e sz v n xs := hm.holds j _ hj
    rcases hown.2 with ⟨rfl, rfl⟩ | ⟨g, cap, cur, rfl, _, hg, h1, h2, _⟩
    · omega
    · obtain ⟨h3, h4⟩ := hown.stored i u
      have hlen := hown.1
      have hi' : i < xs.length := by omega
      have hcell : w.cell? ⟨g, i, none⟩ = some xs[i] := by rw [hown.cellAt i (by omega)]; simp [hi']
      have hfr := hown.frozenAt i
      have hc : u.cells = #[u] := by cases u <;> first | rfl | cases hu
      obtain ⟨inf, hinf, hisz⟩ := hT.size
      rw [vAt_own] at hx
      refine ⟨_, ?_, hm.upd (r' := rOwn e sz (.slice (some ⟨g, 0, none⟩) n cap) n (xs.set i u)) hj h4.os h4.tape h4.output h4.size (fun b hb hnf => h4.block b hb (fun e' => hnf (by cases e'; rfl))) h3 (fun b hb => .inl hb)⟩
      simp [execOp, hs.ev hx, hs.ev hy, Instr.storeAt, Instr.sureAddr, storeVar, hc, sizeOf, typeInfo, hinf, hisz, storeCells, Addr.add, run_store P w _ u _ hu, hcell, hfr]) k
end

/-! bits -/
section
variable {P : Program} {N : Nat} {env : Env} {w0 : World} {rs : List Res} {dst : Option Nat} {ty : TypeId} {pos : String} {after : Array Edge} {gd : Option (Nat × Bool)} {x y : Operand} {t t' : TypeId} {k : IntKind} {a b : Nat}
theorem bv_ofInt (a : Nat) : BitVec.ofInt 64 (a : Int) = BitVec.ofNat 64 a := by simp
theorem q_and (hx : env.ev x = some (.int .i64 (a : Int))) (hy : env.ev y = some (.int .i64 (b : Int))) (ha : a < 4611686018427387904) (hb : b < 4611686018427387904) :
    QO P N env w0 rs ⟨dst, .binOp .and t x y t', ty, pos, after, gd⟩ (.int .i64 ((a &&& b : Nat) : Int)) :=
  qo_bin hx hy (by simp [go_sem]) fun w => by
    have h1 : a &&& b ≤ a := Nat.and_le_left
    have h2 : (BitVec.ofInt 64 (a : Int) &&& BitVec.ofInt 64 (b : Int)).toNat = a &&& b := by
      rw [bv_ofInt, bv_ofInt, BitVec.toNat_and, BitVec.toNat_ofNat, BitVec.toNat_ofNat, Nat.mod_eq_of_lt (by omega), Nat.mod_eq_of_lt (by omega)]
    have h3 : IntKind.i64.wrap ((a &&& b : Nat) : Int) = ((a &&& b : Nat) : Int) := IntWalk.i64_in _ (by omega)
    show Sem.run P (pure (Value.int .i64 (IntKind.i64.wrap (((BitVec.ofInt 64 (a : Int) &&& BitVec.ofInt 64 (b : Int)).toNat : Nat) : Int)))) w = _
    rw [h2, h3]; rfl
theorem q_or (hx : env.ev x = some (.int .i64 (a : Int))) (hy : env.ev y = some (.int .i64 (b : Int))) (ha : a < 4611686018427387904) (hb : b < 4611686018427387904) :
    QO P N env w0 rs ⟨dst, .binOp .or t x y t', ty, pos, after, gd⟩ (.int .i64 ((a ||| b : Nat) : Int)) :=
  qo_bin hx hy (by simp [go_sem]) fun w => by
    have h1 : a ||| b < 2 ^ 62 := Nat.or_lt_two_pow (by omega) (by omega)
    have h2 : (BitVec.ofInt 64 (a : Int) ||| BitVec.ofInt 64 (b : Int)).toNat = a ||| b := by
      rw [bv_ofInt, bv_ofInt, BitVec.toNat_or, BitVec.toNat_ofNat, BitVec.toNat_ofNat, Nat.mod_eq_of_lt (by omega), Nat.mod_eq_of_lt (by omega)]
    have h3 : IntKind.i64.wrap ((a ||| b : Nat) : Int) = ((a ||| b : Nat) : Int) := IntWalk.i64_in _ (by omega)
    show Sem.run P (pure (Value.int .i64 (IntKind.i64.wrap (((BitVec.ofInt 64 (a : Int) ||| BitVec.ofInt 64 (b : Int)).toNat : Nat) : Int)))) w = _
    rw [h2, h3]; rfl
theorem q_shr {k2 : IntKind} (hx : env.ev x = some (.int .i64 (a : Int))) (hy : env.ev y = some (.int k2 (b : Int))) (hb : b < 64) :
    QO P N env w0 rs ⟨dst, .binOp .shr t x y t', ty, pos, after, gd⟩ (.int .i64 ((a >>> b : Nat) : Int)) :=
  qo_bin hx hy (by simp [go_sem]) fun w => by
    have h1 : min b 64 = b := by omega
    have h2 : Int.fdiv (a : Int) (2 ^ b) = ((a >>> b : Nat) : Int) := by
      rw [Nat.shiftRight_eq_div_pow, Int.fdiv_eq_ediv_of_nonneg _ (by exact_mod_cast Nat.zero_le (2 ^ b))]
      simp
    have h3 : ¬ ((b : Int) < 0) := by omega
    simp only [binOp, Op.shift, IntKind.bits, h3, if_false, Int.toNat_natCast, h1]
    rw [h2]; rfl
theorem q_shl {k2 : IntKind} (hx : env.ev x = some (.int .i64 (a : Int))) (hy : env.ev y = some (.int k2 (b : Int))) (hb : b < 64) (hr : a * 2 ^ b < 4611686018427387904) :
    QO P N env w0 rs ⟨dst, .binOp .shl t x y t', ty, pos, after, gd⟩ (.int .i64 ((a * 2 ^ b : Nat) : Int)) :=
  qo_bin hx hy (by simp [go_sem]) fun w => by
    have h1 : min b 64 = b := by omega
    have h2 : ((a : Int) * 2 ^ b) = ((a * 2 ^ b : Nat) : Int) := by simp
    have h3 : ¬ ((b : Int) < 0) := by omega
    have h4 : IntKind.i64.wrap ((a * 2 ^ b : Nat) : Int) = ((a * 2 ^ b : Nat) : Int) := IntWalk.i64_in _ (by omega)
    simp only [binOp, Op.shift, IntKind.bits, h3, if_false, Int.toNat_natCast, h1]
    rw [h2, h4]; rfl
end
end Go.Eng
