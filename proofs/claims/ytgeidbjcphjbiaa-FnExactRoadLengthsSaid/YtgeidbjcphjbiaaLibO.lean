/- Engine: stores into rows of slices of slices; slices of structs of three numbers. -/
import Derived.Test.YtgeidbjcphjbiaaLibP
namespace Go.Eng
open Go.RowKit
set_option linter.unusedVariables false

section
variable {P : Program} {N : Nat} {env : Env} {w0 : World} {rs : List Res} {Q : Exit → Act → World → Prop} {ops : Array Oper} {l : List Oper} {d : Nat} {dst : Option Nat} {gd : Option (Nat × Bool)} {ty : TypeId} {pos : String} {after : Array Edge} {x y : Operand} {u v : Value}
theorem storeOwn_run {a : Act} {w : World} {t : TypeId} [hT : One P t] {e n i : Nat} {xs : List Value} (j : Nat) (hm : Mem w0 rs w) (hj : rs[j]? = some (rOwn e 1 v n xs)) (hx : a.eval x = .pointer (some (vAt v i))) (hi : i < n) (hy : a.eval y = u) (hu : u.oneCell' = true) :
    ∃ w', (execOp a.eval ⟨none, .store t x y, ty, pos, after, none⟩).run P w = .ok .skip w' ∧ Mem w0 (rs.set j (rOwn e 1 v n (xs.set i u))) w' := by
  have hown : w.ownsRow 0 e 1 v n xs := hm.holds j _ hj
  rcases hown.2 with ⟨rfl, rfl⟩ | ⟨g, cap, cur, rfl, _, hg, h1, h2, _⟩
  · omega
  · obtain ⟨h3, h4⟩ := hown.stored i u
    have hlen := hown.1
    have hi' : i < xs.length := by omega
    have hcell : w.cell? ⟨g, i, none⟩ = some xs[i] := by rw [hown.cellAt i (by omega)]; simp [hi']
    have hfr := hown.frozenAt i
    have hc : u.cells = #[u] := by cases u <;> first | rfl | cases hu
    obtain ⟨inf, hinf, hisz⟩ := hT.size
    rw [vAt_own] at hx
    refine ⟨_, ?_, hm.upd (r' := rOwn e 1 (.slice (some ⟨g, 0, none⟩) n cap) n (xs.set i u)) hj h4.os h4.tape h4.output h4.size (fun b hb hnf => h4.block b hb (fun e' => hnf (by cases e'; rfl))) h3 (fun b hb => .inl hb)⟩
    simp [execOp, hx, hy, Instr.storeAt, Instr.sureAddr, storeVar, hc, sizeOf, typeInfo, hinf, hisz, storeCells, Addr.add, run_store P w _ u _ hu, hcell, hfr]
/-- A store into a part of a star. -/
theorem hl_storeIn {t : TypeId} [hT : One P t] {e n i : Nat} {xs : List Value} {L : List Res} (q j : Nat) (hq : rs[q]? = some (rStar L)) (hj : L[j]? = some (rOwn e 1 v n xs)) (hx : env.ev x = some (.pointer (some (vAt v i)))) (hi : i < n) (hy : env.ev y = some u) (hu : u.oneCell' = true)
    (k : HL P N env w0 (rs.set q (rStar (L.set j (rOwn e 1 v n (xs.set i u))))) ops Q l) : HL P N env w0 rs ops Q (⟨none, .store t x y, ty, pos, after, none⟩ :: l) :=
  eff_skip (fun a hs w hm => by
    have hjl : j < L.length := (List.getElem?_eq_some_iff.1 hj).1
    have h1 := (hm.focus hq).flat
    have hj' : (L ++ [rStar (rs.eraseIdx q)])[j]? = some (rOwn e 1 v n xs) := by rw [List.getElem?_append_left hjl]; exact hj
    obtain ⟨w', hr, hm'⟩ := storeOwn_run (P := P) (a := a) (ty := ty) (pos := pos) (after := after) (t := t) j h1 hj' (hs.ev hx) hi (hs.ev hy) hu
    rw [List.set_append_left _ _ hjl] at hm'
    exact ⟨w', hr, hm'.star.unfocus hq⟩) k
/-- A store into a row. -/
theorem hl_storeRow {α : Type} {t : TypeId} [hT : One P t] {e1 e2 : TypeId} {enc : α → Value} {vs : List Value} {xss : List (List α)} (q s c : Nat) (a : α) (hq : rs[q]? = some (rRows e1 e2 enc v vs xss)) (hs : s < vs.length) (hs2 : s < xss.length) (hx : env.ev x = some (.pointer (some (vAt (vs.getD s undef) c)))) (hc : c < (xss.getD s []).length) (hy : env.ev y = some (enc a)) (hu : (enc a).oneCell' = true)
    (k : HL P N env w0 (rs.set q (rRows e1 e2 enc v vs (xss.set s ((xss.getD s []).set c a)))) ops Q l) : HL P N env w0 rs ops Q (⟨none, .store t x y, ty, pos, after, none⟩ :: l) := by
  refine hl_storeIn (e := e2) (n := (xss.getD s []).length) (xs := (xss.getD s []).map enc) q (s + 1) hq ?_ hx hc hy hu ?_
  · show (rRow e2 enc vs xss)[s]? = _
    rw [rRow_get _ _ _ hs hs2]; rfl
  · have h1 : (rRow e2 enc vs xss).set s (rOwn e2 1 (vs.getD s undef) (xss.getD s []).length (((xss.getD s []).map enc).set c (enc a))) = rRow e2 enc vs (xss.set s ((xss.getD s []).set c a)) := by
      rw [← rRow_set _ _ _ _ hs]
      unfold rE
      rw [List.length_set, List.map_set]
    show HL P N env w0 (rs.set q (rStar (rOwn e1 1 v vs.length vs :: (rRow e2 enc vs xss).set s _))) ops Q l
    rw [h1]; exact k
theorem ld_at {α : Type} (i : Nat) {e1 e2 : TypeId} {enc : α → Value} {vs : List Value} {xss : List (List α)} (d : α) (hi : rs[i]? = some (rRows e1 e2 enc v vs xss)) (hl : vs.length = xss.length) {k j : Nat} (hk : k < xss.length) (hj : j < (xss.getD k []).length) :
    Ld w0 rs (vAt (vs.getD k undef) j) (enc ((xss.getD k []).getD j d)) :=
  ld_res i hi fun w h => ((rRows.rd d hl h).row k hk).get j hj
theorem q_loadA3 {t : TypeId} [hA : Agg P t 3] {p : Addr} {u0 u1 u2 : Value} (hx : env.ev x = some (.pointer (some p))) (h0 : Ld w0 rs (p.add 0) u0) (h1 : Ld w0 rs (p.add 1) u1) (h2 : Ld w0 rs (p.add 2) u2) :
    QO P N env w0 rs ⟨dst, .load t x, ty, pos, after, gd⟩ (.agg #[u0, u1, u2]) := q_loadA hx rfl fun i v hv => by
  match i, hv with
  | 0, hv => cases hv; exact h0
  | 1, hv => cases hv; exact h1
  | 2, hv => cases hv; exact h2
  | i + 3, hv => simp at hv
end

/-! structs of three numbers -/
structure RoadR where
  a : Int
  b : Int
  l : Int
def rd0 : RoadR := ⟨0, 0, 0⟩
def roV (r : RoadR) : Value := .agg #[.int .i64 r.a, .int .i64 r.b, .int .i64 r.l]
structure RdR (w : World) (v : Value) (rds : List RoadR) : Prop where
  sl : SlOk v rds.length
  c0 : ∀ i, i < rds.length → w.cell? ((vAt v (i * 3)).add 0) = some (.int .i64 (rds.getD i rd0).a)
  c1 : ∀ i, i < rds.length → w.cell? ((vAt v (i * 3)).add 1) = some (.int .i64 (rds.getD i rd0).b)
  c2 : ∀ i, i < rds.length → w.cell? ((vAt v (i * 3)).add 2) = some (.int .i64 (rds.getD i rd0).l)
theorem RdR.up {w w' : World} {v : Value} {rds : List RoadR} (h : RdR w v rds) (hb : Below w.heap.size w w') : RdR w' v rds :=
  ⟨h.sl, fun i hi => cell_up hb (h.c0 i hi), fun i hi => cell_up hb (h.c1 i hi), fun i hi => cell_up hb (h.c2 i hi)⟩
def cells3 : List RoadR → List Value
  | [] => []
  | r :: L => .int .i64 r.a :: .int .i64 r.b :: .int .i64 r.l :: cells3 L
theorem cells3_length : ∀ (L : List RoadR), (cells3 L).length = L.length * 3
  | [] => rfl
  | r :: L => by simp [cells3, cells3_length L]; omega
theorem cells3_0 : ∀ (L : List RoadR) (i : Nat), i < L.length → (cells3 L)[i * 3]? = some (.int .i64 (L.getD i rd0).a)
  | r :: L, 0, _ => rfl
  | r :: L, i + 1, h => by
    have := cells3_0 L i (by simpa using h)
    rw [show (i + 1) * 3 = i * 3 + 1 + 1 + 1 by omega]
    simpa [cells3] using this
theorem cells3_1 : ∀ (L : List RoadR) (i : Nat), i < L.length → (cells3 L)[i * 3 + 1]? = some (.int .i64 (L.getD i rd0).b)
  | r :: L, 0, _ => rfl
  | r :: L, i + 1, h => by
    have := cells3_1 L i (by simpa using h)
    rw [show (i + 1) * 3 + 1 = i * 3 + 1 + 1 + 1 + 1 by omega]
    simpa [cells3] using this
theorem cells3_2 : ∀ (L : List RoadR) (i : Nat), i < L.length → (cells3 L)[i * 3 + 2]? = some (.int .i64 (L.getD i rd0).l)
  | r :: L, 0, _ => rfl
  | r :: L, i + 1, h => by
    have := cells3_2 L i (by simpa using h)
    rw [show (i + 1) * 3 + 2 = i * 3 + 2 + 1 + 1 + 1 by omega]
    simpa [cells3] using this
theorem cells3_set : ∀ (L : List RoadR) (i : Nat) (a b c : Int), (((cells3 L).set (i * 3) (.int .i64 a)).set (i * 3 + 1) (.int .i64 b)).set (i * 3 + 2) (.int .i64 c) = cells3 (L.set i ⟨a, b, c⟩)
  | [], i, a, b, c => by simp [cells3]
  | r :: L, 0, a, b, c => rfl
  | r :: L, i + 1, a, b, c => by
    have := cells3_set L i a b c
    rw [show (i + 1) * 3 + 1 = i * 3 + 1 + 1 + 1 + 1 by omega, show (i + 1) * 3 + 2 = i * 3 + 2 + 1 + 1 + 1 by omega, show (i + 1) * 3 = i * 3 + 1 + 1 + 1 by omega]
    simpa [cells3] using this
theorem cells3_put (L : List RoadR) (i : Nat) (a b c : Int) : putAt (cells3 L) (i * 3) [.int .i64 a, .int .i64 b, .int .i64 c] = cells3 (L.set i ⟨a, b, c⟩) := by
  rw [← cells3_set]; rfl
theorem cells3_made (n : Nat) : (madeCells #[.int .i64 0, .int .i64 0, .int .i64 0] (n * 3)).toList = cells3 (List.replicate n rd0) := by
  apply List.ext_getElem?
  intro j
  by_cases hj : j < n * 3
  · obtain ⟨i, rfl | rfl | rfl⟩ : ∃ i, j = i * 3 ∨ j = i * 3 + 1 ∨ j = i * 3 + 2 := ⟨j / 3, by omega⟩
    · have hi : i < n := by omega
      rw [cells3_0 _ _ (by simpa using hi)]
      simp [madeCells, hj, List.getD, hi, rd0]
    · have hi : i < n := by omega
      have hm : (i * 3 + 1) % 3 = 1 := by omega
      rw [cells3_1 _ _ (by simpa using hi)]
      simp [madeCells, hj, List.getD, hi, hm, rd0]
    · have hi : i < n := by omega
      have hm : (i * 3 + 2) % 3 = 2 := by omega
      rw [cells3_2 _ _ (by simpa using hi)]
      simp [madeCells, hj, List.getD, hi, hm, rd0]
  · have h1 := cells3_length (List.replicate n rd0)
    rw [List.getElem?_eq_none (by simp [madeCells]; omega), List.getElem?_eq_none (by rw [h1]; simp; omega)]
def rRoads (e : TypeId) (v : Value) (L : List RoadR) : Res := rOwn e 3 v L.length (cells3 L)
theorem Mem.rdR {w0 w : World} {rs : List Res} {e : TypeId} {v : Value} {L : List RoadR} (hm : Mem w0 rs w) (i : Nat) (hi : rs[i]? = some (rRoads e v L)) : RdR w v L := by
  have h0 : (rOwn e 3 v L.length (cells3 L)).holds w := hm.holds i _ hi
  have hs : SlOk v L.length := rOwn.slOk h0
  refine ⟨hs, fun j hj => ?_, fun j hj => ?_, fun j hj => ?_⟩
  · rw [vAt_add hs hj]; exact rOwn.cell h0 (cells3_0 L j hj)
  · rw [vAt_add hs hj]; exact rOwn.cell h0 (cells3_1 L j hj)
  · rw [vAt_add hs hj]; exact rOwn.cell h0 (cells3_2 L j hj)
/-- What 'mark' writes. -/
def mkR (k : Int) (n : Nat) : List RoadR := tab n fun i => ⟨k + ((3 * i : Nat) : Int), k + ((3 * i : Nat) : Int) + 1, k + ((3 * i : Nat) : Int) + 1 + 1⟩
end Go.Eng
