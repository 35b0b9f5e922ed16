/- Maps that came in as data. -/
import Derived.Test.YtgeidbjcphjbiaaOpen
import Derived.Test.YtgeidbjcphjbiaaLibM
import Derived.Deep.SlicePairs
namespace Go.Eng
open Go.ChangeShapes Go.WideShapes Go.ChangeAt Go.RowKit Go.Deep Go.Joins
set_option linter.unusedVariables false

section
variable {H : Type} {enc : TypeId × Value → H} {P : Program} {w : World} {base : Nat} {held : Bool}

/-- A slice of structs of a number and a slice of numbers. -/
theorem rd_mapS {t e q : TypeId} {g0 g1 : Field} (ht : P.underlying t = some (.slice e)) (he : P.underlying e = some (.struct #[g0, g1])) (ce : P.cellsOf e = 2) (o0 : g0.offset = 0) (o1 : g1.offset = 1) (c0 : P.cellsOf g0.type = 1) (c1 : P.cellsOf g1.type = 1)
    (h0 : P.underlying g0.type = some (.int .i64)) (h1 : P.underlying g1.type = some (.slice q)) (cq : P.cellsOf q = 1) (hq : P.underlying q = some (.int .i64)) {fuel : Nat} {cs : List Value} {x : DataW H × List MemPlace}
    (h : DataW.trod enc P w base (fun _ => true) held fuel t cs = some x) : ∃ v ks xss row, cs = [v] ∧ RdM w v ks xss row ∧ ∀ r, r < xss.length → I64 (ks.getD r 0) ∧ ∀ i, i < (xss.getD r []).length → I64 ((xss.getD r []).getD i 0) := by
  rcases open_slice_pairs ht he ce o0 o1 c0 c1 h with ⟨rfl, _⟩ | ⟨a, len, cap, m, n, V0, V1, D0, D1, P0, P1, rfl, hb, hl, hm, hmm, _, hx⟩
  · exact ⟨_, [], [], fun _ => undef, rfl, ⟨nil_ok, rfl, fun i hi => by simp at hi, fun i hi => by simp at hi, fun i hi => by simp at hi⟩, fun i hi => by simp at hi⟩
  · simp only [if_true] at hmm
    subst hmm
    have each : ∀ i, i < len → ∃ y : Int × List Int, V0 i = .int .i64 y.1 ∧ I64 y.1 ∧ RdE (Value.int .i64) 0 w (V1 i) y.2 ∧ ∀ j, j < y.2.length → I64 (y.2.getD j 0) := fun i hi => by
      obtain ⟨_, _, g0', g1'⟩ := hx i (by omega)
      obtain ⟨k, hk, wk⟩ := el_int h0 _ _ _ g0'
      obtain ⟨v, xs, hv, r1, r2⟩ := rd_elems (Value.int .i64) 0 I64 h1 cq (fun n c y => el_int hq n c y) g1'
      simp at hv; subst hv
      exact ⟨(k, xs), hk, wk, r1, r2⟩
    obtain ⟨y, hy⟩ := choose_lt each
    have e0 : ∀ i, (a.add i).add 0 = a.add i := fun i => by unfold Addr.add; split <;> split <;> simp_all
    have e1 : ∀ i, (a.add (i * 2)).add 1 = a.add (i * 2 + 1) := fun i => add_add a _ _
    refine ⟨_, tab len (fun i => (y i).1), tab len (fun i => (y i).2), V1, rfl, ⟨?_, by simp [tab_length], fun i hi => ?_, fun i hi => ?_, fun i hi => ?_⟩, fun i hi => ?_⟩
    · rw [tab_length]; unfold SlOk; exact ⟨_, _, rfl, hl, hm, fun _ => rfl⟩
    · rw [tab_length] at hi
      rw [tab_getD _ _ _ _ hi]
      show w.cell? ((a.add (i * 2)).add 0) = _
      rw [e0, (hx i (by omega)).1, (hy i hi).1]
    · rw [tab_length] at hi
      show w.cell? ((a.add (i * 2)).add 1) = _
      rw [e1, (hx i (by omega)).2.1]
    · rw [tab_length] at hi
      rw [tab_getD _ _ _ _ hi]
      exact (hy i hi).2.2.1
    · rw [tab_length] at hi
      rw [tab_getD _ _ _ _ hi, tab_getD _ _ _ _ hi]
      exact ⟨(hy i hi).2.1, (hy i hi).2.2.2⟩

/-- A struct of two numbers and a slice of such structs. -/
theorem rd_maps {t ee q : TypeId} {f0 f1 f2 g0 g1 : Field} {r : Reach} {b0 : Nat} {v : Value} {d : DataW H} {p : List MemPlace} (hs : P.underlying t = some (.struct #[f0, f1, f2])) (hone : oneCellFields P #[f0, f1, f2] = true) (hC : P.cellsOf t = 3)
    (h0 : P.underlying f0.type = some (.int .i64)) (h1 : P.underlying f1.type = some (.int .i64)) (h2 : P.underlying f2.type = some (.slice ee)) (he : P.underlying ee = some (.struct #[g0, g1])) (ce : P.cellsOf ee = 2) (o0 : g0.offset = 0) (o1 : g1.offset = 1) (c0 : P.cellsOf g0.type = 1) (c1 : P.cellsOf g1.type = 1)
    (k0 : P.underlying g0.type = some (.int .i64)) (k1 : P.underlying g1.type = some (.slice q)) (cq : P.cellsOf q = 1) (hq : P.underlying q = some (.int .i64))
    (hv : Value.okWide P w r b0 t v) (h : DataW.Trod enc P w base (fun _ => true) held t v d p) :
    ∃ (st tot : Int) (u : Value) (ks : List Int) (xss : List (List Int)) (row : Nat → Value), v = .agg #[.int .i64 st, .int .i64 tot, u] ∧ I64 st ∧ I64 tot ∧ RdM w u ks xss row ∧ ∀ r, r < xss.length → I64 (ks.getD r 0) ∧ ∀ i, i < (xss.getD r []).length → I64 ((xss.getD r []).getD i 0) := by
  obtain ⟨c0', c1', c2', y0, y1, y2, n, rfl, _, _, g0', g1', g2'⟩ := open_agg3 hs hone hC hv h
  obtain ⟨st, rfl, ws⟩ := el_int h0 _ _ _ g0'
  obtain ⟨tot, rfl, wt⟩ := el_int h1 _ _ _ g1'
  obtain ⟨u, ks, xss, row, hu, hr, hw⟩ := rd_mapS h2 he ce o0 o1 c0 c1 k0 k1 cq hq g2'
  simp at hu; subst hu
  exact ⟨st, tot, c2', ks, xss, row, rfl, ws, wt, hr, hw⟩
end
end Go.Eng
