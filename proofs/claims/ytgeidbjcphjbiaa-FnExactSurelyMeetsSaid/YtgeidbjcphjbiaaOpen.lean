/- What came in as data, read as lists. -/
import Derived.Test.YtgeidbjcphjbiaaLaw
import Derived.Test.YtgeidbjcphjbiaaLibS
import Derived.Deep.Slices
import Derived.Lib.SmallJoins
namespace Go.Eng
open Go.ChangeShapes Go.WideShapes Go.ChangeAt Go.RowKit Go.Deep Go.Joins
set_option linter.unusedVariables false

section
variable {H : Type} {enc : TypeId × Value → H} {P : Program} {w : World} {base : Nat} {held : Bool} {α : Type}

/-- A slice whose elements have one cell each. -/
theorem rd_elems {t e : TypeId} (enc' : α → Value) (d : α) (p : α → Prop) (ht : P.underlying t = some (.slice e)) (ce : P.cellsOf e = 1)
    (hel : ∀ n c y, DataW.trod enc P w base (fun _ => true) held n e [c] = some y → ∃ a, c = enc' a ∧ p a) {fuel : Nat} {cs : List Value} {x : DataW H × List MemPlace}
    (h : DataW.trod enc P w base (fun _ => true) held fuel t cs = some x) : ∃ v xs, cs = [v] ∧ RdE enc' d w v xs ∧ ∀ i, i < xs.length → p (xs.getD i d) := by
  rcases open_slice1 ht ce h with ⟨rfl, _⟩ | ⟨a, len, cap, m, n, V, D, Pl, rfl, hb, hl, hm, hmm, _, hx⟩
  · exact ⟨_, [], rfl, ⟨nil_ok, fun i hi => by simp at hi⟩, fun i hi => by simp at hi⟩
  · simp only [if_true] at hmm
    subst hmm
    have each : ∀ i, i < len → ∃ y : α, V i = enc' y ∧ p y := fun i hi => hel n _ _ (hx i (by omega)).2
    haveI : Inhabited α := ⟨d⟩
    obtain ⟨y, hy⟩ := choose_lt each
    refine ⟨_, tab len y, rfl, ⟨?_, fun i hi => ?_⟩, fun i hi => ?_⟩
    · rw [tab_length]; unfold SlOk; exact ⟨_, _, rfl, hl, hm, fun _ => rfl⟩
    · rw [tab_length] at hi
      rw [tab_getD _ _ _ _ hi]
      show w.cell? (a.add i) = _
      rw [(hx i (by omega)).1, (hy i hi).1]
    · rw [tab_length] at hi
      rw [tab_getD _ _ _ _ hi]
      exact (hy i hi).2

/-- A slice of slices. -/
theorem rd_rows {t e q : TypeId} (enc' : α → Value) (d : α) (p : α → Prop) (ht : P.underlying t = some (.slice e)) (ce : P.cellsOf e = 1) (he : P.underlying e = some (.slice q)) (cq : P.cellsOf q = 1)
    (hel : ∀ n c y, DataW.trod enc P w base (fun _ => true) held n q [c] = some y → ∃ a, c = enc' a ∧ p a) {fuel : Nat} {cs : List Value} {x : DataW H × List MemPlace}
    (h : DataW.trod enc P w base (fun _ => true) held fuel t cs = some x) : ∃ v xss row, cs = [v] ∧ RdS enc' d w v xss row ∧ ∀ r, r < xss.length → ∀ i, i < (xss.getD r []).length → p ((xss.getD r []).getD i d) := by
  rcases open_slice1 ht ce h with ⟨rfl, _⟩ | ⟨a, len, cap, m, n, V, D, Pl, rfl, hb, hl, hm, hmm, _, hx⟩
  · exact ⟨_, [], fun _ => undef, rfl, ⟨nil_ok, fun i hi => by simp at hi, fun i hi => by simp at hi⟩, fun i hi => by simp at hi⟩
  · simp only [if_true] at hmm
    subst hmm
    have each : ∀ i, i < len → ∃ y : List α, RdE enc' d w (V i) y ∧ ∀ j, j < y.length → p (y.getD j d) := fun i hi => by
      obtain ⟨v, xs, hv, h1, h2⟩ := rd_elems enc' d p he cq hel (hx i (by omega)).2
      simp at hv; subst hv
      exact ⟨xs, h1, h2⟩
    haveI : Inhabited α := ⟨d⟩
    obtain ⟨y, hy⟩ := choose_lt each
    refine ⟨_, tab len y, V, rfl, ⟨?_, fun i hi => ?_, fun i hi => ?_⟩, fun i hi => ?_⟩
    · rw [tab_length]; unfold SlOk; exact ⟨_, _, rfl, hl, hm, fun _ => rfl⟩
    · rw [tab_length] at hi
      show w.cell? (a.add i) = _
      rw [(hx i (by omega)).1]
    · rw [tab_length] at hi
      rw [tab_getD _ _ _ _ hi]
      exact (hy i hi).1
    · rw [tab_length] at hi
      rw [tab_getD _ _ _ _ hi]
      exact (hy i hi).2

/-- A slice's value is its one cell. -/
theorem one_cell {t e : TypeId} {r : Reach} {b0 : Nat} {v u : Value} (ht : P.underlying t = some (.slice e)) (hv : Value.okWide P w r b0 t v) (h : v.cells.toList = [u]) : v = u := by
  obtain ⟨a, l, c, rfl⟩ := okWide_slice ht hv
  simpa [Value.cells] using h

theorem el_int {t : TypeId} (ht : P.underlying t = some (.int .i64)) (n : Nat) (c : Value) (y : DataW H × List MemPlace) (h : DataW.trod enc P w base (fun _ => true) held n t [c] = some y) : ∃ a, c = Value.int .i64 a ∧ I64 a := by
  obtain ⟨a, hc, _, hw⟩ := DataW.trod_int ht h
  simp at hc
  refine ⟨a, hc, ?_⟩
  simpa [I64, Lit.wf, IntKind.min, IntKind.max, IntKind.signed, IntKind.bits] using hw
theorem el_bool {t : TypeId} (ht : P.underlying t = some .bool) (n : Nat) (c : Value) (y : DataW H × List MemPlace) (h : DataW.trod enc P w base (fun _ => true) held n t [c] = some y) : ∃ a, c = Value.bool a ∧ True := by
  obtain ⟨a, hc, _⟩ := DataW.trod_bool ht h
  simp at hc
  exact ⟨a, hc, trivial⟩

/-- A struct of two numbers and a slice of slices of numbers. -/
theorem rd_chain {t e q : TypeId} {f0 f1 f2 : Field} {r : Reach} {b0 : Nat} {v : Value} {d : DataW H} {p : List MemPlace} (hs : P.underlying t = some (.struct #[f0, f1, f2])) (hone : oneCellFields P #[f0, f1, f2] = true) (hC : P.cellsOf t = 3)
    (h0 : P.underlying f0.type = some (.int .i64)) (h1 : P.underlying f1.type = some (.int .i64)) (h2 : P.underlying f2.type = some (.slice e)) (ce : P.cellsOf e = 1) (he : P.underlying e = some (.slice q)) (cq : P.cellsOf q = 1) (hq : P.underlying q = some (.int .i64))
    (hv : Value.okWide P w r b0 t v) (h : DataW.Trod enc P w base (fun _ => true) held t v d p) :
    ∃ (st tot : Int) (u : Value) (xss : List (List Int)) (row : Nat → Value), v = .agg #[.int .i64 st, .int .i64 tot, u] ∧ I64 st ∧ I64 tot ∧ RdS (Value.int .i64) 0 w u xss row ∧ ∀ r, r < xss.length → ∀ i, i < (xss.getD r []).length → I64 ((xss.getD r []).getD i 0) := by
  obtain ⟨c0, c1, c2, y0, y1, y2, n, rfl, _, _, g0, g1, g2⟩ := open_agg3 hs hone hC hv h
  obtain ⟨st, rfl, ws⟩ := el_int h0 _ _ _ g0
  obtain ⟨tot, rfl, wt⟩ := el_int h1 _ _ _ g1
  obtain ⟨u, xss, row, hu, hr, hw⟩ := rd_rows (Value.int .i64) 0 I64 h2 ce he cq (fun n c y => el_int hq n c y) g2
  simp at hu; subst hu
  exact ⟨st, tot, c2, xss, row, rfl, ws, wt, hr, hw⟩
end
end Go.Eng
