/- Lists of structs of three numbers that came in as data. -/
import Derived.Test.YtgeidbjcphjbiaaOpen
import Derived.Test.YtgeidbjcphjbiaaLibO
import Derived.Deep.SlicePairs
namespace Go.Eng
open Go.ChangeShapes Go.WideShapes Go.ChangeAt Go.RowKit Go.Deep Go.Joins
set_option linter.unusedVariables false

section
variable {H : Type} {enc : TypeId × Value → H} {P : Program} {w : World} {base : Nat} {held : Bool}
theorem rd_roads {t e : TypeId} {g0 g1 g2 : Field} (ht : P.underlying t = some (.slice e)) (he : P.underlying e = some (.struct #[g0, g1, g2])) (ce : P.cellsOf e = 3) (o0 : g0.offset = 0) (o1 : g1.offset = 1) (o2 : g2.offset = 2) (c0 : P.cellsOf g0.type = 1) (c1 : P.cellsOf g1.type = 1) (c2 : P.cellsOf g2.type = 1)
    (h0 : P.underlying g0.type = some (.int .i64)) (h1 : P.underlying g1.type = some (.int .i64)) (h2 : P.underlying g2.type = some (.int .i64)) {fuel : Nat} {cs : List Value} {x : DataW H × List MemPlace}
    (h : DataW.trod enc P w base (fun _ => true) held fuel t cs = some x) : ∃ v rds, cs = [v] ∧ RdR w v rds ∧ True := by
  rcases open_slice ht h with ⟨rfl, _⟩ | ⟨a, len, cap, m, n, D, Pl, rfl, hb, hl, hm, hmm, rfl, hx⟩
  · exact ⟨_, [], rfl, ⟨nil_ok, fun i hi => by simp at hi, fun i hi => by simp at hi, fun i hi => by simp at hi⟩, trivial⟩
  · simp only [if_true] at hmm
    subst hmm
    have each : ∀ i, i < len → ∃ r : RoadR, w.cell? ((a.add (i * 3)).add 0) = some (.int .i64 r.a) ∧ w.cell? ((a.add (i * 3)).add 1) = some (.int .i64 r.b) ∧ w.cell? ((a.add (i * 3)).add 2) = some (.int .i64 r.l) := by
      intro i hi
      obtain ⟨cs', k1, k2⟩ := hx i (by omega)
      rw [ce] at k1
      obtain ⟨_, hlen, hcell⟩ := World.cells?_some k1
      obtain ⟨xs, k, hk, hxy, _, hxl, hf⟩ := DataW.trod_struct he k2
      match xs, hxl, cs', hlen with
      | [y0, y1, y2], _, [v0, v1, v2], _ =>
        have f0 := hf 0 g0 rfl
        have f1 := hf 1 g1 rfl
        have f2 := hf 2 g2 rfl
        simp [o0, o1, o2, c0, c1, c2] at f0 f1 f2
        have e0 := hcell 0 (by omega)
        have e1 := hcell 1 (by omega)
        have e2 := hcell 2 (by omega)
        obtain ⟨p0, hp0, _⟩ := el_int h0 _ _ _ f0
        obtain ⟨p1, hp1, _⟩ := el_int h1 _ _ _ f1
        obtain ⟨p2, hp2, _⟩ := el_int h2 _ _ _ f2
        subst hp0; subst hp1; subst hp2
        exact ⟨⟨p0, p1, p2⟩, by simpa using e0, by simpa using e1, by simpa using e2⟩
    haveI : Inhabited RoadR := ⟨rd0⟩
    obtain ⟨y, hy⟩ := choose_lt each
    refine ⟨_, tab len y, rfl, ⟨?_, fun i hi => ?_, fun i hi => ?_, fun i hi => ?_⟩, trivial⟩
    · rw [tab_length]; unfold SlOk; exact ⟨_, _, rfl, hl, hm, fun _ => rfl⟩
    · rw [tab_length] at hi
      rw [tab_getD _ _ _ _ hi]
      exact (hy i hi).1
    · rw [tab_length] at hi
      rw [tab_getD _ _ _ _ hi]
      exact (hy i hi).2.1
    · rw [tab_length] at hi
      rw [tab_getD _ _ _ _ hi]
      exact (hy i hi).2.2
end
end Go.Eng
