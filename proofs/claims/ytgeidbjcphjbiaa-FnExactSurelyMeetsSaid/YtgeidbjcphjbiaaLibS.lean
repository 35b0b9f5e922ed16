/- More operations: literals of several elements, arrays, parts of slices, conversions. -/
import Derived.Test.YtgeidbjcphjbiaaLibM
namespace Go.Eng
open Go.RowKit
set_option linter.unusedVariables false

/-- That a number fits 64 bits. -/
def I64 (n : Int) : Prop := -9223372036854775808 ≤ n ∧ n ≤ 9223372036854775807
theorem one_cells {u : Value} (h : u.oneCell' = true) : u.cells = #[u] := by cases u <;> first | rfl | cases h
theorem fill_seq : ∀ (us : List Value) (k : Nat) (cs : Array Value), (∀ u ∈ us, u.oneCell' = true) → k + us.length ≤ cs.size →
    Instr.fill (fun i => some (i * 1, 1)) cs ((us.zipIdx k).map fun p => (p.2, p.1)) = some ((us.zipIdx k).foldl (fun c p => c.setIfInBounds p.2 p.1) cs)
  | [], k, cs, _, _ => rfl
  | u :: us, k, cs, hu, hk => by
    simp only [List.length_cons] at hk
    have hc := one_cells (hu u (by simp))
    have ih := fill_seq us (k + 1) (cs.setIfInBounds k u) (fun v hv => hu v (by simp [hv])) (by simp; omega)
    have h1 : ¬ (cs.size < k + 1) := by omega
    simp only [List.zipIdx_cons, List.map_cons, List.foldl_cons, Instr.fill, Nat.mul_one, hc]
    simp [h1]
    simpa using ih

section
variable {P : Program} {N : Nat} {env : Env} {w0 : World} {rs : List Res} {Q : Exit → Act → World → Prop} {ops : Array Oper} {l : List Oper} {d : Nat} {ty : TypeId} {pos : String} {after : Array Edge} {x y : Operand} {u v : Value} {dst : Option Nat} {gd : Option (Nat × Bool)}

theorem parts_eval {a : Act} (hs : Sat N env a) : ∀ {ps : List (Nat × Operand)} {us : List Value} {k : Nat}, ps.map (fun p => (p.1, env.ev p.2)) = (us.zipIdx k).map (fun p => (p.2, some p.1)) → ps.map (fun p => (p.1, a.eval p.2)) = (us.zipIdx k).map fun p => (p.2, p.1)
  | [], [], k, _ => rfl
  | [], u :: us, k, h => by simp at h
  | p :: ps, [], k, h => by simp at h
  | p :: ps, u :: us, k, h => by
    simp only [List.map_cons, List.zipIdx_cons, List.cons.injEq, Prod.mk.injEq] at h ⊢
    exact ⟨⟨h.1.1, hs.ev h.1.2⟩, parts_eval hs h.2⟩

/-- '[]T{x, y, ..}', one cell each. -/
theorem hl_lit {t n e bb : Nat} {z : Value} [hT : Slc P t e 1 bb z] {parts : Array (Nat × Operand)} (us : List Value) (hd : d < N) (hn : us.length = n) (hparts : parts.toList.map (fun p => (p.1, env.ev p.2)) = us.zipIdx.map (fun p => (p.2, some p.1)))
    (hu : ∀ u ∈ us, u.oneCell' = true) (hzc : z.cells = #[z]) (h0 : n ≠ 0) (h1 : n ≤ 1000)
    (k : ∀ b, HL P N ((d, .slice (some ⟨b, 0, none⟩) n n) :: env) w0 (rs ++ [rOwn e 1 (.slice (some ⟨b, 0, none⟩) n n) n us]) ops Q l) :
    HL P N env w0 rs ops Q (⟨some d, .buildSlice t n parts, ty, pos, after, none⟩ :: l) :=
  hl_eff (Φ := fun v' rs' => ∃ b, v' = .slice (some ⟨b, 0, none⟩) n n ∧ rs' = rs ++ [rOwn e 1 (.slice (some ⟨b, 0, none⟩) n n) n us]) hd
    (fun a hs w hm => by
      obtain ⟨j, hj, hsz, _, hz⟩ := hT.info
      have hp := parts_eval (us := us) hs hparts
      have hfill := fill_seq us 0 (Array.replicate n z) hu (by simp; omega)
      have he : (us.zipIdx 0).foldl (fun c p => c.setIfInBounds p.2 p.1) (Array.replicate n z) = us.toArray := by
        apply Array.toList_inj.1
        rw [foldl_setAll _ 0 _ (by simp; omega)]; simp
      rw [he] at hfill
      have hr : (execOp a.eval ⟨some d, .buildSlice t n parts, ty, pos, after, none⟩).run P w = .ok (.value (.slice (some ⟨w.heap.size, 0, none⟩) n n)) (w.alloc (.cells us.toArray e)) := by
        have h2 : ¬ (2 ^ 24 < n) := by omega
        have hfill' : Instr.fill (fun i => some (i, 1)) (Array.replicate n z) (us.zipIdx.map fun p => (p.2, p.1)) = some us.toArray := by simpa using hfill
        have h3 : (Array.range n).map (fun _ => z) = Array.replicate n z := by
          apply Array.ext
          · simp
          · intro i h1 h2; simp
        simp [execOp, Instr.buildSlice, run_underlying hT.und, sizeOf, typeInfo, hj, hsz, zeroValue, hz, hzc, newRow, h0, h2, hp, h3, hfill', Nat.mod_one]
      refine ⟨_, _, _, hr, hm.add (r := rOwn e 1 (.slice (some ⟨w.heap.size, 0, none⟩) n n) n us) (below_alloc w _) ?_ (fun b hb => by simp [rOwn, Value.ownBlock] at hb; omega), _, rfl, rfl⟩
      have := World.ownsRow_lit (base := 0) (e := e) (size := 1) w us.toArray n (Nat.zero_le _) (by unfold maxLen; omega) (by simp [hn])
      simpa [rOwn] using this)
    (by rintro _ _ ⟨b, rfl, rfl⟩; exact k b)

/-- An element of an array's variable. -/
theorem q_idxA {t n e k : Nat} [hT : Arr P t n e k] {p : Addr} {i : Nat} {ki : IntKind} (hx : env.ev x = some (.pointer (some p))) (hy : env.ev y = some (.int ki (i : Int))) (hi : i < n) :
    QO P N env w0 rs ⟨dst, .indexAddr t x y, ty, pos, after, gd⟩ (.pointer (some (p.add (i * k)))) := qo_val fun a hs w _ => by
  obtain ⟨j, hj, hsz⟩ := hT.info
  simp [execOp, hs.ev hx, hs.ev hy, Instr.indexAt, asIntOf, run_underlying hT.und, Instr.sureAddr, sizeOf, typeInfo, hj, hsz, hi]

/-- An array built whole, one cell each. -/
theorem q_build {t n e : Nat} {z : Value} [hT : Arr P t n e 1] [hZ : Zero P t z] {parts : Array (Nat × Operand)} (us : List Value) (hn : us.length = n) (hparts : parts.toList.map (fun p => (p.1, env.ev p.2)) = us.zipIdx.map (fun p => (p.2, some p.1)))
    (hu : ∀ u ∈ us, u.oneCell' = true) (hz : z.cells.size = n) : QO P N env w0 rs ⟨dst, .build t parts, ty, pos, after, gd⟩ (.agg us.toArray) := qo_val fun a hs w _ => by
  obtain ⟨j, hj, hsz⟩ := hT.info
  have hp := parts_eval (us := us) hs hparts
  have hfill := fill_seq us 0 z.cells hu (by omega)
  have he : (us.zipIdx 0).foldl (fun c p => c.setIfInBounds p.2 p.1) z.cells = us.toArray := by
    apply Array.toList_inj.1
    rw [foldl_setAll _ 0 _ (by omega)]; simp
  rw [he] at hfill
  have hfill' : Instr.fill (fun i => some (i, 1)) z.cells (us.zipIdx.map fun p => (p.2, p.1)) = some us.toArray := by simpa using hfill
  simp [execOp, Instr.build, hZ.run w, run_underlying hT.und, sizeOf, typeInfo, hj, hsz, hp, hfill']
end
end Go.Eng
