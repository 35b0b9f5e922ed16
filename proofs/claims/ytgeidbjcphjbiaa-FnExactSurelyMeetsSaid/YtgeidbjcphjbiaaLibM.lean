/- Slices of structs of two cells: an Int and a slice of Ints. -/
import Derived.Test.YtgeidbjcphjbiaaLib
namespace Go.Eng
open Go.RowKit
set_option linter.unusedVariables false

/-- xs with us written from i on. -/
def putAt : List Value → Nat → List Value → List Value
  | xs, _, [] => xs
  | xs, i, u :: us => putAt (xs.set i u) (i + 1) us

theorem run_storeCells_own {P : Program} {e sz n cap g : Nat} : ∀ (us : List Value) (i0 k : Nat) (w : World) (xs : List Value), w.ownsRow 0 e sz (.slice (some ⟨g, 0, none⟩) n cap) n xs → (∀ u ∈ us, u.oneCell' = true) → i0 + k + us.length ≤ xs.length →
    ∃ w', (storeCells ⟨g, i0, none⟩ us k).run P w = .ok () w' ∧ w'.ownsRow 0 e sz (.slice (some ⟨g, 0, none⟩) n cap) n (putAt xs (i0 + k) us) ∧ (∀ b', b' ≠ g → w'.heap[b']? = w.heap[b']?) ∧ w'.heap.size = w.heap.size ∧ w'.os = w.os ∧ w'.tape = w.tape ∧ w'.output = w.output
  | [], i0, k, w, xs, h, _, _ => ⟨w, by simp [storeCells], h, fun _ _ => rfl, rfl, rfl, rfl, rfl⟩
  | u :: us, i0, k, w, xs, h, hu, hk => by
    simp only [List.length_cons] at hk
    have hadd : (⟨g, i0, none⟩ : Addr).add k = ⟨g, i0 + k, none⟩ := by unfold Addr.add; split <;> simp_all
    have hlen := h.1
    have hi' : i0 + k < xs.length := by omega
    have hcell : w.cell? ⟨g, i0 + k, none⟩ = some xs[i0 + k] := by rw [h.cellAt (i0 + k) (by omega)]; simp [hi']
    have hfr := h.frozenAt (i0 + k)
    obtain ⟨h3, h4⟩ := h.stored (i0 + k) u
    obtain ⟨w', r1, r2, r3, r4, r5, r6, r7⟩ := run_storeCells_own (P := P) us i0 (k + 1) _ _ h3 (fun v hv => hu v (by simp [hv])) (by simp; omega)
    refine ⟨w', ?_, r2, fun b' hne => ?_, by rw [r4]; simp, r5, r6, r7⟩
    · simp [storeCells, hadd, run_store P w _ u _ (hu u (by simp)), hcell, hfr, r1]
    · rw [r3 b' hne, heap_setCell_other w ⟨g, i0 + k, none⟩ b' u hne]

section
variable {P : Program} {N : Nat} {env : Env} {w0 : World} {rs : List Res} {Q : Exit → Act → World → Prop} {ops : Array Oper} {l : List Oper} {d : Nat} {ty : TypeId} {pos : String} {after : Array Edge} {x y : Operand} {u v : Value}
/-- A struct stored whole into a slice of the call's own. -/
theorem hl_storeOA {t m e sz n i : Nat} [hA : Agg P t m] {xs : List Value} {us : Array Value} (j : Nat) (hj : rs[j]? = some (rOwn e sz v n xs)) (hx : env.ev x = some (.pointer (some (vAt v i)))) (hy : env.ev y = some (.agg us)) (hn : us.size = m) (hi : i + m ≤ n * sz) (hm0 : 0 < m)
    (hu : ∀ u ∈ us.toList, u.oneCell' = true) (k : HL P N env w0 (rs.set j (rOwn e sz v n (putAt xs i us.toList))) ops Q l) : HL P N env w0 rs ops Q (⟨none, .store t x y, ty, pos, after, none⟩ :: l) :=
  eff_skip (fun a hs w hm => by
    have hown : w.ownsRow 0 e sz v n xs := hm.holds j _ hj
    rcases hown.2 with ⟨rfl, rfl⟩ | ⟨g, cap, cur, rfl, _, hg, h1, h2, _⟩
    · omega
    · obtain ⟨inf, hinf, hisz⟩ := hA.size
      have hlen := hown.1
      obtain ⟨w', r1, r2, r3, r4, r5, r6, r7⟩ := run_storeCells_own (P := P) us.toList i 0 w xs hown hu (by simp; omega)
      rw [vAt_own] at hx
      refine ⟨w', ?_, hm.upd (r' := rOwn e sz (.slice (some ⟨g, 0, none⟩) n cap) n (putAt xs i us.toList)) hj r5 r6 r7 (by omega) (fun b' _ hnf => r3 b' (fun e' => hnf (by cases e'; rfl))) r2 (fun b hb => .inl hb)⟩
      have hsz : us.size = inf.size := by rw [hn, hisz]
      simp [execOp, hs.ev hx, hs.ev hy, Instr.storeAt, Instr.sureAddr, storeVar, Value.cells, sizeOf, typeInfo, hinf, hsz, r1]) k
end

/-- The cells of structs of an Int and a slice. -/
def cells2 : List Int → List Value → List Value
  | k :: ks, u :: us => .int .i64 k :: u :: cells2 ks us
  | _, _ => []
theorem cells2_length : ∀ (ks : List Int) (us : List Value), ks.length = us.length → (cells2 ks us).length = us.length * 2
  | [], [], _ => rfl
  | k :: ks, u :: us, h => by simp [cells2, cells2_length ks us (by simpa using h)]; omega
  | [], _ :: _, h => by simp at h
  | _ :: _, [], h => by simp at h
theorem cells2_0 : ∀ (ks : List Int) (us : List Value) (i : Nat), i < ks.length → i < us.length → (cells2 ks us)[i * 2]? = some (.int .i64 (ks.getD i 0))
  | k :: ks, u :: us, 0, _, _ => rfl
  | k :: ks, u :: us, i + 1, h, h' => by
    have := cells2_0 ks us i (by simpa using h) (by simpa using h')
    rw [show (i + 1) * 2 = i * 2 + 1 + 1 by omega]
    simpa [cells2] using this
  | [], _, _, h, _ => by simp at h
  | _ :: _, [], _, _, h => by simp at h
theorem cells2_1 : ∀ (ks : List Int) (us : List Value) (i : Nat), i < ks.length → i < us.length → (cells2 ks us)[i * 2 + 1]? = some (us.getD i undef)
  | k :: ks, u :: us, 0, _, _ => rfl
  | k :: ks, u :: us, i + 1, h, h' => by
    have := cells2_1 ks us i (by simpa using h) (by simpa using h')
    rw [show (i + 1) * 2 + 1 = i * 2 + 1 + 1 + 1 by omega]
    simpa [cells2] using this
  | [], _, _, h, _ => by simp at h
  | _ :: _, [], _, _, h => by simp at h
theorem cells2_put : ∀ (ks : List Int) (us : List Value) (i : Nat) (a : Int) (u : Value), ks.length = us.length → putAt (cells2 ks us) (i * 2) [.int .i64 a, u] = cells2 (ks.set i a) (us.set i u)
  | [], [], i, a, u, _ => by simp [cells2, putAt]
  | k :: ks, v :: us, 0, a, u, _ => rfl
  | k :: ks, v :: us, i + 1, a, u, h => by
    have := cells2_put ks us i a u (by simpa using h)
    simp only [putAt] at this ⊢
    rw [show (i + 1) * 2 = i * 2 + 1 + 1 by omega]
    simpa [cells2] using this
  | [], _ :: _, _, _, _, h => by simp at h
  | _ :: _, [], _, _, _, h => by simp at h
theorem cells2_made (n : Nat) : (madeCells #[.int .i64 0, .slice none 0 0] (n * 2)).toList = cells2 (List.replicate n 0) (List.replicate n (.slice none 0 0)) := by
  apply List.ext_getElem?
  intro j
  by_cases hj : j < n * 2
  · obtain ⟨i, rfl | rfl⟩ : ∃ i, j = i * 2 ∨ j = i * 2 + 1 := ⟨j / 2, by omega⟩
    · rw [cells2_0 _ _ _ (by simp; omega) (by simp; omega)]
      have hi : i < n := by omega
      simp [madeCells, hj, List.getD, hi]
    · rw [cells2_1 _ _ _ (by simp; omega) (by simp; omega)]
      have hi : i < n := by omega
      have hm : (i * 2 + 1) % 2 = 1 := by omega
      simp [madeCells, hj, List.getD, hi, hm]
  · have h1 := cells2_length (List.replicate n 0) (List.replicate n (.slice none 0 0)) (by simp)
    rw [List.getElem?_eq_none (by simp [madeCells]; omega), List.getElem?_eq_none (by rw [h1]; simp; omega)]

theorem cells2_fill (ks : List Int) (us : List Value) (n k : Nat) (u z : Value) (hk : k < n) (hn : n = ks.length) (hu : us.length = k) :
    putAt (cells2 (ks.take k ++ List.replicate (n - k) 0) (us ++ List.replicate (n - k) z)) (k * 2) [.int .i64 (ks.getD k 0), u] = cells2 (ks.take (k + 1) ++ List.replicate (n - (k + 1)) 0) ((us ++ [u]) ++ List.replicate (n - (k + 1)) z) := by
  have h1 := fill_set id (0 : Int) 0 ks n k hk (by omega)
  simp only [List.map_id, id] at h1
  rw [cells2_put _ _ _ _ _ (by simp; omega), h1, vals_set us z u n k hk hu]

/-- v reads in w as a slice of structs of an Int and a slice. -/
structure RdM (w : World) (v : Value) (ks : List Int) (xss : List (List Int)) (row : Nat → Value) : Prop where
  sl : SlOk v xss.length
  len : ks.length = xss.length
  key : ∀ i, i < xss.length → w.cell? ((vAt v (i * 2)).add 0) = some (.int .i64 (ks.getD i 0))
  get : ∀ i, i < xss.length → w.cell? ((vAt v (i * 2)).add 1) = some (row i)
  row : ∀ i, i < xss.length → RdE (Value.int .i64) 0 w (row i) (xss.getD i [])
theorem RdM.up {w w' : World} {v : Value} {ks : List Int} {xss : List (List Int)} {row : Nat → Value} (h : RdM w v ks xss row) (hb : Below w.heap.size w w') : RdM w' v ks xss row :=
  ⟨h.sl, h.len, fun i hi => cell_up hb (h.key i hi), fun i hi => cell_up hb (h.get i hi), fun i hi => (h.row i hi).up hb⟩

/-- A slice of such structs of the call's own. -/
def rMaps (e1 e2 : TypeId) (v : Value) (us : List Value) (ks : List Int) (xss : List (List Int)) : Res := rStar (rOwn e1 2 v us.length (cells2 ks us) :: rRow e2 (Value.int .i64) us xss)
theorem vAt_add {v : Value} {n i k : Nat} (h : SlOk v n) (hn : i < n) (j : Nat) : (vAt v k).add j = vAt v (k + j) := by
  unfold SlOk at h
  obtain ⟨a, c, rfl, _, _, hs⟩ := h
  obtain ⟨b, rfl⟩ := Option.isSome_iff_exists.1 (hs (by omega))
  simp only [vAt, Addr.add]
  by_cases h1 : k = 0 <;> by_cases h2 : j = 0 <;> simp [h1, h2]
  omega
theorem rMaps.rd {e1 e2 : TypeId} {v : Value} {us : List Value} {ks : List Int} {xss : List (List Int)} {w : World} (hl : us.length = xss.length) (hk : ks.length = xss.length) (h : (rMaps e1 e2 v us ks xss).holds w) :
    RdM w v ks xss (fun i => us.getD i undef) := by
  have h0 : (rOwn e1 2 v us.length (cells2 ks us)).holds w := h.1 _ (by simp)
  have hs : SlOk v us.length := rOwn.slOk h0
  refine ⟨by rw [← hl]; exact hs, hk, fun i hi => ?_, fun i hi => ?_, fun i hi => ?_⟩
  · rw [vAt_add hs (i := i) (by omega)]
    exact rOwn.cell h0 (cells2_0 ks us i (by omega) (by omega))
  · rw [vAt_add hs (i := i) (by omega)]
    exact rOwn.cell h0 (cells2_1 ks us i (by omega) (by omega))
  · have hi' : i < us.length := by omega
    refine rE.rd (e := e2) 0 (h.1 _ (List.mem_cons_of_mem _ ?_))
    refine List.mem_iff_getElem?.2 ⟨i, ?_⟩
    simp only [rRow, List.getElem?_zipWith, List.getElem?_eq_getElem hi, List.getElem?_eq_getElem hi']
    rw [getD_lt _ _ _ hi, getD_lt _ _ _ hi']
theorem Mem.rdM {w0 w : World} {rs : List Res} {e1 e2 : TypeId} {v : Value} {us : List Value} {ks : List Int} {xss : List (List Int)} (hm : Mem w0 rs w) (i : Nat) (hi : rs[i]? = some (rMaps e1 e2 v us ks xss)) (hl : us.length = xss.length) (hk : ks.length = xss.length) :
    RdM w v ks xss (fun i => us.getD i undef) := rMaps.rd hl hk (hm.holds i _ hi)
end Go.Eng
