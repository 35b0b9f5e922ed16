/- Queues: slices of one-cell values of the call's own that begin anywhere in their block. -/
import Derived.Test.YtgeidbjcphjbiaaLibG
import Derived.ArgAppend
namespace Go.Eng
open Go.RowKit
set_option linter.unusedVariables false

/-- The values xs in the cells of block g from 'off' on, with room for cap of them. -/
def QAt (w : World) (e : TypeId) (g off cap : Nat) (xs : List Value) : Prop :=
  ∃ cur : Array Value, w.heap[g]? = some (.cells cur e (0, 0)) ∧ xs.length ≤ cap ∧ cap ≤ maxLen ∧ off + cap ≤ cur.size ∧ ∀ j, j < xs.length → cur[off + j]? = xs[j]?
/-- A queue of the call's own. -/
def rQ (e : TypeId) (v : Value) (xs : List Value) : Res where
  foot := fun b => v.ownBlock = some b
  holds := fun w => ∃ g off cap, v = .slice (some ⟨g, off, none⟩) xs.length cap ∧ QAt w e g off cap xs
  bnd := fun w ⟨g, off, cap, hv, cur, hg, _⟩ b hb => by
    subst hv
    simp only [Value.ownBlock, Option.some.injEq] at hb
    subst hb
    exact (Array.getElem?_eq_some_iff.1 hg).1
  loc := fun w w' ⟨g, off, cap, hv, cur, hg, rest⟩ hs => ⟨g, off, cap, hv, cur, by rw [hs g (by subst hv; rfl)]; exact hg, rest⟩
theorem rQ.slOk {w : World} {e : TypeId} {v : Value} {xs : List Value} (h : (rQ e v xs).holds w) : SlOk v xs.length := by
  obtain ⟨g, off, cap, rfl, cur, hg, h1, h2, _⟩ := h
  unfold SlOk
  exact ⟨_, cap, rfl, h1, h2, fun _ => rfl⟩
theorem add_off (g off j : Nat) : (⟨g, off, none⟩ : Addr).add j = ⟨g, off + j, none⟩ := by unfold Addr.add; split <;> simp_all
theorem rQ.cell {w : World} {e : TypeId} {v : Value} {xs : List Value} (h : (rQ e v xs).holds w) {i : Nat} {u : Value} (hi : xs[i]? = some u) : w.cell? (vAt v i) = some u := by
  obtain ⟨g, off, cap, rfl, cur, hg, h1, h2, h3, h4⟩ := h
  have hlt := (List.getElem?_eq_some_iff.1 hi).1
  show w.cell? ((⟨g, off, none⟩ : Addr).add i) = some u
  rw [add_off, cell_of_row w g (off + i) cur e (0, 0) hg, h4 i hlt, hi]
theorem mem_conv {w0 w : World} {rs : List Res} {i : Nat} {r r' : Res} (h : Mem w0 rs w) (hi : rs[i]? = some r) (hh : r.holds w → r'.holds w) (hf : ∀ b, r'.foot b → r.foot b) : Mem w0 (rs.set i r') w :=
  h.upd hi rfl rfl rfl (Nat.le_refl _) (fun _ _ _ => rfl) (hh (h.holds i r hi)) (fun b hb => .inl (hf b hb))
theorem mem_toQ {w0 w : World} {rs : List Res} (i : Nat) {e b : Nat} {u : Value} (h : Mem w0 rs w) (hi : rs[i]? = some (rOwn e 1 (.slice (some ⟨b, 0, none⟩) 1 1) 1 [u])) : Mem w0 (rs.set i (rQ e (.slice (some ⟨b, 0, none⟩) 1 1) [u])) w :=
  mem_conv h hi (fun hh => by
    rcases hh.2 with ⟨h1, _⟩ | ⟨g, cap, cur, h1, _, hg, h2, h3, h4, h5⟩
    · cases h1
    · cases h1
      refine ⟨b, 0, 1, rfl, cur, hg, by simp, by unfold maxLen; omega, by omega, fun j hj => ?_⟩
      simp at hj
      subst hj
      have := congrArg (fun l => l[0]?) h5
      simpa [List.getElem?_take] using this) (fun b hb => hb)
section
variable {P : Program} {N : Nat} {env : Env} {w0 : World} {rs : List Res} {Q : Exit → Act → World → Prop} {ops : Array Oper} {l : List Oper} {d : Nat} {ty : TypeId} {pos : String} {after : Array Edge} {x y : Operand} {u v : Value}
theorem slOk_Q {w : World} (i : Nat) {e : TypeId} {xs : List Value} (hi : rs[i]? = some (rQ e v xs)) (hm : Mem w0 rs w) : SlOk v xs.length := rQ.slOk (hm.holds i _ hi)
theorem ld_Q (i : Nat) {e j : Nat} {xs : List Value} (hi : rs[i]? = some (rQ e v xs)) (hj : xs[j]? = some u) : Ld w0 rs (vAt v j) u := ld_res i hi fun w h => rQ.cell h hj
/-- 's[1:]'. -/
theorem hl_pop {t e bb : Nat} {z : Value} [hT : Slc P t e 1 bb z] {xs : List Value} {k : IntKind} (i : Nat) (hi : rs[i]? = some (rQ e v (u :: xs))) (hd : d < N) (hx : env.ev x = some v) (hy : env.ev y = some (.int k 1))
    (K : ∀ v', HL P N ((d, v') :: env) w0 (rs.set i (rQ e v' xs)) ops Q l) : HL P N env w0 rs ops Q (⟨some d, .slice t x (some y) none none, ty, pos, after, none⟩ :: l) :=
  hl_eff (Φ := fun v' rs' => rs' = rs.set i (rQ e v' xs)) hd
    (fun a hs w hm => by
      obtain ⟨j, hj, hsz, _, hz⟩ := hT.info
      obtain ⟨g, off, cap, hv, cur, hg, h1, h2, h3, h4⟩ := hm.holds i _ hi
      have hx' := hs.ev hx
      have hy' := hs.ev hy
      simp only [List.length_cons] at h1 hv
      have hb : (1 : Int) ≤ ((xs.length + 1 : Nat) : Int) := by omega
      have hr : (execOp a.eval ⟨some d, .slice t x (some y) none none, ty, pos, after, none⟩).run P w = .ok (.value (.slice (if cap = 1 then some ⟨g, off, none⟩ else some ⟨g, off + 1, none⟩) xs.length (cap - 1))) w := by
        have hc : ((⟨g, off, none⟩ : Addr).add 1) = ⟨g, off + 1, none⟩ := add_off g off 1
        have hsl : (Instr.slice t (.slice (some ⟨g, off, none⟩) (xs.length + 1) cap) (some (.int k 1)) none none).run P w = .ok (.slice (if cap = 1 then some ⟨g, off, none⟩ else some ⟨g, off + 1, none⟩) xs.length (cap - 1)) w := by
          simp [Instr.slice, run_underlying hT.und, Instr.sliceBounds, Instr.sliceBound, asIntOf, sizeOf, typeInfo, hj, hsz, hb, hc]
          all_goals (try (intros; omega))
        have hsa : (Instr.sliceAt t (.slice (some ⟨g, off, none⟩) (xs.length + 1) cap) (some (.int k 1)) none none).run P w = .ok (.slice (if cap = 1 then some ⟨g, off, none⟩ else some ⟨g, off + 1, none⟩) xs.length (cap - 1)) w := by
          simp [Instr.sliceAt, run_underlying hT.und, hsl]
        simp [execOp, hx', hy', hv, hsa]
      refine ⟨_, w, _, hr, mem_conv (r' := rQ e _ xs) hm hi (fun _ => ?_) (fun b hb => ?_), rfl⟩
      · by_cases hc1 : cap = 1
        · subst hc1
          refine ⟨g, off, 0, by simp, cur, hg, by omega, by omega, by omega, fun j hj => by omega⟩
        · refine ⟨g, off + 1, cap - 1, by simp [hc1], cur, hg, by omega, by omega, by omega, fun j hj => ?_⟩
          have := h4 (j + 1) (by simp; omega)
          rw [show off + 1 + j = off + (j + 1) by omega, this]; simp
      · show v.ownBlock = some b
        rw [hv]
        have hb' : (Value.slice (if cap = 1 then some ⟨g, off, none⟩ else some ⟨g, off + 1, none⟩) xs.length (cap - 1)).ownBlock = some b := hb
        by_cases hc1 : cap = 1
        · simp [hc1, Value.ownBlock] at hb' ⊢; exact hb'
        · simp [hc1, Value.ownBlock] at hb' ⊢; exact hb')
    (by rintro v' _ rfl; exact K v')
/-- 'append(s, x)' to a queue, the append alone. -/
theorem hl_appQ {t e bb b : Nat} {z : Value} [hT : Slc P t e 1 bb z] {xs : List Value} (i j : Nat) (hi : rs[i]? = some (rQ e v xs)) (hj : rs[j]? = some (rOwn e 1 (.slice (some ⟨b, 0, none⟩) 1 1) 1 [u])) (hd : d < N)
    (hx : env.ev x = some v) (hy : env.ev y = some (.slice (some ⟨b, 0, none⟩) 1 1)) (hu : u.oneCell' = true) (hn : xs.length < 1099511627776) (hbb : bb ≤ 64)
    (K : ∀ v', HL P N ((d, v') :: env) w0 (rs.set i (rQ e v' (xs ++ [u]))) ops Q l) :
    HL P N env w0 rs ops Q (⟨some d, .call { callee := .builtin .append, args := #[x, y], argTypes := #[t, t] }, ty, pos, after, none⟩ :: l) :=
  hl_eff (Φ := fun v' rs' => rs' = rs.set i (rQ e v' (xs ++ [u]))) hd
    (fun a hs w hm => by
      obtain ⟨inf, hinf, hsz, hby, hz⟩ := hT.info
      obtain ⟨g, off, cap, hv, cur, hg, h1, h2, h3, h4⟩ := hm.holds i _ hi
      have hx' := hs.ev hx
      have hy' := hs.ev hy
      have hlit : w.cell? ((⟨b, 0, none⟩ : Addr).add 0) = some u := by
        have := (ld_own (w0 := w0) (u := u) j hj (j := 0) rfl).cell hm
        rwa [vAt_own] at this
      have hnews : ∀ k' u', ([u] : List Value)[k']? = some u' → w.cell? ((⟨b, 0, none⟩ : Addr).add k') = some u' := by
        intro k' u' hk
        cases k' with
        | zero => simp at hk; subst hk; exact hlit
        | succ k' => simp at hk
      by_cases hroom : xs.length + 1 ≤ cap
      · have hlt : off + xs.length < cur.size := by omega
        have hcell : w.cell? ⟨g, off + xs.length, none⟩ = some cur[off + xs.length] := by rw [cell_of_row w g _ cur e (0, 0) hg]; simp [hlt]
        have hfr : w.frozen? ⟨g, off + xs.length, none⟩ = false := frozen_of_row w g _ cur e hg
        have hr := run_append_room_cells (P := P) (w := w) t ty e inf hT.und hinf g off xs.length cap ⟨b, 0, none⟩ 1 1 [u] (by simp [hsz]) hnews (by simpa using hu) hroom
          (fun k' hk => by simp at hk; subst hk; simp [hsz, hcell]) (fun k' hk => by simp at hk; subst hk; simp [hsz, hfr])
        have hset : w.setCells g (off + xs.length * inf.size) [u] = w.setCell ⟨g, off + xs.length, none⟩ u := by simp [World.setCells, hsz]
        rw [hset] at hr
        have hb1 := heap_setCell_same w g (off + xs.length) cur e u hg
        refine ⟨.slice (some ⟨g, off, none⟩) (xs.length + 1) cap, w.setCell ⟨g, off + xs.length, none⟩ u, _, by simp [execOp, resolve, invoke, builtin, hx', hy', hv, hr], hm.upd (r' := rQ e (.slice (some ⟨g, off, none⟩) (xs.length + 1) cap) (xs ++ [u])) hi (by first | rfl | simp) (by first | rfl | simp) (by first | rfl | simp) (by first | exact Nat.le_refl _ | simp) (fun b' _ hnf => ?_) ?_ (fun b' hb' => .inl ?_), rfl⟩
        · exact heap_setCell_other w ⟨g, off + xs.length, none⟩ b' u (fun e' => hnf (by show v.ownBlock = some b'; rw [hv, e']; rfl))
        · refine ⟨g, off, cap, by simp, _, hb1, by simp; omega, h2, by simp; omega, fun k' hk => ?_⟩
          by_cases e1 : k' = xs.length
          · subst e1; simp [hlt]
          · have hk' : k' < xs.length := by simp at hk; omega
            rw [Array.getElem?_setIfInBounds_ne (by omega), List.getElem?_append_left hk', h4 k' hk']
        · show v.ownBlock = some b'
          rw [hv]; exact hb'
      · have hbytes : (xs.length + 1) * bb ≤ 140737488355328 := by
          have := Nat.mul_le_mul (show xs.length + 1 ≤ 1099511627776 by omega) hbb
          omega
        have hcap : cap = xs.length := by omega
        have holds : ∀ k' u', xs[k']? = some u' → w.cell? ((⟨g, off, none⟩ : Addr).add k') = some u' := fun k' u' hk => by
          have hlt := (List.getElem?_eq_some_iff.1 hk).1
          rw [add_off, cell_of_row w g _ cur e (0, 0) hg, h4 k' hlt, hk]
        have hr := run_append_grow (P := P) w t ty e inf z hT.und hinf hz ⟨g, off, none⟩ xs.length cap xs (by simp [hsz]) holds ⟨b, 0, none⟩ 1 1 [u] (by simp [hsz]) hnews (by omega) (by omega) (growslice_fits (by omega) (by rw [hby]; exact hbytes))
        have hge := grownCap_ge w (xs.length + 1) cap e
        have hcm : grownCap w (xs.length + 1) cap e ≤ maxLen := grownCap_le_maxLen w (xs.length + 1) cap e (by unfold maxLen; omega)
        have hzs := hT.zs
        refine ⟨.slice (some ⟨w.heap.size, 0, none⟩) (xs.length + 1) (grownCap w (xs.length + 1) cap e), w.drew.alloc (.cells (xs.toArray ++ [u].toArray ++ Builtin.zeroCells z.cells (grownCap w (xs.length + 1) cap e - (xs.length + 1))) e), _, by simp [execOp, resolve, invoke, builtin, hx', hy', hv, hr], hm.upd (r' := rQ e (.slice (some ⟨w.heap.size, 0, none⟩) (xs.length + 1) (grownCap w (xs.length + 1) cap e)) (xs ++ [u])) hi rfl rfl rfl (by simp) (fun b' hb' hnf => by first | exact heap_alloc_old w.drew _ hb' | exact heap_alloc_old w.drew _ b' hb') ?_ (fun b' hb' => .inr ?_), rfl⟩
        · refine ⟨w.heap.size, 0, _, by simp, _, heap_alloc_new w.drew _, by simpa using hge, hcm, ?_, fun k' hk => ?_⟩
          · simp only [Array.size_append, List.size_toArray, size_zeroCells, hzs]
            simp; omega
          · simp only [Nat.zero_add]
            have hk2 : k' < xs.length + 1 := by simpa using hk
            rw [Array.getElem?_append_left (by simp; omega)]
            simp
        · have : (Value.slice (some ⟨w.heap.size, 0, none⟩) (xs.length + 1) (grownCap w (xs.length + 1) cap e)).ownBlock = some b' := hb'
          simp [Value.ownBlock] at this; omega)
    (by rintro v' _ rfl; exact K v')
theorem hl_pushQ {t d' e bb : Nat} {z : Value} [hT : Slc P t e 1 bb z] {xs : List Value} {ty' : TypeId} {pos' : String} {after' : Array Edge} (i : Nat) (hi : rs[i]? = some (rQ e v xs)) (hd : d < N) (hd' : d' < N)
    (hx : env.ev x = some u) (hu : u.oneCell' = true) (hzc : z.cells = #[z]) (hy : ∀ b, Env.ev ((d, .slice (some ⟨b, 0, none⟩) 1 1) :: env) y = some v) (hn : xs.length < 1099511627776) (hbb : bb ≤ 64)
    (K : ∀ v' b, HL P N ((d', v') :: (d, .slice (some ⟨b, 0, none⟩) 1 1) :: env) w0 (rs.set i (rQ e v' (xs ++ [u]))) ops Q l) :
    HL P N env w0 rs ops Q (⟨some d, .buildSlice t 1 #[(0, x)], ty, pos, after, none⟩ :: ⟨some d', .call { callee := .builtin .append, args := #[y, .tmp d], argTypes := #[t, t] }, ty', pos', after', none⟩ :: l) := by
  refine hl_build1 hd hx hu hzc (fun b => ?_)
  have hlen : i < rs.length := (List.getElem?_eq_some_iff.1 hi).1
  refine hl_appQ (b := b) (u := u) i rs.length (by rw [List.getElem?_append_left hlen]; exact hi) (by simp) hd' (hy b) (by simp [Env.ev, Env.at]) hu hn hbb (fun v' => ?_)
  rw [List.set_append_left _ _ hlen]
  refine hl_mem (fun w hm => ?_) (K v' b)
  exact Mem.keep _ hm
/-- A guarded operation whose guard holds. -/
theorem hl_un {i g : Nat} {c : Bool} {dst : Option Nat} {op : Op} (ho : (ops[i]?).bind (·.dst) = some g) (hg : env.at g = some (.bool c)) (h : HL P N env w0 rs ops Q (⟨dst, op, ty, pos, after, none⟩ :: l)) :
    HL P N env w0 rs ops Q (⟨dst, op, ty, pos, after, some (i, c)⟩ :: l) := by
  unfold HL at h ⊢
  intro a w hs hm
  have h1 := h a w hs hm
  unfold wpList at h1 ⊢
  rw [if_pos (wanted_yes hs ho hg)]
  rw [if_pos (show Region.wanted ⟨dst, op, ty, pos, after, none⟩ (yielded ops a.tmps) = true from rfl)] at h1
  exact h1
end
end Go.Eng
