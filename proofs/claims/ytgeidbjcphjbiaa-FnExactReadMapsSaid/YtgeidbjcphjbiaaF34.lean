/- Contracts: MapsByDraws, ThenMaps. -/
import Derived.Test.YtgeidbjcphjbiaaF33
import Derived.Test.YtgeidbjcphjbiaaH6
namespace Go.Eng
open Go.RowKit
section
variable {w0 w : World} {rs : List Res}
/-- A resource and the star of others become one star, behind others. -/
theorem Mem.joinStar {a : Res} {L : List Res} (pre : List Res) (idx : List Nat) (i j : Nat) (h : Mem w0 rs w) (hnd : (idx ++ [i, j]).Nodup) (hp : idx.map (fun i => rs[i]?) = pre.map some) (hi : rs[i]? = some a) (hj : rs[j]? = some (rStar L)) :
    Mem w0 (pre ++ [rStar (a :: L)]) w := by
  have h1 : Mem w0 (pre ++ [a, rStar L]) w := h.pick (idx ++ [i, j]) hnd (by simp [hp, hi, hj])
  have h2 : Mem w0 (rStar L :: a :: pre) w := h1.weaken (fun k => if k = 0 then pre.length + 1 else if k = 1 then pre.length else k - 2) _ (fun a b e ha hb => by
      simp at ha hb
      split at e <;> split at e <;> (try split at e) <;> (try split at e) <;> omega) (fun a r ha => by
    match a, ha with
    | 0, ha => simp at ha; subst ha; simp
    | 1, ha => simp at ha; subst ha; simp
    | k + 2, ha =>
      simp at ha
      have := (List.getElem?_eq_some_iff.1 ha).1
      simp [List.getElem?_append_left this, ha])
  have h3 : Mem w0 (L ++ (a :: pre)) w := h2.flat
  have h4 : Mem w0 ((a :: L) ++ pre) w := h3.weaken (fun k => if k = 0 then L.length else if k ≤ L.length then k - 1 else k) _ (fun a b e ha hb => by
      simp at ha hb
      split at e <;> split at e <;> (try split at e) <;> (try split at e) <;> omega) (fun a r ha => by
    cases a with
    | zero => simp at ha; subst ha; simp
    | succ k =>
      simp only [List.cons_append, List.getElem?_cons_succ] at ha
      by_cases hk : k < L.length
      · rw [List.getElem?_append_left hk] at ha
        have : k + 1 ≤ L.length := hk
        simp only [Nat.succ_ne_zero, if_false, this, if_true, Nat.add_sub_cancel]
        rw [List.getElem?_append_left hk]; exact ha
      · rw [List.getElem?_append_right (by omega)] at ha
        have : ¬ k + 1 ≤ L.length := by omega
        simp only [Nat.succ_ne_zero, if_false, this]
        rw [List.getElem?_append_right (by omega)]
        have e : k + 1 - L.length = (k - L.length) + 1 := by omega
        rw [e, List.getElem?_cons_succ]; exact ha)
  have h5 : Mem w0 (rStar (a :: L) :: pre) w := h4.star
  exact h5.weaken (fun k => if k < pre.length then k + 1 else 0) _ (fun a b e ha hb => by
      simp at ha hb
      split at e <;> split at e <;> omega) (fun a r ha => by
    rw [List.getElem?_append] at ha
    split at ha
    · rename_i hlt; simp only [hlt, if_true]; simpa using ha
    · rename_i hge
      have : a - pre.length = 0 := by have := (List.getElem?_eq_some_iff.1 ha).1; simp at this; omega
      rw [this] at ha; simp at ha; subst ha; simp [hge])
/-- Maps, out of their two halves. -/
theorem Mem.maps {e1 e2 : TypeId} {v : Value} {us : List Value} {ks : List Int} {xss : List (List Int)} {n : Nat} (pre : List Res) (idx : List Nat) (i j : Nat) (h : Mem w0 rs w) (hn : n = us.length) (hnd : (idx ++ [i, j]).Nodup) (hp : idx.map (fun i => rs[i]?) = pre.map some) (hi : rs[i]? = some (rOwn e1 2 v n (cells2 ks us))) (hj : rs[j]? = some (rStar (rRow e2 (Value.int .i64) us xss))) :
    Mem w0 (pre ++ [rMaps e1 e2 v us ks xss]) w := by
  subst hn
  exact h.joinStar pre idx i j hnd hp hi hj
theorem maps_nil (e1 e2 : TypeId) (h : Mem w0 rs w) : Mem w0 (rs ++ [rMaps e1 e2 (.slice none 0 0) [] [] []]) w := by
  have h1 := (h.nilOwn e1 2).empty
  have h2 := h1.joinStar (a := rOwn e1 2 (.slice none 0 0) 0 []) (L := []) rs (List.range rs.length) rs.length (rs.length + 1) (by
      rw [List.nodup_append]
      refine ⟨List.nodup_range, by simp, fun a ha b hb e => ?_⟩
      simp at ha hb; omega) (by
      apply List.ext_getElem?
      intro i
      by_cases hi : i < rs.length
      · simp [hi, List.getElem?_append_left hi, List.getElem?_append_left (show i < (rs ++ [rOwn e1 2 (.slice none 0 0) 0 []]).length by simp; omega)]
      · simp [hi]) (by simp) (by simp)
  exact h2
end
end Go.Eng
namespace Go.Proofs.Ytgeidbjcphjbiaa
open Go.Eng Go.RowKit
set_option linter.unusedVariables false

def pErr (c : Int) : MpM := ⟨0, 0, [], [], c⟩
theorem mpErr (e1 e2 : TypeId) (c : Int) {rs : List Res} (h : rs = [rMaps e1 e2 (.slice none 0 0) [] [] []]) : MpOut e1 e2 (pErr c) (.tuple #[.agg #[.int .i64 0, .int .i64 0, .slice none 0 0], .int .i64 c]) rs :=
  ⟨_, [], rfl, h, rfl, nil_ok⟩
theorem pErr_small (c : Int) : Small (pErr c).xss := ⟨by simp [pErr], fun i hi => by simp [pErr] at hi⟩
theorem Mem.lone' {w0 w : World} {r : Res} {rs : List Res} (h : Mem w0 (rs ++ [r]) w) : Mem w0 [r] w := Mem.tail1 h

theorem bldMap {a : Int} {x : Value} {n : Nat} (hx : SlOk x n) : Try.prog.built 115 [(0, .int .i64 a), (1, x)] = some #[.int .i64 a, x] := by
  unfold SlOk at hx
  obtain ⟨p, c, rfl, _⟩ := hx
  kernel_rfl
noncomputable def mbdM (st tot : Int) (xss : List (List Int)) : MpM := if Valid st tot xss then ⟨st, tot, tab tot.toNat (fun _ => 1), tab tot.toNat (fun d => tab xss.length fun s => stepTo xss s d), 0⟩ else pErr 1
theorem mbdM_small (st tot : Int) (xss : List (List Int)) : Small (mbdM st tot xss).xss := by
  unfold mbdM
  split
  · rename_i h
    have h1 := h.t1
    have h2 := h.nat
    refine ⟨by simp only [tab_length]; omega, fun i hi => ?_⟩
    simp only [tab_length] at hi
    simp only [tab_getD _ _ _ _ hi, tab_length]; omega
  · exact pErr_small 1
theorem mbdM_len (st tot : Int) (xss : List (List Int)) : (mbdM st tot xss).ks.length = (mbdM st tot xss).xss.length := by
  unfold mbdM
  split
  · simp only [tab_length]
  · rfl
end Go.Proofs.Ytgeidbjcphjbiaa
