/- Lists of states led on by maps; runs. -/
import Derived.Test.YtgeidbjcphjbiaaF7
import Derived.Test.YtgeidbjcphjbiaaLibR
namespace Go.Proofs.Ytgeidbjcphjbiaa
open Go.Eng Go.RowKit
set_option linter.unusedVariables false

/-- Maps behind a pointer. -/
structure _root_.Go.Eng.PtM (w : World) (p : Addr) (st tot : Int) (v : Value) (ks : List Int) (xss : List (List Int)) (row : Nat → Value) : Prop where
  h0 : w.cell? (p.add 0) = some (.int .i64 st)
  h1 : w.cell? (p.add 1) = some (.int .i64 tot)
  h2 : w.cell? (p.add 2) = some v
  hr : RdM w v ks xss row
theorem _root_.Go.Eng.PtM.up {w w' : World} {p : Addr} {st tot : Int} {v : Value} {ks : List Int} {xss : List (List Int)} {row : Nat → Value} (h : PtM w p st tot v ks xss row) (hb : Below w.heap.size w w') : PtM w' p st tot v ks xss row :=
  ⟨cell_up hb h.h0, cell_up hb h.h1, cell_up hb h.h2, h.hr.up hb⟩
theorem ptM_blk {w0 w : World} {rs : List Res} (i : Nat) {b tb : Nat} {st tot : Int} {v : Value} {ks : List Int} {xss : List (List Int)} {row : Nat → Value} (hi : rs[i]? = some (rBlk b #[.int .i64 st, .int .i64 tot, v] tb)) (hm : Mem w0 rs w) (hr : RdM w v ks xss row) :
    PtM w ⟨b, 0, none⟩ st tot v ks xss row :=
  ⟨(ld_blkA (w0 := w0) (off := 0) i hi rfl rfl).cell hm, (ld_blkA (w0 := w0) (off := 1) i hi rfl rfl).cell hm, (ld_blkA (w0 := w0) (off := 2) i hi rfl rfl).cell hm, hr⟩
theorem _root_.Go.Eng.PtM.ok {w : World} {p : Addr} {st tot : Int} {v : Value} {ks : List Int} {xss : List (List Int)} {row : Nat → Value} (h : PtM w p st tot v ks xss row) : Ret Try.prog 76 [.pointer (some p)] w (.bool (decide (ValidM st tot ks xss))) :=
  l05Ok_c p st tot v ks xss row w h.h0 h.h1 h.h2 h.hr
theorem ValidM.nat {st tot : Int} {ks : List Int} {xss : List (List Int)} (hv : ValidM st tot ks xss) : ∃ n : Nat, st = (n : Int) ∧ 1 ≤ n ∧ n ≤ 6 := by
  have := hv.s1
  exact ⟨st.toNat, by omega, by omega, by omega⟩
theorem i64_validM {st tot : Int} {ks : List Int} {xss : List (List Int)} (hv : ValidM st tot ks xss) : I64 st ∧ I64 tot ∧ 1 ≤ st ∧ 1 ≤ tot := by
  have := hv.s1; have := hv.t1
  unfold I64; omega
/-- Where map k leads state s. -/
def mAt (xss : List (List Int)) (k s : Nat) : Int := (xss.getD k []).getD s 0
theorem ValidM.rlen {st tot : Int} {ks : List Int} {xss : List (List Int)} (hv : ValidM st tot ks xss) (k : Nat) (hk : k < xss.length) : ((xss.getD k []).length : Int) = st := (hv.row k hk).len
theorem ValidM.at {st tot : Int} {ks : List Int} {xss : List (List Int)} (hv : ValidM st tot ks xss) (k s : Nat) (hk : k < xss.length) (hs : (s : Int) < st) : 0 ≤ mAt xss k s ∧ mAt xss k s ≤ st - 1 :=
  (hv.row k hk).all s (by have := hv.rlen k hk; omega)

/-- Numbers that are states. -/
def MSts (st : Int) (now : List Int) : Prop := ∀ i, i < now.length → 0 ≤ now.getD i 0 ∧ now.getD i 0 ≤ st - 1
/-- All states. -/
def allL (n : Nat) : List Int := tab n fun i => (i : Int)
theorem allL_length (n : Nat) : (allL n).length = n := tab_length _ _
theorem allL_getD (n i : Nat) (h : i < n) : (allL n).getD i 0 = (i : Int) := tab_getD _ _ _ _ h
theorem allL_sts (n : Nat) : MSts n (allL n) := fun i hi => by
  rw [allL_length] at hi
  rw [allL_getD _ _ hi]; omega
/-- States led on by a map. -/
def byL (xss : List (List Int)) (now : List Int) (k : Int) : List Int := tab now.length fun i => mAt xss k.toNat (now.getD i 0).toNat
theorem byL_length (xss : List (List Int)) (now : List Int) (k : Int) : (byL xss now k).length = now.length := tab_length _ _
theorem byL_getD (xss : List (List Int)) (now : List Int) (k : Int) (i : Nat) (h : i < now.length) : (byL xss now k).getD i 0 = mAt xss k.toNat (now.getD i 0).toNat := tab_getD _ _ _ _ h
/-- Picks. -/
structure PicksOk (n : Nat) (ds : List Int) : Prop where
  len : ds.length ≤ 200
  all : ∀ i, i < ds.length → 0 ≤ ds.getD i 0 ∧ ds.getD i 0 ≤ (n : Int) - 1
noncomputable instance (n : Nat) (ds : List Int) : Decidable (PicksOk n ds) := Classical.propDecidable _
theorem byL_sts {st tot : Int} {ks : List Int} {xss : List (List Int)} (hv : ValidM st tot ks xss) {now : List Int} (hn : MSts st now) {k : Int} (hk : 0 ≤ k ∧ k ≤ (xss.length : Int) - 1) : MSts st (byL xss now k) := fun i hi => by
  rw [byL_length] at hi
  rw [byL_getD _ _ _ _ hi]
  have := hn i hi
  exact hv.at _ _ (by omega) (by omega)
noncomputable def picC (st tot : Int) (ks : List Int) (xss : List (List Int)) (ds : List Int) : Int := if ValidM st tot ks xss then if PicksOk xss.length ds then 0 else 2 else 1
theorem picC_0 {st tot : Int} {ks : List Int} {xss : List (List Int)} {ds : List Int} (h : picC st tot ks xss ds = 0) : ValidM st tot ks xss ∧ PicksOk xss.length ds := by
  unfold picC at h
  split at h
  · rename_i h1
    split at h
    · rename_i h2; exact ⟨h1, h2⟩
    · cases h
  · cases h

/-- States led through the first k picks, in order. -/
def fwdL (xss : List (List Int)) (now : List Int) (ds : List Int) : Nat → List Int
  | 0 => now
  | k + 1 => byL xss (fwdL xss now ds k) (ds.getD k 0)
theorem fwdL_length (xss : List (List Int)) (now ds : List Int) : ∀ k, (fwdL xss now ds k).length = now.length
  | 0 => rfl
  | k + 1 => by rw [fwdL, byL_length, fwdL_length xss now ds k]
theorem fwdL_sts {st tot : Int} {ks : List Int} {xss : List (List Int)} (hv : ValidM st tot ks xss) {now ds : List Int} (hn : MSts st now) (hd : PicksOk xss.length ds) : ∀ k, k ≤ ds.length → MSts st (fwdL xss now ds k)
  | 0, _ => hn
  | k + 1, hk => byL_sts hv (fwdL_sts hv hn hd k (by omega)) (hd.all k (by omega))
/-- States led through the first k picks, the last one first. -/
def backL (xss : List (List Int)) (ds : List Int) : Nat → List Int → List Int
  | 0, now => now
  | k + 1, now => backL xss ds k (byL xss now (ds.getD k 0))
theorem backL_length (xss : List (List Int)) (ds : List Int) : ∀ k now, (backL xss ds k now).length = now.length
  | 0, _ => rfl
  | k + 1, now => by rw [backL, backL_length xss ds k, byL_length]
theorem backL_sts {st tot : Int} {ks : List Int} {xss : List (List Int)} (hv : ValidM st tot ks xss) {ds : List Int} (hd : PicksOk xss.length ds) : ∀ k now, k ≤ ds.length → MSts st now → MSts st (backL xss ds k now)
  | 0, _, _, hn => hn
  | k + 1, now, hk, hn => backL_sts hv hd k _ (by omega) (byL_sts hv hn (hd.all k (by omega)))

/-- All the same. -/
def AllEq (now : List Int) : Prop := ∀ i, i < now.length → now.getD i 0 = now.getD 0 0
noncomputable instance (now : List Int) : Decidable (AllEq now) := Classical.propDecidable _
theorem allEq_all (n : Nat) (h : 1 ≤ n) : AllEq (allL n) ↔ n = 1 := by
  constructor
  · intro h1
    by_cases e : n = 1
    · exact e
    · have h2 := h1 1 (by rw [allL_length]; omega)
      rw [allL_getD _ _ (by omega), allL_getD _ _ (by omega)] at h2
      omega
  · rintro rfl i hi
    rw [allL_length] at hi
    have : i = 0 := by omega
    subst this; rfl

/-- What a run answers. -/
structure V3 where
  a : Int
  b : Int
  c : Int
def V3.v (x : V3) : Value := .tuple #[.int .i64 x.a, .int .i64 x.b, .int .i64 x.c]
noncomputable def runG (g : Nat → Nat) (xss : List (List Int)) (fr ds : List Int) : Nat → Nat → V3
  | 0, _ => ⟨0, 0, 6⟩
  | f + 1, k => if k ≤ ds.length then if AllEq (backL xss ds k fr) then ⟨(backL xss ds k fr).getD 0 0, k, 0⟩ else runG g xss fr ds f (g k) else ⟨0, 0, 6⟩
theorem runG_end (g : Nat → Nat) (xss : List (List Int)) (fr ds : List Int) (f k : Nat) (h : ds.length < k) : runG g xss fr ds f k = ⟨0, 0, 6⟩ := by
  cases f with
  | zero => rfl
  | succ f => rw [runG, if_neg (by omega)]
noncomputable def runV (g : Nat → Nat) (xss : List (List Int)) (fr ds : List Int) : V3 := if AllEq fr then ⟨fr.getD 0 0, 0, 0⟩ else runG g xss fr ds ds.length 1
noncomputable def fwdG (xss : List (List Int)) (fr ds : List Int) : Nat → Nat → V3
  | 0, _ => ⟨0, 0, 6⟩
  | f + 1, k => if AllEq (fwdL xss fr ds k) then ⟨(fwdL xss fr ds k).getD 0 0, k, 0⟩ else fwdG xss fr ds f (k + 1)
def eV (c : Int) : V3 := ⟨0, 0, c⟩
noncomputable def pasV (st tot : Int) (ks : List Int) (xss : List (List Int)) (ds : List Int) : V3 := if picC st tot ks xss ds = 0 then runV (fun k => k + 1) xss (allL st.toNat) ds else eV (picC st tot ks xss ds)
noncomputable def winV (st tot : Int) (ks : List Int) (xss : List (List Int)) (ds : List Int) : V3 := if picC st tot ks xss ds = 0 then runV (fun k => 2 * k) xss (allL st.toNat) ds else eV (picC st tot ks xss ds)
noncomputable def fwdV (st tot : Int) (ks : List Int) (xss : List (List Int)) (ds : List Int) : V3 := if picC st tot ks xss ds = 0 then fwdG xss (allL st.toNat) ds (ds.length + 1) 0 else eV (picC st tot ks xss ds)
noncomputable def appXs (st tot : Int) (ks : List Int) (xss : List (List Int)) (ds : List Int) : List Int := if picC st tot ks xss ds = 0 then fwdL xss (allL st.toNat) ds ds.length else []
theorem appXs_small (st tot : Int) (ks : List Int) (xss : List (List Int)) (ds : List Int) : (appXs st tot ks xss ds).length ≤ 1048576 := by
  unfold appXs
  split
  · rename_i h
    have := (picC_0 h).1.s1
    rw [fwdL_length, allL_length]; omega
  · simp
end Go.Proofs.Ytgeidbjcphjbiaa
