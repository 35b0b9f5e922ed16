/- Contracts: mixtures and products of chains: the program's functions. -/
import Derived.Test.YtgeidbjcphjbiaaPureC
namespace Go.Proofs.Ytgeidbjcphjbiaa
open Go.Eng Go.RowKit
set_option linter.unusedVariables false

/-- The code of two chains. -/
noncomputable def pairC (st tot : Int) (xss : List (List Int)) (st' tot' : Int) (yss : List (List Int)) : Int := if Valid st tot xss ∧ Valid st' tot' yss then if st = st' then 0 else 2 else 1
section
variable {p : Addr} {st tot : Int} {v : Value} {xss : List (List Int)} {row : Nat → Value} {p' : Addr} {st' tot' : Int} {v' : Value} {yss : List (List Int)} {row' : Nat → Value} {w : World}
end

/-- What LazyChain, MixChains, ThenChain hand back. -/
noncomputable def lazyM (st tot : Int) (xss : List (List Int)) : ChM := if Valid st tot xss then builtM xss.length (2 * tot) (fun s t => cAt xss s t + stayF tot s t) else mErr 1
noncomputable def mixM (st tot : Int) (xss : List (List Int)) (st' tot' : Int) (yss : List (List Int)) : ChM :=
  if pairC st tot xss st' tot' yss = 0 then builtM xss.length (2 * tot * tot') (mixF xss yss tot tot') else mErr (pairC st tot xss st' tot' yss)
noncomputable def thenM (st tot : Int) (xss : List (List Int)) (st' tot' : Int) (yss : List (List Int)) : ChM :=
  if pairC st tot xss st' tot' yss = 0 then builtM xss.length (tot * tot') (thenF xss.length xss yss) else mErr (pairC st tot xss st' tot' yss)
theorem pairC_0 {st tot : Int} {xss : List (List Int)} {st' tot' : Int} {yss : List (List Int)} (h : pairC st tot xss st' tot' yss = 0) : Valid st tot xss ∧ Valid st' tot' yss ∧ yss.length = xss.length := by
  unfold pairC at h
  split at h
  · rename_i hv
    split at h
    · have := hv.1.nat; have := hv.2.nat; exact ⟨hv.1, hv.2, by omega⟩
    · omega
  · omega
theorem builtM_small (n : Nat) (tot : Int) (g : Nat → Nat → Int) : Small (builtM n tot g).xss := by
  unfold builtM
  split
  · exact ⟨by simp [mErr], fun i hi => by simp [mErr] at hi⟩
  · exact mat_small n (by omega) g
theorem mErr_small (c : Int) : Small (mErr c).xss := ⟨by simp [mErr], fun i hi => by simp [mErr] at hi⟩
theorem lazyM_small (st tot : Int) (xss : List (List Int)) : Small (lazyM st tot xss).xss := by
  unfold lazyM; split
  · exact builtM_small _ _ _
  · exact mErr_small _
theorem mixM_small (st tot : Int) (xss : List (List Int)) (st' tot' : Int) (yss : List (List Int)) : Small (mixM st tot xss st' tot' yss).xss := by
  unfold mixM; split
  · exact builtM_small _ _ _
  · exact mErr_small _
theorem thenM_small (st tot : Int) (xss : List (List Int)) (st' tot' : Int) (yss : List (List Int)) : Small (thenM st tot xss st' tot' yss).xss := by
  unfold thenM; split
  · exact builtM_small _ _ _
  · exact mErr_small _

end Go.Proofs.Ytgeidbjcphjbiaa
