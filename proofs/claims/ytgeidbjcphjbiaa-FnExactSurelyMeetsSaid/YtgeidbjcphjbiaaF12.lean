/- Contracts: mixtures and products of chains: the reference's functions. -/
import Derived.Test.YtgeidbjcphjbiaaF11
import Derived.Test.YtgeidbjcphjbiaaLibG
namespace Go.Proofs.Ytgeidbjcphjbiaa
open Go.Eng Go.RowKit
set_option linter.unusedVariables false

/-- A chain that a function of the reference has made. -/
def ChNew (e1 e2 : TypeId) (st tot : Int) (xss : List (List Int)) (v : Value) (rs : List Res) : Prop :=
  ∃ (u : Value) (vs : List Value), v = chV st tot u ∧ rs = [rRows e1 e2 (Value.int .i64) u vs xss] ∧ vs.length = xss.length ∧ SlOk u xss.length

theorem stay_set (n s : Nat) (c : Int) (hs : s < n) : (List.replicate n (Value.int .i64 0)).set s (.int .i64 c) = (tab n (stayF c s)).map (Value.int .i64) := by
  apply List.ext_getElem (by simp [tab_length])
  intro i h1 h2
  have hi : i < n := by simpa using h1
  have hg : (tab n (stayF c s))[i]'(by rw [tab_length]; exact hi) = stayF c s i := by
    have := tab_getD n (stayF c s) i 0 hi
    rwa [getD_lt _ _ _ (by rw [tab_length]; exact hi)] at this
  rw [List.getElem_set, List.getElem_map, hg]
  unfold stayF
  split <;> simp
end Go.Proofs.Ytgeidbjcphjbiaa
