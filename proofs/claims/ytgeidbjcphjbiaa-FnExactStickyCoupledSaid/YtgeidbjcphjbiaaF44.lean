/- Contracts: ApartCoupled, StairCoupled, BestCoupled, by the book. -/
import Derived.Test.YtgeidbjcphjbiaaF43
namespace Go.Eng
open Go.RowKit
section
variable {P : Program} {N : Nat} {env : Env} {w0 : World} {rs : List Res} {Q : Exit → Act → World → Prop}
/-- Ways through a piece of code that meet behind it. -/
theorem hw_meet (E : Env) (R : List Res) {c : Code} (h : HW P N env w0 rs c (Exit.then (Joined N E w0 R) Q)) (k : HX N E w0 R (Q .normal)) : HW P N env w0 rs c Q := by
  unfold HW at h ⊢
  unfold HX at k
  intro a w hs hmem
  refine wp_mono (h a w hs hmem) ?_
  intro e a' w' hq
  cases e with
  | normal => exact k a' w' hq.1 hq.2
  | _ => exact hq
end
end Go.Eng
namespace Go.Proofs.Ytgeidbjcphjbiaa
open Go.Eng Go.RowKit
set_option linter.unusedVariables false

theorem mem_zer {w0 w : World} {A : List Res} {x : Value} {m : Nat} (h : Mem w0 (A ++ [rOwn 2 1 x m ((tab m fun _ => (0 : Int)).map (Value.int .i64))]) w) : Mem w0 (A ++ [rE 2 (Value.int .i64) x (zer m)]) w := by
  unfold rE
  rw [zer_length]
  exact h
end Go.Proofs.Ytgeidbjcphjbiaa
