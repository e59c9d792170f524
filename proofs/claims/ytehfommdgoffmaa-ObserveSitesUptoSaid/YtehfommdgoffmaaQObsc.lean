/- What the laws of this seat share: the closed example answers true; small sums do not wrap. -/
import Derived.Test.YtehfommdgoffmaaQObsx4
namespace Go.Proofs.Ytehfommdgoffmaa.QObs
open Go.RowKit Go.Proofs.YtehfommdgoffmaaW.PrintWords Go.Proofs.YtehfommdgoffmaaW.PrintLast Go.Proofs.YtehfommdgoffmaaW.PrintMore
set_option linter.unusedVariables false
set_option linter.unusedSimpArgs false

theorem w64 {x : Int} (h : -9223372036854775808 ≤ x) (h' : x < 9223372036854775808) : wrap64 x = x := by unfold wrap64; omega

theorem awake_ok : ∀ k, 12 ≤ k → dataflowlaw16_awake.f k = some true := by
  intro k hk
  induction hk with
  | refl => kernel_rfl
  | step _ ih => exact dataflowlaw16_awake.mono _ _ ih

theorem rd_nat (x : List Int) (i : Nat) : rd x (i : Int) = x.getD i 0 := by simp [rd]

end Go.Proofs.Ytehfommdgoffmaa.QObs
