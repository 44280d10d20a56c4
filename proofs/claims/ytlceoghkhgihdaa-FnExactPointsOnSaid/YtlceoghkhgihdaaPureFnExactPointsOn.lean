/- The law FnExactPointsOn: both functions answer alike. No conditions. -/
import Derived.Test.YtlceoghkhgihdaaUFnExactPointsOn
import Derived.Test.YtlceoghkhgihdaaPhP
import Derived.Test.YtlceoghkhgihdaaPg
namespace Go.Proofs.Ytlceoghkhgihdaa.Pure
open Go.RowKit Go.Proofs.Ytlceoghkhgihdaa.G Go.Proofs.YtlceoghkhgihdaaW.PrintWords Go.Proofs.YtlceoghkhgihdaaW.PrintLast Go.Proofs.YtlceoghkhgihdaaW.PrintMore
set_option linter.unusedSimpArgs false
set_option linter.unusedVariables false
theorem FnExactPointsOn : laws_FnExactPointsOn.Pure := by
  intro a0 a1 b0 b1 _ _ _ _
  refine ⟨100000, ?_⟩
  unfold laws_FnExactPointsOn.f
  simp only [laws_toPoint.f, Option.bind_some]
  obtain ⟨r, e1, e2, e3⟩ := both_PointsOn a0 a1 b0 b1 100000 (by omega)
  rw [e1, e2]
  simp only [Option.bind_some]
  rw [eqPointS_eq _ _ (by omega) _ (by omega), Option.bind_some, if_pos (by simp), markPointS_eq r (by omega) 1 (by omega) (by omega) _ (by omega)]
  simp only [Option.bind_some]
  rw [heldPointS_eq _ (by omega) 1 (by omega) (by omega) _ (by omega)]
  simp only [Option.bind_some, if_true]
  rw [if_neg (by omega), if_pos (by simp)]
  simp
  omega
end Go.Proofs.Ytlceoghkhgihdaa.Pure
