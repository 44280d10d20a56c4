/- The law FnExactIsInside: both functions answer alike. No conditions. -/
import Derived.Test.YtlceoghkhgihdaaUFnExactIsInside
import Derived.Test.YtlceoghkhgihdaaPhI
import Derived.Test.YtlceoghkhgihdaaFA
namespace Go.Proofs.Ytlceoghkhgihdaa.Pure
open Go.RowKit Go.Proofs.Ytlceoghkhgihdaa.G Go.Proofs.YtlceoghkhgihdaaW.PrintWords Go.Proofs.YtlceoghkhgihdaaW.PrintLast Go.Proofs.YtlceoghkhgihdaaW.PrintMore
set_option linter.unusedSimpArgs false
set_option linter.unusedVariables false
theorem FnExactIsInside : laws_FnExactIsInside.Pure := by
  intro l a0_0 a0_1 hl _ _ _
  refine ⟨1100000, ?_⟩
  unfold laws_FnExactIsInside.f
  by_cases h : l.length ≤ 1048576
  · have hm : (l.map cv).length = l.length := by simp
    rw [sz_small l h, Option.bind_some, if_neg (by omega)]
    simp only [toPointS_eq l h 1100000 (by omega), Option.bind_some, laws_toPoint.f]
    obtain ⟨r, e1, e2⟩ := both_IsInside (l.map cv) (by omega) a0_0 a0_1 1100000 (by omega)
    rw [e1, e2]
    simp only [Option.bind_some, bne_self_eq_false]
    rw [if_neg (by simp), eqPointS_eq _ _ (by omega) _ (by omega)]
    simp
  · rw [sz_large l hl h, Option.bind_some, if_pos (by omega)]
end Go.Proofs.Ytlceoghkhgihdaa.Pure
