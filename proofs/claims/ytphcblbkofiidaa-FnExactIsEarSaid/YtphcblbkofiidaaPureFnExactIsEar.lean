/- The law FnExactIsEar: both functions answer alike. No conditions. -/
import Derived.Test.YtphcblbkofiidaaUFnExactIsEar
import Derived.Test.YtphcblbkofiidaaPqJ
import Derived.Test.YtphcblbkofiidaaFA
namespace Go.Proofs.Ytphcblbkofiidaa.Pure
open Go.RowKit Go.Proofs.Ytphcblbkofiidaa.G Go.Proofs.YtphcblbkofiidaaW.PrintWords Go.Proofs.YtphcblbkofiidaaW.PrintLast Go.Proofs.YtphcblbkofiidaaW.PrintMore
set_option linter.unusedSimpArgs false
set_option linter.unusedVariables false
theorem FnExactIsEar : laws_FnExactIsEar.Pure := by
  intro l a0 hl _ _
  refine ⟨1100000, ?_⟩
  unfold laws_FnExactIsEar.f
  by_cases h : l.length ≤ 1048576
  · have hm : (l.map cv).length = l.length := by simp
    rw [sz_small l h, Option.bind_some, if_neg (by omega)]
    simp only [toPointS_eq l h 1100000 (by omega), Option.bind_some, laws_toPoint.f]
    obtain ⟨r, e1, e2⟩ := both_IsEar (l.map cv) (by omega) a0 1100000 (by omega)
    rw [e1, e2]
    simp only [Option.bind_some, bne_self_eq_false]
    rw [if_neg (by simp), eqPointS_eq _ _ (by omega) _ (by omega)]
    simp
  · rw [sz_large l hl h, Option.bind_some, if_pos (by omega)]
end Go.Proofs.Ytphcblbkofiidaa.Pure
