/- The law FnExactInnerPoints: both functions answer alike. No conditions. -/
import Derived.Test.YtlfifpkigapabaaUFnExactInnerPoints
import Derived.Test.YtlfifpkigapabaaPvS
import Derived.Test.YtlfifpkigapabaaFA
namespace Go.Proofs.Ytlfifpkigapabaa.Pure
open Go.RowKit Go.Proofs.Ytlfifpkigapabaa.G Go.Proofs.YtlfifpkigapabaaW.PrintWords Go.Proofs.YtlfifpkigapabaaW.PrintLast Go.Proofs.YtlfifpkigapabaaW.PrintMore
set_option linter.unusedSimpArgs false
set_option linter.unusedVariables false
theorem FnExactInnerPoints : laws_FnExactInnerPoints.Pure := by
  intro l  hl _ 
  refine ⟨1100000, ?_⟩
  unfold laws_FnExactInnerPoints.f
  by_cases h : l.length ≤ 1048576
  · have hm : (l.map cv).length = l.length := by simp
    rw [sz_small l h, Option.bind_some, if_neg (by omega)]
    simp only [toPointS_eq l h 1100000 (by omega), Option.bind_some, laws_toPoint.f]
    obtain ⟨r, e1, e2⟩ := both_InnerPoints (l.map cv) (by omega)  1100000 (by omega)
    rw [e1, e2]
    simp only [Option.bind_some, if_true]
    rw [eqPointS_eq _ _ (by omega) _ (by omega)]
    simp
  · rw [sz_large l hl h, Option.bind_some, if_pos (by omega)]
end Go.Proofs.Ytlfifpkigapabaa.Pure
