/- The law FnExactIsOval: both functions answer alike. No conditions. -/
import Derived.Test.YtbhnmofbbnimaaaUFnExactIsOval
import Derived.Test.YtbhnmofbbnimaaaPqO
import Derived.Test.YtbhnmofbbnimaaaFA
namespace Go.Proofs.Ytbhnmofbbnimaaa.Pure
open Go.RowKit Go.Proofs.Ytbhnmofbbnimaaa.G Go.Proofs.YtbhnmofbbnimaaaW.PrintWords Go.Proofs.YtbhnmofbbnimaaaW.PrintLast Go.Proofs.YtbhnmofbbnimaaaW.PrintMore
set_option linter.unusedSimpArgs false
set_option linter.unusedVariables false
theorem FnExactIsOval : laws_FnExactIsOval.Pure := by
  intro l  hl _ 
  refine ⟨1100000, ?_⟩
  unfold laws_FnExactIsOval.f
  by_cases h : l.length ≤ 1048576
  · have hm : (l.map cv).length = l.length := by simp
    rw [sz_small l h, Option.bind_some, if_neg (by omega)]
    simp only [toPointS_eq l h 1100000 (by omega), Option.bind_some, laws_toPoint.f]
    obtain ⟨r, e1, e2⟩ := both_IsOval (l.map cv) (by omega)  1100000 (by omega)
    rw [e1, e2]
    simp only [Option.bind_some, bne_self_eq_false]
    rw [if_neg (by simp), eqPointS_eq _ _ (by omega) _ (by omega)]
    simp
  · rw [sz_large l hl h, Option.bind_some, if_pos (by omega)]
end Go.Proofs.Ytbhnmofbbnimaaa.Pure
