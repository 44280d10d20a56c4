/- The law FnExactTriangulate: both functions answer alike. No conditions. -/
import Derived.Test.YtlccpkggdmngaaaUFnExactTriangulate
import Derived.Test.YtlccpkggdmngaaaPw
import Derived.Test.YtlccpkggdmngaaaPg
import Derived.Test.YtlccpkggdmngaaaFA
namespace Go.Proofs.Ytlccpkggdmngaaa.Pure
open Go.RowKit Go.Proofs.Ytlccpkggdmngaaa.G Go.Proofs.YtlccpkggdmngaaaW.PrintWords Go.Proofs.YtlccpkggdmngaaaW.PrintLast Go.Proofs.YtlccpkggdmngaaaW.PrintMore
set_option linter.unusedSimpArgs false
set_option linter.unusedVariables false
theorem FnExactTriangulate : laws_FnExactTriangulate.Pure := by
  intro l hl _
  refine ⟨3000000, ?_⟩
  unfold laws_FnExactTriangulate.f
  by_cases h : l.length ≤ 1048576
  · have hm : (l.map cv).length = l.length := by simp
    obtain ⟨r, hf, hk⟩ := all_Triangulate (l.map cv) (by omega)
    obtain ⟨e1, e2⟩ := hk 3000000 (by omega)
    have ef : laws_eqPointS.f 3000000 (l.map cv) (l.map cv) = some true := by rw [eqPointS_eq _ _ (by omega) _ (by omega)]; simp
    have nl : ¬ (1 + 2 * ((l.map cv).length : Int) < 0) := by omega
    have nt : ¬ (1 + (total r.1 : Int) < 0) := by omega
    rw [sz_small l h, Option.bind_some, if_neg (by omega), toPointS_eq l h 3000000 (by omega), Option.bind_some, e1, Option.bind_some, e2, Option.bind_some, if_pos (eqSS_self hf _ (by omega)), if_pos rfl, if_pos ef, markPointS_eq _ (by omega) 1 (by omega) (by omega) 3000000 (by omega), Option.bind_some]
    simp only
    rw [if_neg nl, markSS_eq hf _ (by omega), Option.bind_some]
    simp only
    rw [if_neg nt, if_pos (heldSS_eq hf _ (by omega))]
  · rw [sz_large l hl h, Option.bind_some, if_pos (by omega)]
end Go.Proofs.Ytlccpkggdmngaaa.Pure
