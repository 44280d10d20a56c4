/- The law FnExactIsTriangulation: both functions answer alike. No conditions. -/
import Derived.Test.YtlccpkggdmngaaaUFnExactIsTriangulation
import Derived.Test.YtlccpkggdmngaaaPti
import Derived.Test.YtlccpkggdmngaaaFA
namespace Go.Proofs.Ytlccpkggdmngaaa.Pure
open Go.RowKit Go.Proofs.Ytlccpkggdmngaaa.G Go.Proofs.YtlccpkggdmngaaaW.PrintWords Go.Proofs.YtlccpkggdmngaaaW.PrintLast Go.Proofs.YtlccpkggdmngaaaW.PrintMore
set_option linter.unusedSimpArgs false
set_option linter.unusedVariables false
theorem FnExactIsTriangulation : laws_FnExactIsTriangulation.Pure := by
  intro l L hl _ hL hx
  refine ⟨3000000, ?_⟩
  unfold laws_FnExactIsTriangulation.f
  by_cases h : l.length ≤ 1048576
  · rw [sz_small l h, Option.bind_some, if_neg (by omega)]
    rcases szIntSS_eq L hL hx (1048576 - (l.length : Int)) (by omega) (by omega) with h1 | ⟨v, hv, h1, hB⟩
    · rw [h1 _ (by omega), Option.bind_some, if_pos (by omega)]
    · obtain ⟨r, hr⟩ := all_IsTriangulation (l.map cv) (by rw [List.length_map]; omega) L hB
      obtain ⟨e1, e2⟩ := hr 3000000 (by omega)
      have ef : laws_eqPointS.f 3000000 (l.map cv) (l.map cv) = some true := by
        have hm : (l.map cv).length = l.length := by simp
        rw [eqPointS_eq _ _ (by omega) _ (by omega)]; simp
      rw [h1 _ (by omega), Option.bind_some, if_neg (by omega), toPointS_eq l h 3000000 (by omega), Option.bind_some, toIntSS_eq L hB _ (by omega), Option.bind_some, e1, Option.bind_some, Option.bind_some, Option.bind_some, e2, Option.bind_some, if_neg (by simp), Option.bind_some, ef, Option.bind_some, if_pos rfl, Option.bind_some, eqIntSS_self L hB _ (by omega), Option.bind_some, if_pos rfl]
  · rw [sz_large l hl h, Option.bind_some, if_pos (by omega)]
end Go.Proofs.Ytlccpkggdmngaaa.Pure
