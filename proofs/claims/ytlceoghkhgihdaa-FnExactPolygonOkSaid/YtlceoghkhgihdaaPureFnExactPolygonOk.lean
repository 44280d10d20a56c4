/- The law FnExactPolygonOk: both functions answer alike. No conditions. -/
import Derived.Test.YtlceoghkhgihdaaUFnExactPolygonOk
import Derived.Test.YtlceoghkhgihdaaPf
import Derived.Test.YtlceoghkhgihdaaPd
namespace Go.Proofs.Ytlceoghkhgihdaa.Pure
open Go.RowKit Go.Proofs.Ytlceoghkhgihdaa.G Go.Proofs.YtlceoghkhgihdaaW.PrintWords Go.Proofs.YtlceoghkhgihdaaW.PrintLast Go.Proofs.YtlceoghkhgihdaaW.PrintMore
set_option linter.unusedSimpArgs false
set_option linter.unusedVariables false
theorem FnExactPolygonOk : laws_FnExactPolygonOk.Pure := by
  intro l hl _
  refine ⟨1100000, ?_⟩
  unfold laws_FnExactPolygonOk.f
  by_cases h : l.length ≤ 1048576
  · have hm : (l.map cv).length = l.length := by simp
    rw [sz_small l h, Option.bind_some, if_neg (by omega)]
    simp only [toPointS_eq l h 1100000 (by omega), Option.bind_some]
    rw [spec_PolygonOk_eq _ (by omega) _ (by omega)]
    simp only [Option.bind_some, impl_PolygonOk_some, bne_self_eq_false]
    rw [if_neg (by simp), eqPointS_eq _ _ (by omega) _ (by omega)]
    simp
  · rw [sz_large l hl h, Option.bind_some, if_pos (by omega)]
end Go.Proofs.Ytlceoghkhgihdaa.Pure
