/- The law of PointOk holds: both functions ask the same four bounds. No conditions. -/
import Derived.Test.YtoampilfefkooaaUFnExactPointOk
import Derived.Test.YtoampilfefkooaaPa
namespace Go.Proofs.Ytoampilfefkooaa.Pure
open Go.RowKit Go.Proofs.Ytoampilfefkooaa.G Go.Proofs.YtoampilfefkooaaW.PrintWords Go.Proofs.YtoampilfefkooaaW.PrintLast
set_option linter.unusedSimpArgs false
set_option linter.unusedVariables false
theorem FnExactPointOk : laws_FnExactPointOk.Pure := by
  intro x y hx hy
  unfold laws_FnExactPointOk.f
  simp [laws_toPoint.f, spec_PointOk_eq, impl_PointOk_eq]
end Go.Proofs.Ytoampilfefkooaa.Pure
