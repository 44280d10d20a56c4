/- The law FnExactSquareOf: both functions come to the same number. No conditions. -/
import Derived.Test.YtoampilfefkooaaUFnExactSquareOf
import Derived.Test.YtoampilfefkooaaPa
namespace Go.Proofs.Ytoampilfefkooaa.Pure
open Go.RowKit Go.Proofs.Ytoampilfefkooaa.G Go.Proofs.YtoampilfefkooaaW.PrintWords Go.Proofs.YtoampilfefkooaaW.PrintLast Go.Proofs.YtoampilfefkooaaW.PrintMore
set_option linter.unusedSimpArgs false
set_option linter.unusedVariables false
theorem FnExactSquareOf : laws_FnExactSquareOf.Pure := by
  intro a0 a1 b0 b1 _ _ _ _
  refine ⟨3, ?_⟩
  unfold laws_FnExactSquareOf.f spec_SquareOf.f impl_SquareOf.f impl_square.f
  simp only [laws_toPoint.f, Option.bind_some, spec_PointOk_eq]
  rw [impl_arePoints_eq _ (by simp) 3 (by simp)]
  by_cases h : ok a0 a1 = true <;> by_cases h2 : ok b0 b1 = true <;> simp [okp, h, h2]
end Go.Proofs.Ytoampilfefkooaa.Pure
