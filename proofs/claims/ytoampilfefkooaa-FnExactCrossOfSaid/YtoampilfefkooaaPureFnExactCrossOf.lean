/- The law FnExactCrossOf: both functions come to the same number. No conditions. -/
import Derived.Test.YtoampilfefkooaaUFnExactCrossOf
import Derived.Test.YtoampilfefkooaaPa
namespace Go.Proofs.Ytoampilfefkooaa.Pure
open Go.RowKit Go.Proofs.Ytoampilfefkooaa.G Go.Proofs.YtoampilfefkooaaW.PrintWords Go.Proofs.YtoampilfefkooaaW.PrintLast Go.Proofs.YtoampilfefkooaaW.PrintMore
set_option linter.unusedSimpArgs false
set_option linter.unusedVariables false
theorem FnExactCrossOf : laws_FnExactCrossOf.Pure := by
  intro a0 a1 b0 b1 c0 c1 _ _ _ _ _ _
  refine ⟨4, ?_⟩
  unfold laws_FnExactCrossOf.f spec_CrossOf.f impl_CrossOf.f impl_cross.f spec_l02Cross.f
  simp only [laws_toPoint.f, Option.bind_some, spec_PointOk_eq]
  rw [impl_arePoints_eq _ (by simp) 4 (by simp)]
  by_cases h : ok a0 a1 = true <;> by_cases h2 : ok b0 b1 = true <;> by_cases h3 : ok c0 c1 = true <;> simp [okp, h, h2, h3]
end Go.Proofs.Ytoampilfefkooaa.Pure
