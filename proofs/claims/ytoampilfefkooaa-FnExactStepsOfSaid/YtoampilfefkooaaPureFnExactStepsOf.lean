/- The law FnExactStepsOf: both functions come to the greatest common divisor. No conditions. -/
import Derived.Test.YtoampilfefkooaaUFnExactStepsOf
import Derived.Test.YtoampilfefkooaaPc
namespace Go.Proofs.Ytoampilfefkooaa.Pure
open Go.RowKit Go.Proofs.Ytoampilfefkooaa.G Go.Proofs.YtoampilfefkooaaW.PrintWords Go.Proofs.YtoampilfefkooaaW.PrintLast Go.Proofs.YtoampilfefkooaaW.PrintMore
set_option linter.unusedSimpArgs false
set_option linter.unusedVariables false
theorem FnExactStepsOf : laws_FnExactStepsOf.Pure := by
  intro a0 a1 b0 b1 _ _ _ _
  refine ⟨1001, ?_⟩
  unfold laws_FnExactStepsOf.f spec_StepsOf.f impl_StepsOf.f spec_l02Steps.f
  simp only [laws_toPoint.f, Option.bind_some, spec_PointOk_eq]
  rw [impl_arePoints_eq _ (by simp) 1001 (by simp)]
  by_cases h : ok a0 a1 = true <;> by_cases h2 : ok b0 b1 = true <;> simp only [okp, h, h2, List.all_cons, List.all_nil, Bool.and_true, Bool.and_false, Bool.false_and, Bool.true_and, if_true, Option.bind_some, Bool.false_eq_true, if_false] <;> try rfl
  rw [ok_iff] at h h2
  have e1 : wrap64 (b0 - a0) = b0 - a0 := wrap64_id (by omega) (by omega)
  have e2 : wrap64 (b1 - a1) = b1 - a1 := wrap64_id (by omega) (by omega)
  have e3 : wrap64 (a0 - b0) = a0 - b0 := wrap64_id (by omega) (by omega)
  have e4 : wrap64 (a1 - b1) = a1 - b1 := wrap64_id (by omega) (by omega)
  rw [e1, e2, e3, e4, spec_gcd_eq (by unfold sm; omega) (by unfold sm; omega) 1001 (by omega), common_eq (by unfold sm; omega) (by unfold sm; omega) 1001 (by omega)]
  have e5 : Int.gcd (a0 - b0) (a1 - b1) = Int.gcd (b0 - a0) (b1 - a1) := by
    rw [← Int.neg_sub b0 a0, ← Int.neg_sub b1 a1]; simp
  simp [e5]
end Go.Proofs.Ytoampilfefkooaa.Pure
