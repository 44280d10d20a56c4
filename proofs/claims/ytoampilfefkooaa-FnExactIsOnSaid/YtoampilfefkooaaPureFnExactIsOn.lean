/- The law FnExactIsOn: both functions answer alike. No conditions. -/
import Derived.Test.YtoampilfefkooaaUFnExactIsOn
import Derived.Test.YtoampilfefkooaaPb
namespace Go.Proofs.Ytoampilfefkooaa.Pure
open Go.RowKit Go.Proofs.Ytoampilfefkooaa.G Go.Proofs.YtoampilfefkooaaW.PrintWords Go.Proofs.YtoampilfefkooaaW.PrintLast Go.Proofs.YtoampilfefkooaaW.PrintMore
set_option linter.unusedSimpArgs false
set_option linter.unusedVariables false
theorem FnExactIsOn : laws_FnExactIsOn.Pure := by
  intro a0 a1 b0 b1 c0 c1 _ _ _ _ _ _
  refine ⟨4, ?_⟩
  unfold laws_FnExactIsOn.f spec_IsOn.f impl_IsOn.f
  simp only [laws_toPoint.f, Option.bind_some, spec_PointOk_eq]
  rw [impl_arePoints_eq _ (by simp) 4 (by simp)]
  by_cases h : ok a0 a1 = true <;> by_cases h2 : ok b0 b1 = true <;> by_cases h3 : ok c0 c1 = true <;> simp only [okp, h, h2, h3, List.all_cons, List.all_nil, Bool.and_true, Bool.and_false, Bool.false_and, Bool.true_and, if_true, Option.bind_some, Bool.false_eq_true, if_false] <;> try rfl
  rw [spec_on_eq (sm_ok h).1 (sm_ok h).2 (sm_ok h2).1 (sm_ok h2).2 (sm_ok h3).1 (sm_ok h3).2, impl_on_eq (sm_ok h).1 (sm_ok h).2 (sm_ok h2).1 (sm_ok h2).2 (sm_ok h3).1 (sm_ok h3).2]
  simp
end Go.Proofs.Ytoampilfefkooaa.Pure
