/- The law FnExactBeforePoint: both functions compare alike. No conditions. -/
import Derived.Test.YtoampilfefkooaaUFnExactBeforePoint
namespace Go.Proofs.Ytoampilfefkooaa.Pure
open Go.RowKit Go.Proofs.Ytoampilfefkooaa.G Go.Proofs.YtoampilfefkooaaW.PrintWords Go.Proofs.YtoampilfefkooaaW.PrintLast Go.Proofs.YtoampilfefkooaaW.PrintMore
set_option linter.unusedSimpArgs false
set_option linter.unusedVariables false
theorem FnExactBeforePoint : laws_FnExactBeforePoint.Pure := by
  intro a0 a1 b0 b1 _ _ _ _
  unfold laws_FnExactBeforePoint.f
  simp only [laws_toPoint.f, Option.bind_some]
  have e : impl_BeforePoint.f a0 a1 b0 b1 = spec_BeforePoint.f a0 a1 b0 b1 := rfl
  rw [e]
  have : ∃ r, spec_BeforePoint.f a0 a1 b0 b1 = some r := by unfold spec_BeforePoint.f; split <;> (try split) <;> exact ⟨_, rfl⟩
  obtain ⟨r, hr⟩ := this
  rw [hr]; simp
end Go.Proofs.Ytoampilfefkooaa.Pure
