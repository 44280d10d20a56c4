/- The law FnExactHowMeet: both functions answer alike. No conditions. -/
import Derived.Test.YtlceoghkhgihdaaUFnExactHowMeet
import Derived.Test.YtlceoghkhgihdaaPe
namespace Go.Proofs.Ytlceoghkhgihdaa.Pure
open Go.RowKit Go.Proofs.Ytlceoghkhgihdaa.G Go.Proofs.YtlceoghkhgihdaaW.PrintWords Go.Proofs.YtlceoghkhgihdaaW.PrintLast Go.Proofs.YtlceoghkhgihdaaW.PrintMore
set_option linter.unusedSimpArgs false
set_option linter.unusedVariables false
theorem FnExactHowMeet : laws_FnExactHowMeet.Pure := by
  intro a0 a1 b0 b1 c0 c1 d0 d1 _ _ _ _ _ _ _ _
  refine ⟨5, ?_⟩
  unfold laws_FnExactHowMeet.f spec_HowMeet.f impl_HowMeet.f
  simp only [laws_toPoint.f, Option.bind_some, spec_PointOk_eq]
  rw [impl_arePoints_eq _ (by simp) 5 (by simp)]
  by_cases h : ok a0 a1 = true <;> by_cases h2 : ok b0 b1 = true <;> by_cases h3 : ok c0 c1 = true <;> by_cases h4 : ok d0 d1 = true <;> simp only [okp, h, h2, h3, h4, List.all_cons, List.all_nil, Bool.and_true, Bool.and_false, Bool.false_and, Bool.true_and, if_true, Option.bind_some, Bool.false_eq_true, if_false] <;> try rfl
  have e1 := spec_l02Meet_eq (a := ⟨a0, a1⟩) (b := ⟨b0, b1⟩) (c := ⟨c0, c1⟩) (d := ⟨d0, d1⟩) (sm_ok h) (sm_ok h2) (sm_ok h3) (sm_ok h4)
  have e2 := impl_meet_eq (a := ⟨a0, a1⟩) (b := ⟨b0, b1⟩) (c := ⟨c0, c1⟩) (d := ⟨d0, d1⟩) (sm_ok h) (sm_ok h2) (sm_ok h3) (sm_ok h4)
  simp only [] at e1 e2
  rw [e1, e2]
  split <;> simp
  split <;> simp
end Go.Proofs.Ytlceoghkhgihdaa.Pure
