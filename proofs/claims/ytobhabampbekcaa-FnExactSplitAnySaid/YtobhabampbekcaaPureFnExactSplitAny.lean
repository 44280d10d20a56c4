/- The law FnExactSplitAny: both functions answer alike. No conditions. -/
import Derived.Test.YtobhabampbekcaaUFnExactSplitAny
import Derived.Test.YtobhabampbekcaaPqSp
import Derived.Test.YtobhabampbekcaaPst
namespace Go.Proofs.Ytobhabampbekcaa.Pure
open Go.RowKit Go.Proofs.Ytobhabampbekcaa.G Go.Proofs.YtobhabampbekcaaW.PrintWords Go.Proofs.YtobhabampbekcaaW.PrintLast Go.Proofs.YtobhabampbekcaaW.PrintMore
set_option linter.unusedSimpArgs false
set_option linter.unusedVariables false
theorem FnExactSplitAny : laws_FnExactSplitAny.Pure := by
  intro a b _ _
  refine ⟨3000000000000, ?_⟩
  unfold laws_FnExactSplitAny.f
  by_cases h : (a.size : Int) > 1048576
  · rw [if_pos h]
  · rw [if_neg h]
    by_cases h2 : (b.size : Int) > 1048576
    · rw [if_pos h2]
    · rw [if_neg h2]
      obtain ⟨r, hr, hk⟩ := all_SplitAny a b (by omega) (by omega)
      obtain ⟨s1, s2⟩ := hk 3000000000000 (by omega)
      have er := eqS_self r (by omega) 3000000000000 (by omega)
      have mr := markS_eq r (by omega) 3000000000000 (by omega)
      have hd := heldS_eq r.length (by omega) 3000000000000 (by omega)
      have nr : (1 + (r.length : Int) < 0) = False := by rw [eq_iff_iff, iff_false]; omega
      simp only [s1, s2, er, mr, hd, nr, Option.bind_some, if_true, if_false]
end Go.Proofs.Ytobhabampbekcaa.Pure
