/- Inside of a polygon: both functions answer alike. The bounds stand in each theorem. -/
import Derived.Test.YtlceoghkhgihdaaPhK
import Derived.Test.YtlceoghkhgihdaaF42
import Derived.Test.YtlceoghkhgihdaaF43
namespace Go.Proofs.Ytlceoghkhgihdaa.G
open Go.RowKit Go.Proofs.YtlceoghkhgihdaaW.PrintWords Go.Proofs.YtlceoghkhgihdaaW.PrintLast Go.Proofs.YtlceoghkhgihdaaW.PrintMore
set_option linter.unusedSimpArgs false
set_option linter.unusedVariables false
theorem both_IsInside (l : List Pt) (hl : l.length ≤ 1048576) (a0 a1 : Int) (k : Nat) (hk : 1048576 < k) : ∃ r, spec_IsInside.f k l a0 a1 = some r ∧ impl_IsInside.f k l a0 a1 = some r := by
  unfold spec_IsInside.f impl_IsInside.f
  rw [spec_PolygonOk_eq _ (by omega) _ (by omega), impl_PolygonOk_some, spec_PointOk_eq, impl_PointOk_eq]
  simp only [Option.bind_some]
  by_cases hp : impl_PolygonOk.ok l = true
  · rw [if_pos hp, if_pos hp]
    replace hp := (impl_ok_iff _).1 hp
    by_cases h1 : ok a0 a1 = true
    · rw [if_pos h1, if_pos h1]
      have e1 := spec_inside_eq hp (x := ⟨a0, a1⟩) (sm_ok h1) k (by omega)
      have e2 := impl_isIn_eq hp (x := ⟨a0, a1⟩) (sm_ok h1) k (by omega)
      simp only [] at e1 e2
      rw [e1, e2]
      exact ⟨_, rfl, rfl⟩
    · rw [if_neg h1, if_neg h1]; exact ⟨_, rfl, rfl⟩
  · rw [if_neg hp, if_neg hp]; exact ⟨_, rfl, rfl⟩
end Go.Proofs.Ytlceoghkhgihdaa.G
