/- The number of sides: both functions answer alike. The bounds stand in each theorem. -/
import Derived.Test.YtlceoghkhgihdaaPhS
import Derived.Test.YtlceoghkhgihdaaF38
import Derived.Test.YtlceoghkhgihdaaF39
namespace Go.Proofs.Ytlceoghkhgihdaa.G
open Go.RowKit Go.Proofs.YtlceoghkhgihdaaW.PrintWords Go.Proofs.YtlceoghkhgihdaaW.PrintLast Go.Proofs.YtlceoghkhgihdaaW.PrintMore
set_option linter.unusedSimpArgs false
set_option linter.unusedVariables false
theorem both_SideCount (l : List Pt) (hl : l.length ≤ 1048576) (k : Nat) (hk : 1048576 < k) : ∃ r, spec_SideCount.f k l = some r ∧ impl_SideCount.f k l = some r := by
  unfold spec_SideCount.f impl_SideCount.f
  rw [spec_PolygonOk_eq _ (by omega) _ (by omega), impl_PolygonOk_some]
  simp only [Option.bind_some]
  by_cases hp : impl_PolygonOk.ok l = true
  · rw [if_pos hp, if_pos hp]
    replace hp := (impl_ok_iff _).1 hp
    rw [spec_straight_eq hp k (by omega), impl_straight_eq hp k (by omega)]
    exact ⟨_, rfl, rfl⟩
  · rw [if_neg hp, if_neg hp]; exact ⟨_, rfl, rfl⟩
end Go.Proofs.Ytlceoghkhgihdaa.G
