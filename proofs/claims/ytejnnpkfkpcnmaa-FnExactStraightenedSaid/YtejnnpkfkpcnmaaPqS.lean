/- Straightened: both functions answer alike. The bounds stand in each theorem. -/
import Derived.Test.YtejnnpkfkpcnmaaPhS
import Derived.Test.YtejnnpkfkpcnmaaF22
import Derived.Test.YtejnnpkfkpcnmaaF23
namespace Go.Proofs.Ytejnnpkfkpcnmaa.G
open Go.RowKit Go.Proofs.YtejnnpkfkpcnmaaW.PrintWords Go.Proofs.YtejnnpkfkpcnmaaW.PrintLast Go.Proofs.YtejnnpkfkpcnmaaW.PrintMore
set_option linter.unusedSimpArgs false
set_option linter.unusedVariables false
theorem all_Straightened (l : List Pt) (hl : l.length ≤ 1048576) : ∃ r, r.length ≤ 2000 ∧ ∀ k, 10000 < k → spec_Straightened.f k l = some r ∧ impl_Straightened.f k l = some r := by
  by_cases hp : impl_PolygonOk.ok l = true
  · have hP := (impl_ok_iff _).1 hp
    have h3 := hP.n3
    have h10 := hP.n10
    have hb := bent_len l l.length
    refine ⟨bent l l.length, by omega, fun k hk => ?_⟩
    unfold spec_Straightened.f impl_Straightened.f
    rw [spec_PolygonOk_eq _ (by omega) _ (by omega), impl_PolygonOk_some]
    simp only [Option.bind_some]
    rw [if_pos hp, if_pos hp, spec_straight_eq hP k (by omega), impl_straight_eq hP k (by omega)]
    exact ⟨rfl, rfl⟩
  · refine ⟨[], by simp, fun k hk => ?_⟩
    unfold spec_Straightened.f impl_Straightened.f
    rw [spec_PolygonOk_eq _ (by omega) _ (by omega), impl_PolygonOk_some]
    simp only [Option.bind_some]
    rw [if_neg hp, if_neg hp]
    exact ⟨rfl, rfl⟩
end Go.Proofs.Ytejnnpkfkpcnmaa.G
