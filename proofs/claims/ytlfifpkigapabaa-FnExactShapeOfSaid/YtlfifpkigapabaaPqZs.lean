/- ShapeOf: both functions answer alike. The bounds stand in each theorem. -/
import Derived.Test.YtlfifpkigapabaaPqZ
import Derived.Test.YtlfifpkigapabaaF19
import Derived.Test.YtlfifpkigapabaaF20
namespace Go.Proofs.Ytlfifpkigapabaa.G
open Go.RowKit Go.Proofs.YtlfifpkigapabaaW.PrintWords Go.Proofs.YtlfifpkigapabaaW.PrintLast Go.Proofs.YtlfifpkigapabaaW.PrintMore
theorem all_ShapeOf (l : List Pt) (hl : l.length ≤ 1048576) : ∃ r : List Pt, r.length ≤ 2000 ∧ ∀ k, 40000 < k → spec_ShapeOf.f k l = some r ∧ impl_ShapeOf.f k l = some r := by
  by_cases hp : impl_PolygonOk.ok l = true
  · obtain ⟨r, hr, hk⟩ := both_shape ((impl_ok_iff _).1 hp)
    refine ⟨r, by omega, fun k hk' => ?_⟩
    unfold spec_ShapeOf.f impl_ShapeOf.f
    rw [spec_PolygonOk_eq _ (by omega) _ (by omega), impl_PolygonOk_some]
    simp only [Option.bind_some]
    rw [if_pos hp, if_pos hp, (hk k hk').1, (hk k hk').2]
    exact ⟨rfl, rfl⟩
  · refine ⟨[], by simp, fun k hk => ?_⟩
    unfold spec_ShapeOf.f impl_ShapeOf.f
    rw [spec_PolygonOk_eq _ (by omega) _ (by omega), impl_PolygonOk_some]
    simp only [Option.bind_some]
    rw [if_neg hp, if_neg hp]
    exact ⟨rfl, rfl⟩
end Go.Proofs.Ytlfifpkigapabaa.G
