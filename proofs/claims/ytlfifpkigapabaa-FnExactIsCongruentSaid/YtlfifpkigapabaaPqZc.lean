/- IsCongruent: both functions answer alike. The bounds stand in each theorem. -/
import Derived.Test.YtlfifpkigapabaaPqZ
import Derived.Test.YtlfifpkigapabaaF17
import Derived.Test.YtlfifpkigapabaaF18
namespace Go.Proofs.Ytlfifpkigapabaa.G
open Go.RowKit Go.Proofs.YtlfifpkigapabaaW.PrintWords Go.Proofs.YtlfifpkigapabaaW.PrintLast Go.Proofs.YtlfifpkigapabaaW.PrintMore
theorem all_IsCongruent (l m : List Pt) (hl : l.length ≤ 1048576) (hm : m.length ≤ 1048576) : ∃ r : Bool, ∀ k, 40000 < k → spec_IsCongruent.f k l m = some r ∧ impl_IsCongruent.f k l m = some r := by
  by_cases hp : impl_PolygonOk.ok l = true
  · by_cases hq : impl_PolygonOk.ok m = true
    · obtain ⟨a, ha, hk⟩ := both_shape ((impl_ok_iff _).1 hp)
      obtain ⟨b, hb, hj⟩ := both_shape ((impl_ok_iff _).1 hq)
      refine ⟨decide (a = b), fun k hk' => ?_⟩
      unfold spec_IsCongruent.f impl_IsCongruent.f
      rw [spec_PolygonOk_eq _ (by omega) _ (by omega), spec_PolygonOk_eq _ (by omega) _ (by omega), impl_PolygonOk_some, impl_PolygonOk_some]
      simp only [Option.bind_some]
      rw [if_pos hp, if_pos hp, if_pos hq, if_pos hq, (hk k hk').1, (hk k hk').2, (hj k hk').1, (hj k hk').2]
      simp only [Option.bind_some]
      rw [spec_equal_eq a b (by omega) k (by omega), impl_equal_eq a b (by omega) k (by omega)]
      exact ⟨rfl, rfl⟩
    · refine ⟨false, fun k hk => ?_⟩
      unfold spec_IsCongruent.f impl_IsCongruent.f
      rw [spec_PolygonOk_eq _ (by omega) _ (by omega), spec_PolygonOk_eq _ (by omega) _ (by omega), impl_PolygonOk_some, impl_PolygonOk_some]
      simp only [Option.bind_some]
      rw [if_pos hp, if_pos hp, if_neg hq, if_neg hq]
      exact ⟨rfl, rfl⟩
  · refine ⟨false, fun k hk => ?_⟩
    unfold spec_IsCongruent.f impl_IsCongruent.f
    rw [spec_PolygonOk_eq _ (by omega) _ (by omega), impl_PolygonOk_some]
    simp only [Option.bind_some]
    rw [if_neg hp, if_neg hp]
    exact ⟨rfl, rfl⟩
end Go.Proofs.Ytlfifpkigapabaa.G
