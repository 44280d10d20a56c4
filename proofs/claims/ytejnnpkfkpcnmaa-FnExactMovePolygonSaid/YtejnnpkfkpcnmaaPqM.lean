/- A moved polygon: both functions answer alike. The bounds stand in each theorem. -/
import Derived.Test.YtejnnpkfkpcnmaaPqN
import Derived.Test.YtejnnpkfkpcnmaaF30
import Derived.Test.YtejnnpkfkpcnmaaF31
namespace Go.Proofs.Ytejnnpkfkpcnmaa.G
open Go.RowKit Go.Proofs.YtejnnpkfkpcnmaaW.PrintWords Go.Proofs.YtejnnpkfkpcnmaaW.PrintLast Go.Proofs.YtejnnpkfkpcnmaaW.PrintMore
set_option linter.unusedSimpArgs false
set_option linter.unusedVariables false
theorem all_MovePolygon (l : List Pt) (hl : l.length ≤ 1048576) (m : Int) : ∃ r : List Pt, r.length ≤ 2000 ∧ ∀ k, 10000 < k → spec_MovePolygon.f k l m = some r ∧ impl_MovePolygon.f k l m = some r := by
  by_cases hp : impl_PolygonOk.ok l = true
  · have hP := (impl_ok_iff _).1 hp
    have h3 := hP.n3
    have h10 := hP.n10
    by_cases hm : 0 ≤ m ∧ m ≤ 7
    · refine ⟨cornerL (mvL m l), by rw [cornerL_length, mvL_length]; omega, fun k hk => ?_⟩
      unfold spec_MovePolygon.f impl_MovePolygon.f spec_l01In.f impl_isMotion.f impl_within.f
      rw [spec_PolygonOk_eq _ (by omega) _ (by omega), impl_PolygonOk_some]
      simp only [Option.bind_some]
      rw [if_pos hp, if_pos hp, spec_move_eq hm.1 hm.2 (by omega) (by omega) k (by omega), impl_movedOn_eq hm.1 hm.2 (by omega) (by omega) k (by omega)]
      simp [hm.1, hm.2]
    · refine ⟨[], by simp, fun k hk => ?_⟩
      unfold spec_MovePolygon.f impl_MovePolygon.f spec_l01In.f impl_isMotion.f impl_within.f
      rw [spec_PolygonOk_eq _ (by omega) _ (by omega), impl_PolygonOk_some]
      simp only [Option.bind_some]
      rw [if_pos hp, if_pos hp]
      by_cases h0 : 0 ≤ m
      · have h7 : ¬ m ≤ 7 := fun h => hm ⟨h0, h⟩
        simp [h0, h7]
      · simp [h0]
  · refine ⟨[], by simp, fun k hk => ?_⟩
    unfold spec_MovePolygon.f impl_MovePolygon.f
    rw [spec_PolygonOk_eq _ (by omega) _ (by omega), impl_PolygonOk_some]
    simp only [Option.bind_some]
    rw [if_neg hp, if_neg hp]
    exact ⟨rfl, rfl⟩
end Go.Proofs.Ytejnnpkfkpcnmaa.G
