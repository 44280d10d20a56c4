/- IsTurned: both functions answer alike. The bounds stand in each theorem. -/
import Derived.Test.YtbhnmofbbnimaaaPqP
import Derived.Test.YtbhnmofbbnimaaaPqN
import Derived.Test.YtbhnmofbbnimaaaF34
import Derived.Test.YtbhnmofbbnimaaaF35
namespace Go.Proofs.Ytbhnmofbbnimaaa.G
open Go.RowKit Go.Proofs.YtbhnmofbbnimaaaW.PrintWords Go.Proofs.YtbhnmofbbnimaaaW.PrintLast Go.Proofs.YtbhnmofbbnimaaaW.PrintMore
set_option linter.unusedSimpArgs false
set_option linter.unusedVariables false
theorem all_IsTurned (l m : List Pt) (hl : l.length ≤ 1048576) (hm : m.length ≤ 1048576) (a : Int) : ∃ r : Bool, ∀ k, 10000 < k → spec_IsTurned.f k l m a = some r ∧ impl_IsTurned.f k l m a = some r := by
  by_cases hp : impl_PolygonOk.ok l = true
  · by_cases hq : impl_PolygonOk.ok m = true
    · have hP := (impl_ok_iff _).1 hp
      have hQ := (impl_ok_iff _).1 hq
      have h10 := hP.n10
      have g10 := hQ.n10
      have h3 := hP.n3
      have g3 := hQ.n3
      by_cases ha : 0 ≤ a ∧ a ≤ 7
      · obtain ⟨r, hr⟩ := all_SamePolygon (cornerL (mvL a l)) (cornerL (mvL 0 m)) (by rw [cornerL_length, mvL_length]; omega) (by rw [cornerL_length, mvL_length]; omega)
        refine ⟨r, fun k hk => ?_⟩
        unfold spec_IsTurned.f impl_IsTurned.f spec_l01In.f impl_isMotion.f impl_within.f
        rw [spec_PolygonOk_eq _ (by omega) _ (by omega), spec_PolygonOk_eq _ (by omega) _ (by omega), impl_PolygonOk_some, impl_PolygonOk_some]
        simp only [Option.bind_some]
        rw [if_pos hp, if_pos hp, if_pos hq, if_pos hq, spec_move_eq ha.1 ha.2 (by omega) (by omega) k (by omega), impl_movedOn_eq ha.1 ha.2 (by omega) (by omega) k (by omega), spec_move_eq (by omega) (by omega) (by omega) (by omega) k (by omega), impl_movedOn_eq (by omega) (by omega) (by omega) (by omega) k (by omega)]
        simp only [Option.bind_some, (hr k hk).1, (hr k hk).2]
        simp [ha.1, ha.2]
      · refine ⟨false, fun k hk => ?_⟩
        unfold spec_IsTurned.f impl_IsTurned.f spec_l01In.f impl_isMotion.f impl_within.f
        rw [spec_PolygonOk_eq _ (by omega) _ (by omega), spec_PolygonOk_eq _ (by omega) _ (by omega), impl_PolygonOk_some, impl_PolygonOk_some]
        simp only [Option.bind_some]
        rw [if_pos hp, if_pos hp, if_pos hq, if_pos hq]
        by_cases h0 : 0 ≤ a
        · have h7 : ¬ a ≤ 7 := fun h => ha ⟨h0, h⟩
          simp [h0, h7]
        · simp [h0]
    · refine ⟨false, fun k hk => ?_⟩
      unfold spec_IsTurned.f impl_IsTurned.f
      rw [spec_PolygonOk_eq _ (by omega) _ (by omega), spec_PolygonOk_eq _ (by omega) _ (by omega), impl_PolygonOk_some, impl_PolygonOk_some]
      simp only [Option.bind_some]
      rw [if_pos hp, if_pos hp, if_neg hq, if_neg hq]
      exact ⟨rfl, rfl⟩
  · refine ⟨false, fun k hk => ?_⟩
    unfold spec_IsTurned.f impl_IsTurned.f
    rw [spec_PolygonOk_eq _ (by omega) _ (by omega), impl_PolygonOk_some]
    simp only [Option.bind_some]
    rw [if_neg hp, if_neg hp]
    exact ⟨rfl, rfl⟩
end Go.Proofs.Ytbhnmofbbnimaaa.G
