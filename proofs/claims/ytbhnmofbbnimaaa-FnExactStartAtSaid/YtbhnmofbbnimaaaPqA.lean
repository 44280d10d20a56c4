/- StartAt: both hand back the corners from one on. The bounds stand in each theorem. -/
import Derived.Test.YtbhnmofbbnimaaaPca
import Derived.Test.YtbhnmofbbnimaaaPA
import Derived.Test.YtbhnmofbbnimaaaF24
import Derived.Test.YtbhnmofbbnimaaaF25
namespace Go.Proofs.Ytbhnmofbbnimaaa.G
open Go.RowKit Go.Proofs.YtbhnmofbbnimaaaW.PrintWords Go.Proofs.YtbhnmofbbnimaaaW.PrintLast Go.Proofs.YtbhnmofbbnimaaaW.PrintMore
set_option linter.unusedSimpArgs false
set_option linter.unusedVariables false
theorem spec_start_eq {l : List Pt} (hl : l.length ≤ 1000) {a : Int} (h0 : 0 ≤ a) (h1 : a ≤ l.length) : spec_l03Start.f l a = some (rotL l a.toNat) := by
  unfold spec_l03Start.f
  simp only [Option.bind_some, List.nil_append]
  rw [if_pos h0, if_pos h1, if_pos (by simp; omega), if_pos (by simp; omega)]
  rfl
theorem in_0 (a n : Int) : spec_l01In.f a 0 n = some (decide (0 ≤ a) && decide (a ≤ n)) ∧ impl_within.f a 0 n = some (decide (0 ≤ a) && decide (a ≤ n)) := by
  unfold spec_l01In.f impl_within.f
  by_cases h : a ≥ 0
  · have h' : 0 ≤ a := h
    by_cases g : a ≤ n <;> simp [h, h', g]
  · have h' : ¬ 0 ≤ a := h
    simp [h, h']
theorem all_StartAt (l : List Pt) (hl : l.length ≤ 1048576) (a : Int) : ∃ r : List Pt, r.length ≤ 2000 ∧ ∀ k, 10000 < k → spec_StartAt.f k l a = some r ∧ impl_StartAt.f k l a = some r := by
  by_cases hp : impl_PolygonOk.ok l = true
  · have hq := (impl_ok_iff _).1 hp
    have h3 := hq.n3
    have h10 := hq.n10
    have w : wrap64 ((l.length : Int) - 1) = (l.length : Int) - 1 := wrap64_id (by omega) (by omega)
    by_cases hi : (decide (0 ≤ a) && decide (a ≤ (l.length : Int) - 1)) = true
    · have hi' : 0 ≤ a ∧ a ≤ (l.length : Int) - 1 := by simpa using hi
      refine ⟨rotL l a.toNat, by rw [rotL_length]; omega, fun k hk => ⟨?_, ?_⟩⟩
      · unfold spec_StartAt.f
        rw [spec_PolygonOk_eq _ (by omega) _ (by omega), Option.bind_some, if_pos hp, w, (in_0 a _).1, Option.bind_some, if_pos hi, spec_start_eq (by omega) hi'.1 (by omega)]; rfl
      · unfold impl_StartAt.f
        rw [impl_PolygonOk_some, Option.bind_some, if_pos hp, w, (in_0 a _).2, Option.bind_some, if_pos hi, if_pos hi'.1, if_pos (by omega), impl_rot l (by omega) k (by omega)]; rfl
    · refine ⟨[], by simp, fun k hk => ⟨?_, ?_⟩⟩
      · unfold spec_StartAt.f
        rw [spec_PolygonOk_eq _ (by omega) _ (by omega), Option.bind_some, if_pos hp, w, (in_0 a _).1, Option.bind_some, if_neg hi]
      · unfold impl_StartAt.f
        rw [impl_PolygonOk_some, Option.bind_some, if_pos hp, w, (in_0 a _).2, Option.bind_some, if_neg hi]
  · refine ⟨[], by simp, fun k hk => ⟨?_, ?_⟩⟩
    · unfold spec_StartAt.f
      rw [spec_PolygonOk_eq _ (by omega) _ (by omega), Option.bind_some, if_neg hp]
    · unfold impl_StartAt.f
      rw [impl_PolygonOk_some, Option.bind_some, if_neg hp]
end Go.Proofs.Ytbhnmofbbnimaaa.G
