/- Ears: both functions answer alike. The bounds stand in each theorem. -/
import Derived.Test.YtphcblbkofiidaaPqK
import Derived.Test.YtphcblbkofiidaaF42
import Derived.Test.YtphcblbkofiidaaF43
namespace Go.Proofs.Ytphcblbkofiidaa.G
open Go.RowKit Go.Proofs.YtphcblbkofiidaaW.PrintWords Go.Proofs.YtphcblbkofiidaaW.PrintLast Go.Proofs.YtphcblbkofiidaaW.PrintMore
set_option linter.unusedSimpArgs false
set_option linter.unusedVariables false
theorem both_IsEar (l : List Pt) (hl : l.length ≤ 1048576) (a : Int) (k : Nat) (hk : 1048576 < k) : ∃ r, spec_IsEar.f k l a = some r ∧ impl_IsEar.f k l a = some r := by
  unfold spec_IsEar.f impl_IsEar.f
  rw [spec_PolygonOk_eq _ (by omega) _ (by omega), impl_PolygonOk_some]
  simp only [Option.bind_some]
  by_cases hp : impl_PolygonOk.ok l = true
  · rw [if_pos hp, if_pos hp]
    replace hp := (impl_ok_iff _).1 hp
    have h10 := hp.n10
    rw [spec_in_eq (by omega), Option.bind_some]
    by_cases ha : 0 ≤ a ∧ a < l.length
    · rw [if_pos (decide_eq_true ha)]
      obtain ⟨x, rfl⟩ : ∃ x : Nat, a = (x : Int) := ⟨a.toNat, by omega⟩
      obtain ⟨r, e1, e2, _⟩ := ear_both hp (i := x) (by omega) k k (by omega) (by omega)
      rw [e1, e2]
      exact ⟨r, rfl, rfl⟩
    · rw [if_neg (by simpa using ha)]
      refine ⟨false, rfl, ?_⟩
      unfold impl_isEar.f impl_within.f
      rw [wrap64_id (by omega) (by omega)]
      by_cases h0 : 0 ≤ a
      · rw [if_pos (by omega), decide_eq_false (by omega)]; simp
      · rw [if_neg (by omega)]; simp
  · rw [if_neg hp, if_neg hp]; exact ⟨_, rfl, rfl⟩
end Go.Proofs.Ytphcblbkofiidaa.G
