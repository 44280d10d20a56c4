/- Diagonals: both functions answer alike. The bounds stand in each theorem. -/
import Derived.Test.YtphcblbkofiidaaPqG
import Derived.Test.YtphcblbkofiidaaF38
import Derived.Test.YtphcblbkofiidaaF40
namespace Go.Proofs.Ytphcblbkofiidaa.G
open Go.RowKit Go.Proofs.YtphcblbkofiidaaW.PrintWords Go.Proofs.YtphcblbkofiidaaW.PrintLast Go.Proofs.YtphcblbkofiidaaW.PrintMore
set_option linter.unusedSimpArgs false
set_option linter.unusedVariables false
theorem spec_in_eq {l : List Pt} (hn : l.length ≤ 1000000) (x : Int) : spec_l01In.f x 0 (wrap64 ((l.length : Int) - 1)) = some (decide (0 ≤ x ∧ x < l.length)) := by
  rw [wrap64_id (by omega) (by omega)]
  unfold spec_l01In.f
  by_cases x0 : 0 ≤ x
  · by_cases x1 : x < l.length
    · rw [if_pos (by omega), decide_eq_true (by omega), decide_eq_true (by omega)]
    · rw [if_pos (by omega), decide_eq_false (by omega), decide_eq_false (by omega)]
  · rw [if_neg (by omega), decide_eq_false (by omega)]
theorem both_IsDiagonal (l : List Pt) (hl : l.length ≤ 1048576) (a b : Int) (k : Nat) (hk : 1048576 < k) : ∃ r, spec_IsDiagonal.f k l a b = some r ∧ impl_IsDiagonal.f k l a b = some r := by
  unfold spec_IsDiagonal.f impl_IsDiagonal.f
  rw [spec_PolygonOk_eq _ (by omega) _ (by omega), impl_PolygonOk_some]
  simp only [Option.bind_some]
  by_cases hp : impl_PolygonOk.ok l = true
  · rw [if_pos hp, if_pos hp]
    replace hp := (impl_ok_iff _).1 hp
    have h10 := hp.n10
    rw [spec_in_eq (by omega), spec_in_eq (by omega), Option.bind_some, Option.bind_some]
    obtain ⟨r, hr, hr'⟩ := impl_diag_eq hp a b k (by omega)
    rw [hr, Option.bind_some]
    by_cases ha : 0 ≤ a ∧ a < l.length
    · rw [if_pos (decide_eq_true ha)]
      by_cases hb : 0 ≤ b ∧ b < l.length
      · rw [if_pos (decide_eq_true hb)]
        obtain ⟨q, hq, hq'⟩ := spec_diag_eq hp (a := a.toNat) (b := b.toNat) (by omega) (by omega) k (by omega)
        rw [Int.toNat_of_nonneg ha.1, Int.toNat_of_nonneg hb.1] at hq
        rw [hq, Option.bind_some]
        have : q = r := by
          rw [Bool.eq_iff_iff, hq', hr']
          exact ⟨fun h => ⟨ha.1, ha.2, hb.1, hb.2, h⟩, fun h => h.2.2.2.2⟩
        exact ⟨r, by rw [this], rfl⟩
      · rw [if_neg (by simpa using hb)]
        have : r = false := by rw [← Bool.not_eq_true, hr']; exact fun h => hb ⟨h.2.2.1, h.2.2.2.1⟩
        exact ⟨false, rfl, by rw [this]⟩
    · rw [if_neg (by simpa using ha)]
      have : r = false := by rw [← Bool.not_eq_true, hr']; exact fun h => ha ⟨h.1, h.2.1⟩
      exact ⟨false, rfl, by rw [this]⟩
  · rw [if_neg hp, if_neg hp]; exact ⟨_, rfl, rfl⟩
end Go.Proofs.Ytphcblbkofiidaa.G
