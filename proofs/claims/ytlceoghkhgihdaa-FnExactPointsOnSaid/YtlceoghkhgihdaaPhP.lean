/- The points of a segment: both functions answer alike. The bounds stand in each theorem. -/
import Derived.Test.YtlceoghkhgihdaaFA
import Derived.Test.YtlceoghkhgihdaaPc
import Derived.Test.YtlceoghkhgihdaaF15
import Derived.Test.YtlceoghkhgihdaaF17
namespace Go.Proofs.Ytlceoghkhgihdaa.G
open Go.RowKit Go.Proofs.YtlceoghkhgihdaaW.PrintWords Go.Proofs.YtlceoghkhgihdaaW.PrintLast Go.Proofs.YtlceoghkhgihdaaW.PrintMore
set_option linter.unusedSimpArgs false
set_option linter.unusedVariables false
theorem gcd_flip' (a b c d : Int) : Int.gcd (a - b) (c - d) = Int.gcd (b - a) (d - c) := by
  rw [← Int.neg_sub b a, ← Int.neg_sub d c]; simp
theorem gcd_le (a b : Int) : Int.gcd a b ≤ a.natAbs + b.natAbs := by
  unfold Int.gcd
  by_cases h : a.natAbs = 0
  · rw [h, Nat.gcd_zero_left]; omega
  · have := Nat.gcd_le_left b.natAbs (show 0 < a.natAbs by omega)
    omega
theorem points_l0 (a0 a1 b0 b1 g : Int) (hg : g ≤ 1000) (d : Nat) : ∀ (k : Nat) (i : Int) (xs : List Pt), 1 ≤ i → g + 1 - i ≤ d → i ≤ 1001 → (xs.length : Int) = i → d < k →
    ∃ r, spec_PointsOn.l0 k g xs i a0 a1 b0 b1 = some r ∧ impl_PointsOn.l0 k g xs i a0 a1 b0 b1 = some r ∧ r.length ≤ 2000 := by
  induction d with
  | zero =>
    intro k i xs h1 h2 h3 h4 hk
    obtain ⟨k, rfl⟩ : ∃ m, k = m + 1 := ⟨k - 1, by omega⟩
    simp only [spec_PointsOn.l0, impl_PointsOn.l0]
    rw [if_neg (by omega), if_neg (by omega)]
    exact ⟨_, rfl, rfl, by omega⟩
  | succ d ih =>
    intro k i xs h1 h2 h3 h4 hk
    obtain ⟨k, rfl⟩ : ∃ m, k = m + 1 := ⟨k - 1, by omega⟩
    simp only [spec_PointsOn.l0, impl_PointsOn.l0]
    by_cases hi : i ≤ g
    · rw [if_pos hi, if_pos hi, if_neg (by omega), if_pos (by omega), if_neg (by omega), if_pos (by omega), wrap64_id (x := i + 1) (by omega) (by omega)]
      exact ih k (i + 1) _ (by omega) (by omega) (by omega) (by simp; omega) (by omega)
    · rw [if_neg hi, if_neg hi]
      exact ⟨_, rfl, rfl, by omega⟩
theorem both_PointsOn (a0 a1 b0 b1 : Int) (k : Nat) (hk : 10000 < k) : ∃ r, spec_PointsOn.f k a0 a1 b0 b1 = some r ∧ impl_PointsOn.f k a0 a1 b0 b1 = some r ∧ r.length ≤ 2000 := by
  obtain ⟨k, rfl⟩ : ∃ m, k = m + 1 := ⟨k - 1, by omega⟩
  have j1 : ∀ k, spec_PointsOn.j0 (k + 1) true a0 a1 b0 b1 = some [] := fun k => by simp [spec_PointsOn.j0]
  unfold spec_PointsOn.f impl_PointsOn.f impl_StepsOf.f
  rw [impl_arePoints_eq _ (by simp) _ (by simp; omega)]
  simp only [Option.bind_some, spec_PointOk_eq, j1]
  by_cases h : ok a0 a1 = true
  · by_cases h2 : ok b0 b1 = true
    · simp only [h, h2, okp, List.all_cons, List.all_nil, Bool.and_true, if_true, Option.bind_some, Bool.not_true]
      rw [ok_iff] at h h2
      have e1 : wrap64 (b0 - a0) = b0 - a0 := wrap64_id (by omega) (by omega)
      have e2 : wrap64 (b1 - a1) = b1 - a1 := wrap64_id (by omega) (by omega)
      have e3 : wrap64 (a0 - b0) = a0 - b0 := wrap64_id (by omega) (by omega)
      have e4 : wrap64 (a1 - b1) = a1 - b1 := wrap64_id (by omega) (by omega)
      simp only [spec_PointsOn.j0, spec_l02Steps.f]
      rw [if_neg (by simp), e1, e2, e3, e4, spec_gcd_eq (by unfold sm; omega) (by unfold sm; omega) k (by omega), common_eq (by unfold sm; omega) (by unfold sm; omega) (k + 1) (by omega), gcd_flip' a0 b0 a1 b1]
      simp only [Option.bind_some]
      have hb := gcd_le (b0 - a0) (b1 - a1)
      rw [if_neg (by omega)]
      obtain ⟨r, r1, r2, r3⟩ := points_l0 a0 a1 b0 b1 (Int.gcd (b0 - a0) (b1 - a1) : Int) (by omega) 1000 k 1 [⟨a0, a1⟩] (by omega) (by omega) (by omega) (by simp) (by omega)
      obtain ⟨q, q1, q2, q3⟩ := points_l0 a0 a1 b0 b1 (Int.gcd (b0 - a0) (b1 - a1) : Int) (by omega) 1000 (k + 1) 1 [⟨a0, a1⟩] (by omega) (by omega) (by omega) (by simp) (by omega)
      have m := spec_PointsOn.mono_l k
      have := m.2 _ _ _ _ _ _ _ _ r1
      rw [q1] at this
      obtain rfl := Option.some.inj this
      exact ⟨q, r1, q2, q3⟩
    · simp [h, h2, okp, j1]
  · simp [h, okp, j1]
end Go.Proofs.Ytlceoghkhgihdaa.G
