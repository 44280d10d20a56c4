/- The law FnExactComposeMotions: both functions answer alike. No conditions. -/
import Derived.Test.YtlfifpkigapabaaUFnExactComposeMotions
namespace Go.Proofs.Ytlfifpkigapabaa.Pure
open Go.RowKit Go.Proofs.Ytlfifpkigapabaa.G Go.Proofs.YtlfifpkigapabaaW.PrintWords Go.Proofs.YtlfifpkigapabaaW.PrintLast Go.Proofs.YtlfifpkigapabaaW.PrintMore
theorem compose_in : ∀ a b : Fin 8, laws_FnExactComposeMotions.f 40 (a.val : Int) (b.val : Int) = some true := by decide +kernel
theorem within_in (x : Int) : impl_within.f x 0 7 = some (decide (0 ≤ x ∧ x ≤ 7)) := by
  unfold impl_within.f
  by_cases h : x ≥ 0
  · rw [if_pos h]; congr 1; by_cases h2 : x ≤ 7 <;> simp [h2] <;> omega
  · rw [if_neg h]; congr 1; rw [eq_comm, decide_eq_false_iff_not]; omega
theorem in_in (x : Int) : spec_l01In.f x 0 7 = some (decide (0 ≤ x ∧ x ≤ 7)) := by
  unfold spec_l01In.f
  by_cases h : x ≥ 0
  · rw [if_pos h]; congr 1; by_cases h2 : x ≤ 7 <;> simp [h2] <;> omega
  · rw [if_neg h]; congr 1; rw [eq_comm, decide_eq_false_iff_not]; omega
theorem spec_compose_out (k : Nat) (a b : Int) (h : ¬ ((0 ≤ a ∧ a ≤ 7) ∧ (0 ≤ b ∧ b ≤ 7))) : spec_ComposeMotions.f (k + 1) a b = some (-1) := by
  unfold spec_ComposeMotions.f
  rw [in_in, in_in, Option.bind_some, Option.bind_some]
  by_cases ha : 0 ≤ a ∧ a ≤ 7
  · have hb : ¬ (0 ≤ b ∧ b ≤ 7) := fun hb => h ⟨ha, hb⟩
    rw [if_pos (by simpa using ha), decide_eq_false hb]
    simp [spec_ComposeMotions.j0]
  · rw [if_neg (by simpa using ha)]
    simp [spec_ComposeMotions.j0]
theorem impl_compose_out (k : Nat) (a b : Int) (h : ¬ ((0 ≤ a ∧ a ≤ 7) ∧ (0 ≤ b ∧ b ≤ 7))) : impl_ComposeMotions.f (k + 1) a b = some (-1) := by
  unfold impl_ComposeMotions.f impl_isMotion.f
  rw [within_in, within_in, Option.bind_some, Option.bind_some, Option.bind_some, Option.bind_some]
  by_cases ha : 0 ≤ a ∧ a ≤ 7
  · have hb : ¬ (0 ≤ b ∧ b ≤ 7) := fun hb => h ⟨ha, hb⟩
    rw [if_pos (by simpa using ha), decide_eq_false hb]
    simp [impl_ComposeMotions.j0]
  · rw [if_neg (by simpa using ha)]
    simp [impl_ComposeMotions.j0]
theorem FnExactComposeMotions : laws_FnExactComposeMotions.Pure := by
  intro a b _ _
  refine ⟨40, ?_⟩
  by_cases h : (0 ≤ a ∧ a ≤ 7) ∧ (0 ≤ b ∧ b ≤ 7)
  · have := compose_in ⟨a.toNat, by omega⟩ ⟨b.toNat, by omega⟩
    simp only [Int.toNat_of_nonneg h.1.1, Int.toNat_of_nonneg h.2.1] at this
    exact this
  · unfold laws_FnExactComposeMotions.f
    rw [spec_compose_out 39 a b h, impl_compose_out 39 a b h]
    simp
end Go.Proofs.Ytlfifpkigapabaa.Pure
