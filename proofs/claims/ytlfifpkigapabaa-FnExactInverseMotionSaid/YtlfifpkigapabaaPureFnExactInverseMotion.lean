/- The law FnExactInverseMotion: both functions answer alike. No conditions. -/
import Derived.Test.YtlfifpkigapabaaUFnExactInverseMotion
namespace Go.Proofs.Ytlfifpkigapabaa.Pure
open Go.RowKit Go.Proofs.Ytlfifpkigapabaa.G Go.Proofs.YtlfifpkigapabaaW.PrintWords Go.Proofs.YtlfifpkigapabaaW.PrintLast Go.Proofs.YtlfifpkigapabaaW.PrintMore
theorem inverse_in : ∀ a : Fin 8, laws_FnExactInverseMotion.f 40 (a.val : Int) = some true := by decide +kernel
theorem within_inv (x : Int) : impl_within.f x 0 7 = some (decide (0 ≤ x ∧ x ≤ 7)) := by
  unfold impl_within.f
  by_cases h : x ≥ 0
  · rw [if_pos h]; congr 1; by_cases h2 : x ≤ 7 <;> simp [h2] <;> omega
  · rw [if_neg h]; congr 1; rw [eq_comm, decide_eq_false_iff_not]; omega
theorem in_inv (x : Int) : spec_l01In.f x 0 7 = some (decide (0 ≤ x ∧ x ≤ 7)) := by
  unfold spec_l01In.f
  by_cases h : x ≥ 0
  · rw [if_pos h]; congr 1; by_cases h2 : x ≤ 7 <;> simp [h2] <;> omega
  · rw [if_neg h]; congr 1; rw [eq_comm, decide_eq_false_iff_not]; omega
theorem spec_comp_out (k : Nat) (a b : Int) (h : ¬ (0 ≤ a ∧ a ≤ 7)) : spec_ComposeMotions.f (k + 1) a b = some (-1) := by
  unfold spec_ComposeMotions.f
  rw [in_inv, Option.bind_some, if_neg (by simpa using h)]
  simp [spec_ComposeMotions.j0]
theorem spec_inv_loop (a : Int) (h : ¬ (0 ≤ a ∧ a ≤ 7)) : ∀ (n : Nat) (x : Int) (k : Nat), 0 ≤ x → x + n = 8 → spec_InverseMotion.l0 (k + 2 + n) a x = some (-1)
  | 0, x, k, h0, hn => by rw [show k + 2 + 0 = (k + 1) + 1 by omega, spec_InverseMotion.l0, if_neg (by omega)]
  | n + 1, x, k, h0, hn => by
    rw [show k + 2 + (n + 1) = (k + 2 + n) + 1 by omega, spec_InverseMotion.l0, if_pos (by omega), show k + 2 + n = (k + 1 + n) + 1 by omega, spec_comp_out _ a x h, Option.bind_some, if_neg (by decide), show wrap64 (x + 1) = x + 1 by unfold wrap64; omega]
    have := spec_inv_loop a h n (x + 1) k (by omega) (by omega)
    rwa [show k + 1 + n + 1 = k + 2 + n by omega]
theorem FnExactInverseMotion : laws_FnExactInverseMotion.Pure := by
  intro a _
  refine ⟨40, ?_⟩
  by_cases h : 0 ≤ a ∧ a ≤ 7
  · have := inverse_in ⟨a.toNat, by omega⟩
    simp only [Int.toNat_of_nonneg h.1] at this
    exact this
  · unfold laws_FnExactInverseMotion.f
    have e1 : spec_InverseMotion.f 40 a = some (-1) := spec_inv_loop a h 8 0 30 (by omega) (by omega)
    have e2 : impl_InverseMotion.f 40 a = some (-1) := by
      unfold impl_InverseMotion.f impl_isMotion.f
      rw [within_inv, Option.bind_some, Option.bind_some, if_neg (by simpa using h)]
    rw [e1, e2]
    simp
end Go.Proofs.Ytlfifpkigapabaa.Pure
