/- Points in a line: one is between the others; a polygon's straight corners. The bounds stand in each theorem. -/
import Derived.Test.YtlccpkggdmngaaaPA
namespace Go.Proofs.Ytlccpkggdmngaaa.G
open Go.RowKit Go.Proofs.YtlccpkggdmngaaaW.PrintWords Go.Proofs.YtlccpkggdmngaaaW.PrintLast Go.Proofs.YtlccpkggdmngaaaW.PrintMore
set_option linter.unusedSimpArgs false
set_option linter.unusedVariables false
theorem onP_iff {a b p : Pt} : onP a b p = true ↔ crossP a b p = 0 ∧ mn a.f0 b.f0 ≤ p.f0 ∧ p.f0 ≤ mx a.f0 b.f0 ∧ mn a.f1 b.f1 ≤ p.f1 ∧ p.f1 ≤ mx a.f1 b.f1 := by
  unfold onP onI crossP; simp only [Bool.and_eq_true, decide_eq_true_eq, and_assoc]
theorem onP_left (a b : Pt) : onP a b a = true := by
  rw [onP_iff]; refine ⟨by unfold crossP crossI; grind, ?_⟩; unfold mn mx; omega
theorem onP_right (a b : Pt) : onP a b b = true := by
  rw [onP_iff]; refine ⟨by unfold crossP crossI; grind, ?_⟩; unfold mn mx; omega
theorem mem_shared_c {a b c d : Pt} (h : onP a b c = true) : c ∈ shared a b c d := by simp [shared, h]
theorem mem_shared_d {a b c d : Pt} (h : onP a b d = true) : d ∈ shared a b c d := by simp [shared, h]
end Go.Proofs.Ytlccpkggdmngaaa.G
