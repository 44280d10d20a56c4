/- The order of points, and that a list has a first one. No conditions but those in the theorems. -/
import Derived.Test.YtphcblbkofiidaaPj
namespace Go.Proofs.Ytphcblbkofiidaa.G
open Go.RowKit Go.Proofs.YtphcblbkofiidaaW.PrintWords Go.Proofs.YtphcblbkofiidaaW.PrintLast Go.Proofs.YtphcblbkofiidaaW.PrintMore
set_option linter.unusedSimpArgs false
set_option linter.unusedVariables false
/-- The order of points. -/
def bef (p q : Pt) : Prop := p.f1 < q.f1 ∨ (p.f1 = q.f1 ∧ p.f0 < q.f0)
theorem bef_trans {p q r : Pt} (h1 : bef p q) (h2 : bef q r) : bef p r := by unfold bef at *; omega
theorem bef_irrefl (p : Pt) : ¬ bef p p := by unfold bef; omega
theorem bef_total (p q : Pt) : bef p q ∨ p = q ∨ bef q p := by
  unfold bef
  by_cases h : p = q
  · exact Or.inr (Or.inl h)
  · have : ¬ (p.f0 = q.f0 ∧ p.f1 = q.f1) := fun ⟨a, b⟩ => h (pt_ext a b)
    omega
def beq' (p q : Pt) : Prop := p = q ∨ bef p q
theorem beq'_bef {p q r : Pt} (h1 : beq' p q) (h2 : bef q r) : bef p r := by
  rcases h1 with h | h
  · subst h; exact h2
  · exact bef_trans h h2
theorem bef_beq' {p q r : Pt} (h1 : bef p q) (h2 : beq' q r) : bef p r := by
  rcases h2 with h | h
  · subst h; exact h1
  · exact bef_trans h1 h
theorem beq'_total (p q : Pt) : beq' p q ∨ beq' q p := by
  rcases bef_total p q with h | h | h
  · exact Or.inl (Or.inr h)
  · exact Or.inl (Or.inl h)
  · exact Or.inr (Or.inr h)
theorem beq'_trans {p q r : Pt} (h1 : beq' p q) (h2 : beq' q r) : beq' p r := by
  rcases h2 with h | h
  · subst h; exact h1
  · exact Or.inr (beq'_bef h1 h)
theorem first_exists : ∀ l : List Pt, l ≠ [] → ∃ f ∈ l, ∀ y ∈ l, beq' f y
  | [], h => absurd rfl h
  | [a], _ => ⟨a, by simp, fun y hy => by simp at hy; exact Or.inl hy.symm⟩
  | a :: b :: r, _ => by
    obtain ⟨f, hf, h⟩ := first_exists (b :: r) (by simp)
    rcases beq'_total a f with g | g
    · refine ⟨a, by simp, fun y hy => ?_⟩
      rcases List.mem_cons.1 hy with k | k
      · exact Or.inl k.symm
      · exact beq'_trans g (h y k)
    · refine ⟨f, by simp [hf], fun y hy => ?_⟩
      rcases List.mem_cons.1 hy with k | k
      · subst k; exact g
      · exact h y k
end Go.Proofs.Ytphcblbkofiidaa.G
