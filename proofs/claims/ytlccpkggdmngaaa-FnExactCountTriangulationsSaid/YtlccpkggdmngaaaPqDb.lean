/- A diagonal: both functions answer alike. The bounds stand in each theorem. -/
import Derived.Test.YtlccpkggdmngaaaPqG
namespace Go.Proofs.Ytlccpkggdmngaaa.G
open Go.RowKit Go.Proofs.YtlccpkggdmngaaaW.PrintWords Go.Proofs.YtlccpkggdmngaaaW.PrintLast Go.Proofs.YtlccpkggdmngaaaW.PrintMore
set_option linter.unusedSimpArgs false
set_option linter.unusedVariables false
theorem diag_both {l : List Pt} (hP : Poly l) {a b : Nat} (ha : a < l.length) (hb : b < l.length) : ∃ r, (∀ k, 3000 < k → spec_l05Diagonal.f k l (a : Int) (b : Int) = some r) ∧ ∀ k, 3000 < k → impl_isDiagonal.f k l (a : Int) (b : Int) = some r := by
  have hx : ∀ k, 3000 < k → ∀ k', 3000 < k' → ∃ r, spec_l05Diagonal.f k l (a : Int) (b : Int) = some r ∧ impl_isDiagonal.f k' l (a : Int) (b : Int) = some r := by
    intro k hk k' hk'
    obtain ⟨r, e, h⟩ := spec_diag_eq hP ha hb k hk
    obtain ⟨q, e', h'⟩ := impl_diag_eq hP (a : Int) (b : Int) k' hk'
    refine ⟨r, e, ?_⟩
    rw [e']
    congr 1
    rw [Bool.eq_iff_iff, h, h']
    simp only [Int.toNat_natCast]
    constructor
    · rintro ⟨_, _, _, _, h⟩; exact h
    · intro h; exact ⟨by omega, by omega, by omega, by omega, h⟩
  obtain ⟨r, e, e'⟩ := hx 3001 (by omega) 3001 (by omega)
  refine ⟨r, fun k hk => ?_, fun k hk => ?_⟩
  · obtain ⟨q, e1, e2⟩ := hx k hk 3001 (by omega)
    rw [e'] at e2; rw [e1, Option.some.inj e2]
  · obtain ⟨q, e1, e2⟩ := hx 3001 (by omega) k hk
    rw [e] at e1; rw [e2, Option.some.inj e1]
end Go.Proofs.Ytlccpkggdmngaaa.G
