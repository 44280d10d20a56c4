/- All diagonals: both functions list the same ones. The bounds stand in each theorem. -/
import Derived.Test.YtlccpkggdmngaaaPqG
import Derived.Test.YtlccpkggdmngaaaPkk
import Derived.Test.YtlccpkggdmngaaaF43
import Derived.Test.YtlccpkggdmngaaaF44
namespace Go.Proofs.Ytlccpkggdmngaaa.G
open Go.RowKit Go.Proofs.YtlccpkggdmngaaaW.PrintWords Go.Proofs.YtlccpkggdmngaaaW.PrintLast Go.Proofs.YtlccpkggdmngaaaW.PrintMore
set_option linter.unusedSimpArgs false
set_option linter.unusedVariables false
theorem diag_both {l : List Pt} (hP : Poly l) {a b : Nat} (ha : a < l.length) (hb : b < l.length) : ∃ r, (∀ k, 3000 < k → spec_l05Diagonal.f k l (a : Int) (b : Int) = some r) ∧ ∀ k, 3000 < k → impl_isDiagonal.f k l (a : Int) (b : Int) = some r := by
  have hx : ∀ k, 3000 < k → ∀ k', 3000 < k' → ∃ r, spec_l05Diagonal.f k l (a : Int) (b : Int) = some r ∧ impl_isDiagonal.f k' l (a : Int) (b : Int) = some r := by
    intro k hk k' hk'
    obtain ⟨r, e, h⟩ := spec_diag_eq hP ha hb k hk
    obtain ⟨q, e', h'⟩ := impl_diag_eq hP (a : Int) (b : Int) k' hk'
    refine ⟨r, e, ?_⟩
    rw [e']
    congr 1
    rw [Bool.eq_iff_iff, h, h']
    simp only [Int.toNat_natCast]
    constructor
    · rintro ⟨_, _, _, _, h⟩; exact h
    · intro h; exact ⟨by omega, by omega, by omega, by omega, h⟩
  obtain ⟨r, e, e'⟩ := hx 3001 (by omega) 3001 (by omega)
  refine ⟨r, fun k hk => ?_, fun k hk => ?_⟩
  · obtain ⟨q, e1, e2⟩ := hx k hk 3001 (by omega)
    rw [e'] at e2; rw [e1, Option.some.inj e2]
  · obtain ⟨q, e1, e2⟩ := hx 3001 (by omega) k hk
    rw [e] at e1; rw [e2, Option.some.inj e1]
theorem diags_l1 {l : List Pt} (hP : Poly l) {i : Nat} (hi : i < l.length) (n : Int) (d : Nat) : ∀ (j : Nat) (out : List (List Int)), j + d = l.length → out.length + d ≤ 1000 → (∀ x ∈ out, x.length = 2) →
    ∃ out' : List (List Int), out'.length ≤ out.length + d ∧ (∀ x ∈ out', x.length = 2) ∧ ∀ k, 3000 + d < k → (∃ k', k ≤ k' + d + 1 ∧ spec_DiagonalsOf.l1 k l out (i : Int) (j : Int) n (i : Int) = spec_DiagonalsOf.l0 k' l out' n ((i : Int) + 1)) ∧ ∃ k', k ≤ k' + d + 1 ∧ impl_diagonals.l1 k l out (i : Int) (j : Int) n (i : Int) = impl_diagonals.l0 k' l out' n ((i : Int) + 1) := by
  have hn := hP.n10
  induction d with
  | zero =>
    intro j out hj ho hx
    refine ⟨out, by omega, hx, fun k hk => ?_⟩
    obtain ⟨k, rfl⟩ : ∃ m, k = m + 1 := ⟨k - 1, by omega⟩
    simp only [spec_DiagonalsOf.l1, impl_diagonals.l1]
    rw [if_neg (by omega), if_neg (by omega), wrap64_id (x := (i : Int) + 1) (by omega) (by omega)]
    exact ⟨⟨k, by omega, rfl⟩, ⟨k, by omega, rfl⟩⟩
  | succ d ih =>
    intro j out hj ho hx
    obtain ⟨r, e, e'⟩ := diag_both hP hi (show j < l.length by omega)
    cases r with
    | true =>
      obtain ⟨out', h1, h2, h3⟩ := ih (j + 1) (out ++ [[(i : Int), (j : Int)]]) (by omega) (by simp; omega) (by
        intro x hx'
        rcases List.mem_append.1 hx' with h | h
        · exact hx x h
        · obtain rfl := List.mem_singleton.1 h; rfl)
      refine ⟨out', by simp at h1; omega, h2, fun k hk => ?_⟩
      obtain ⟨k, rfl⟩ : ∃ m, k = m + 1 := ⟨k - 1, by omega⟩
      obtain ⟨⟨k1, q1, q2⟩, k2, q3, q4⟩ := h3 k (by omega)
      simp only [spec_DiagonalsOf.l1, impl_diagonals.l1]
      have cj : (j : Int) < (l.length : Int) := by omega
      rw [if_pos cj, if_pos cj, e k (by omega), e' k (by omega), Option.bind_some, Option.bind_some, if_pos rfl, if_pos rfl, if_pos (by omega), if_pos (by omega), wrap64_id (x := (j : Int) + 1) (by omega) (by omega)]
      push_cast at q2 q4
      exact ⟨⟨k1, by omega, q2⟩, ⟨k2, by omega, q4⟩⟩
    | false =>
      obtain ⟨out', h1, h2, h3⟩ := ih (j + 1) out (by omega) (by omega) hx
      refine ⟨out', by omega, h2, fun k hk => ?_⟩
      obtain ⟨k, rfl⟩ : ∃ m, k = m + 1 := ⟨k - 1, by omega⟩
      obtain ⟨⟨k1, q1, q2⟩, k2, q3, q4⟩ := h3 k (by omega)
      simp only [spec_DiagonalsOf.l1, impl_diagonals.l1]
      have cj : (j : Int) < (l.length : Int) := by omega
      rw [if_pos cj, if_pos cj, e k (by omega), e' k (by omega), Option.bind_some, Option.bind_some, if_neg (show ¬ (false = true) by decide), if_neg (show ¬ (false = true) by decide), wrap64_id (x := (j : Int) + 1) (by omega) (by omega)]
      push_cast at q2 q4
      exact ⟨⟨k1, by omega, q2⟩, ⟨k2, by omega, q4⟩⟩
theorem diags_l0 {l : List Pt} (hP : Poly l) (d : Nat) : ∀ (i : Nat) (out : List (List Int)), i + d = l.length → out.length ≤ 10 * i → (∀ x ∈ out, x.length = 2) →
    ∃ out' : List (List Int), out'.length ≤ 100 ∧ (∀ x ∈ out', x.length = 2) ∧ ∀ k, 3100 + 12 * d < k → spec_DiagonalsOf.l0 k l out (l.length : Int) (i : Int) = some out' ∧ impl_diagonals.l0 k l out (l.length : Int) (i : Int) = some out' := by
  have hn := hP.n10
  induction d with
  | zero =>
    intro i out hi ho hx
    refine ⟨out, by omega, hx, fun k hk => ?_⟩
    obtain ⟨k, rfl⟩ : ∃ m, k = m + 1 := ⟨k - 1, by omega⟩
    simp only [spec_DiagonalsOf.l0, impl_diagonals.l0]
    rw [if_neg (by omega), if_neg (by omega)]
    exact ⟨rfl, rfl⟩
  | succ d ih =>
    intro i out hi ho hx
    obtain ⟨o1, h1, h2, h3⟩ := diags_l1 hP (i := i) (by omega) (l.length : Int) d (i + 1) out (by omega) (by omega) hx
    obtain ⟨o2, g1, g2, g3⟩ := ih (i + 1) o1 (by omega) (by omega) h2
    refine ⟨o2, g1, g2, fun k hk => ?_⟩
    obtain ⟨k, rfl⟩ : ∃ m, k = m + 1 := ⟨k - 1, by omega⟩
    obtain ⟨⟨k1, q1, q2⟩, k2, q3, q4⟩ := h3 k (by omega)
    simp only [spec_DiagonalsOf.l0, impl_diagonals.l0]
    rw [if_pos (by omega), if_pos (by omega), wrap64_id (x := (i : Int) + 1) (by omega) (by omega)]
    push_cast at q2 q4
    rw [q2, q4]
    have a1 := (g3 k1 (by omega)).1
    have a2 := (g3 k2 (by omega)).2
    push_cast at a1 a2
    exact ⟨a1, a2⟩
theorem all_DiagonalsOf (l : List Pt) (hl : l.length ≤ 1048576) : ∃ r : List (List Int), fewR r ∧ ∀ k, 2000000 < k → spec_DiagonalsOf.f k l = some r ∧ impl_DiagonalsOf.f k l = some r := by
  by_cases hp : impl_PolygonOk.ok l = true
  · have hP := (impl_ok_iff _).1 hp
    obtain ⟨r, h1, h2, h3⟩ := diags_l0 hP l.length 0 [] (by omega) (by simp) (by simp)
    have h10 := hP.n10
    refine ⟨r, ⟨by omega, fun x hx => by rw [h2 x hx]; omega⟩, fun k hk => ?_⟩
    obtain ⟨e1, e2⟩ := h3 k (by omega)
    unfold spec_DiagonalsOf.f impl_DiagonalsOf.f impl_diagonals.f
    rw [spec_PolygonOk_eq _ (by omega) _ (by omega), impl_PolygonOk_some]
    simp only [Option.bind_some]
    rw [if_pos hp, if_pos hp]
    exact ⟨e1, by rw [show ((0 : Nat) : Int) = 0 from rfl] at e2; rw [e2]; rfl⟩
  · refine ⟨[], ⟨by simp, by simp⟩, fun k hk => ?_⟩
    unfold spec_DiagonalsOf.f impl_DiagonalsOf.f
    rw [spec_PolygonOk_eq _ (by omega) _ (by omega), impl_PolygonOk_some]
    simp only [Option.bind_some]
    rw [if_neg hp, if_neg hp]
    exact ⟨rfl, rfl⟩
end Go.Proofs.Ytlccpkggdmngaaa.G
