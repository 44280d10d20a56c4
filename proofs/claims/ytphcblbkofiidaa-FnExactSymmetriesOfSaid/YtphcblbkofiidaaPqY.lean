/- SymmetriesOf: both functions answer alike. The bounds stand in each theorem. -/
import Derived.Test.YtphcblbkofiidaaPqP
import Derived.Test.YtphcblbkofiidaaPqN
import Derived.Test.YtphcblbkofiidaaF61
import Derived.Test.YtphcblbkofiidaaF62
namespace Go.Proofs.Ytphcblbkofiidaa.G
open Go.RowKit Go.Proofs.YtphcblbkofiidaaW.PrintWords Go.Proofs.YtphcblbkofiidaaW.PrintLast Go.Proofs.YtphcblbkofiidaaW.PrintMore
set_option linter.unusedSimpArgs false
set_option linter.unusedVariables false
theorem symm_l0 {l : List Pt} (hP : Poly l) (d : Nat) : ∀ (i : Nat) (xs : List Int), i + d = 8 → xs.length ≤ i →
    ∃ r : List Int, r.length ≤ 8 ∧ ∀ k, 20000 + d < k → spec_SymmetriesOf.l0 k l xs (i : Int) = some r ∧ impl_SymmetriesOf.l0 k l xs (i : Int) = some r := by
  have h3 := hP.n3
  have h10 := hP.n10
  induction d with
  | zero =>
    intro i xs hi hx
    obtain rfl : i = 8 := by omega
    refine ⟨xs, hx, fun k hk => ?_⟩
    obtain ⟨k, rfl⟩ : ∃ m, k = m + 1 := ⟨k - 1, by omega⟩
    simp only [spec_SymmetriesOf.l0, impl_SymmetriesOf.l0]
    rw [if_neg (by omega), if_neg (by omega)]
    exact ⟨rfl, rfl⟩
  | succ d ih =>
    intro i xs hi hx
    have wi : wrap64 ((i : Int) + 1) = ((i + 1 : Nat) : Int) := by rw [wrap64_id (by omega) (by omega)]; rfl
    obtain ⟨r, hr⟩ := all_SamePolygon (cornerL (mvL (i : Int) l)) (cornerL (mvL 0 l)) (by rw [cornerL_length, mvL_length]; omega) (by rw [cornerL_length, mvL_length]; omega)
    have c1 : ((i : Int) < 8) = True := by rw [eq_iff_iff, iff_true]; omega
    have c3 : (xs.length < 17592186044416) = True := by rw [eq_iff_iff, iff_true]; omega
    have key : ∀ k, 20000 + (d + 1) < k + 1 → spec_SymmetriesOf.l0 (k + 1) l xs (i : Int) = spec_SymmetriesOf.l0 k l (if r = true then xs ++ [(i : Int)] else xs) ((i + 1 : Nat) : Int) ∧ impl_SymmetriesOf.l0 (k + 1) l xs (i : Int) = impl_SymmetriesOf.l0 k l (if r = true then xs ++ [(i : Int)] else xs) ((i + 1 : Nat) : Int) := by
      intro k hk
      simp only [spec_SymmetriesOf.l0, impl_SymmetriesOf.l0, c1, if_true]
      rw [spec_move_eq (by omega) (by omega) (by omega) (by omega) k (by omega), impl_movedOn_eq (by omega) (by omega) (by omega) (by omega) k (by omega), spec_move_eq (by omega) (by omega) (by omega) (by omega) k (by omega), impl_movedOn_eq (by omega) (by omega) (by omega) (by omega) k (by omega)]
      simp only [Option.bind_some, (hr k (by omega)).1, (hr k (by omega)).2, c3, if_true, wi]
      cases r <;> simp
    obtain ⟨s, hs, hk⟩ := ih (i + 1) (if r = true then xs ++ [(i : Int)] else xs) (by omega) (by
      split
      · rw [List.length_append, List.length_singleton]; omega
      · omega)
    refine ⟨s, hs, fun k hk' => ?_⟩
    obtain ⟨k, rfl⟩ : ∃ m, k = m + 1 := ⟨k - 1, by omega⟩
    rw [(key k hk').1, (key k hk').2]
    exact hk k (by omega)
theorem all_SymmetriesOf (l : List Pt) (hl : l.length ≤ 1048576) : ∃ r : List Int, r.length ≤ 2000 ∧ ∀ k, 30000 < k → spec_SymmetriesOf.f k l = some r ∧ impl_SymmetriesOf.f k l = some r := by
  by_cases hp : impl_PolygonOk.ok l = true
  · have hP := (impl_ok_iff _).1 hp
    have h10 := hP.n10
    obtain ⟨r, hr, hk⟩ := symm_l0 hP 8 0 [] (by omega) (by simp)
    refine ⟨r, by omega, fun k hk' => ?_⟩
    unfold spec_SymmetriesOf.f impl_SymmetriesOf.f
    rw [spec_PolygonOk_eq _ (by omega) _ (by omega), impl_PolygonOk_some]
    simp only [Option.bind_some]
    rw [if_pos hp, if_pos hp]
    exact hk k (by omega)
  · refine ⟨[], by simp, fun k hk => ?_⟩
    unfold spec_SymmetriesOf.f impl_SymmetriesOf.f
    rw [spec_PolygonOk_eq _ (by omega) _ (by omega), impl_PolygonOk_some]
    simp only [Option.bind_some]
    rw [if_neg hp, if_neg hp]
    exact ⟨rfl, rfl⟩
end Go.Proofs.Ytphcblbkofiidaa.G
