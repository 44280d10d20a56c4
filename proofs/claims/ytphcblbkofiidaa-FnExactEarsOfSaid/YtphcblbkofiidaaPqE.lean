/- The list of ears: both functions answer alike. The bounds stand in each theorem. -/
import Derived.Test.YtphcblbkofiidaaPqK
import Derived.Test.YtphcblbkofiidaaF51
import Derived.Test.YtphcblbkofiidaaF52
namespace Go.Proofs.Ytphcblbkofiidaa.G
open Go.RowKit Go.Proofs.YtphcblbkofiidaaW.PrintWords Go.Proofs.YtphcblbkofiidaaW.PrintLast Go.Proofs.YtphcblbkofiidaaW.PrintMore
set_option linter.unusedSimpArgs false
set_option linter.unusedVariables false
open Classical in
noncomputable def earsL (l : List Pt) : Nat → List Int
  | 0 => []
  | i + 1 => if Ear l i then earsL l i ++ [(i : Int)] else earsL l i
theorem earsL_len (l : List Pt) : ∀ i, (earsL l i).length ≤ i
  | 0 => by simp [earsL]
  | i + 1 => by
    have := earsL_len l i
    simp only [earsL]; split
    · simp; omega
    · omega
theorem ears_l0 {l : List Pt} (hP : Poly l) (d : Nat) : ∀ (k i : Nat), i + d = l.length → 4000 + d < k →
    spec_EarsOf.l0 k l (earsL l i) (l.length : Int) (i : Int) = some (earsL l l.length) ∧ impl_EarsOf.l0 k l (earsL l i) (l.length : Int) (i : Int) = some (earsL l l.length) := by
  have h3 := hP.n3
  have h10 := hP.n10
  induction d with
  | zero =>
    intro k i hi hk
    obtain ⟨k, rfl⟩ : ∃ m, k = m + 1 := ⟨k - 1, by omega⟩
    obtain rfl : i = l.length := by omega
    simp only [spec_EarsOf.l0, impl_EarsOf.l0]
    rw [if_neg (by omega), if_neg (by omega)]
    exact ⟨rfl, rfl⟩
  | succ d ih =>
    intro k i hi hk
    obtain ⟨k, rfl⟩ : ∃ m, k = m + 1 := ⟨k - 1, by omega⟩
    have wi : wrap64 ((i : Int) + 1) = ((i + 1 : Nat) : Int) := by rw [wrap64_id (by omega) (by omega)]; rfl
    have c1 : ((i : Int) < (l.length : Int)) = True := by rw [eq_iff_iff, iff_true]; omega
    have hb := earsL_len l i
    have c3 : ((earsL l i).length < 17592186044416) = True := by rw [eq_iff_iff, iff_true]; omega
    obtain ⟨r, e1, e2, e3⟩ := ear_both hP (i := i) (by omega) k k (by omega) (by omega)
    have ih' := ih k (i + 1) (by omega) (by omega)
    simp only [spec_EarsOf.l0, impl_EarsOf.l0, c1, c3, if_true, wi, e1, e2, Option.bind_some]
    simp only [earsL] at ih'
    cases r
    · have hn : ¬ Ear l i := by rw [← e3]; simp
      rw [if_neg hn] at ih'
      rw [if_neg (by simp), if_neg (by simp)]
      exact ih'
    · have hn : Ear l i := e3.1 rfl
      rw [if_pos hn] at ih'
      simp only [if_true]
      exact ih'
theorem all_EarsOf (l : List Pt) (hl : l.length ≤ 1048576) : ∃ r : List Int, r.length ≤ 2000 ∧ ∀ k, 10000 < k → spec_EarsOf.f k l = some r ∧ impl_EarsOf.f k l = some r := by
  by_cases hp : impl_PolygonOk.ok l = true
  · have hP := (impl_ok_iff _).1 hp
    have h10 := hP.n10
    have hb := earsL_len l l.length
    refine ⟨earsL l l.length, by omega, fun k hk => ?_⟩
    unfold spec_EarsOf.f impl_EarsOf.f
    rw [spec_PolygonOk_eq _ (by omega) _ (by omega), impl_PolygonOk_some]
    simp only [Option.bind_some]
    rw [if_pos hp, if_pos hp]
    exact ears_l0 hP l.length k 0 (by omega) (by omega)
  · refine ⟨[], by simp, fun k hk => ?_⟩
    unfold spec_EarsOf.f impl_EarsOf.f
    rw [spec_PolygonOk_eq _ (by omega) _ (by omega), impl_PolygonOk_some]
    simp only [Option.bind_some]
    rw [if_neg hp, if_neg hp]
    exact ⟨rfl, rfl⟩
end Go.Proofs.Ytphcblbkofiidaa.G
