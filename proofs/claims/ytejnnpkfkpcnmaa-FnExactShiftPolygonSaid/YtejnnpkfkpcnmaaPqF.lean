/- A shifted polygon: both functions answer alike. The bounds stand in each theorem. -/
import Derived.Test.YtejnnpkfkpcnmaaPA
import Derived.Test.YtejnnpkfkpcnmaaF16
import Derived.Test.YtejnnpkfkpcnmaaF18
namespace Go.Proofs.Ytejnnpkfkpcnmaa.G
open Go.RowKit Go.Proofs.YtejnnpkfkpcnmaaW.PrintWords Go.Proofs.YtejnnpkfkpcnmaaW.PrintLast Go.Proofs.YtejnnpkfkpcnmaaW.PrintMore
set_option linter.unusedSimpArgs false
set_option linter.unusedVariables false
/-- The list with each point shifted. -/
def shiftL (a b : Int) (l : List Pt) : List Pt := l.map fun p => ⟨wrap64 (p.f0 + a), wrap64 (p.f1 + b)⟩
theorem shiftL_length (a b : Int) (l : List Pt) : (shiftL a b l).length = l.length := by simp [shiftL]
theorem shift_l0 (a b : Int) {l : List Pt} (hn : l.length ≤ 1000000) (d : Nat) : ∀ (k i : Nat), i + d = l.length → 1000 + d < k →
    spec_ShiftPolygon.l0 k a b (shiftL a b (l.take i)) l (l.length : Int) (i : Int) = some (if impl_PolygonOk.ok (shiftL a b l) = true then (shiftL a b l, true) else ([], false)) ∧
    impl_ShiftPolygon.l0 k a b (shiftL a b (l.take i)) l (l.length : Int) (i : Int) = some (if impl_PolygonOk.ok (shiftL a b l) = true then (shiftL a b l, true) else ([], false)) := by
  have hs := shiftL_length a b l
  induction d with
  | zero =>
    intro k i hi hk
    obtain ⟨k, rfl⟩ : ∃ m, k = m + 1 := ⟨k - 1, by omega⟩
    simp only [spec_ShiftPolygon.l0, impl_ShiftPolygon.l0]
    have c : ((i : Int) < (l.length : Int)) = False := by rw [eq_iff_iff, iff_false]; omega
    rw [List.take_of_length_le (by omega), spec_PolygonOk_eq _ (by omega) _ (by omega), impl_PolygonOk_some]
    simp only [c, if_false, Option.bind_some]
    by_cases h : impl_PolygonOk.ok (shiftL a b l) = true
    · rw [if_pos h, if_pos h]; exact ⟨rfl, rfl⟩
    · rw [if_neg h, if_neg h]; exact ⟨rfl, rfl⟩
  | succ d ih =>
    intro k i hi hk
    obtain ⟨k, rfl⟩ : ∃ m, k = m + 1 := ⟨k - 1, by omega⟩
    have wi : wrap64 ((i : Int) + 1) = ((i + 1 : Nat) : Int) := by rw [wrap64_id (by omega) (by omega)]; rfl
    have hi' : i < l.length := by omega
    have hl : (shiftL a b (l.take i)).length = i := by rw [shiftL_length]; simp; omega
    simp only [spec_ShiftPolygon.l0, impl_ShiftPolygon.l0]
    have c1 : ((i : Int) < (l.length : Int)) = True := by rw [eq_iff_iff, iff_true]; omega
    have c2 : ((0 : Int) ≤ (i : Int)) = True := by rw [eq_iff_iff, iff_true]; omega
    have c3 : ((shiftL a b (l.take i)).length < 8796093022208) = True := by rw [eq_iff_iff, iff_true]; omega
    simp only [c1, c2, c3, if_true, wi, rd_at l i hi']
    have e : shiftL a b (l.take i) ++ [⟨wrap64 (l[i].f0 + a), wrap64 (l[i].f1 + b)⟩] = shiftL a b (l.take (i + 1)) := by
      unfold shiftL; rw [List.take_succ_eq_append_getElem hi', List.map_append]; rfl
    rw [e]
    exact ih k (i + 1) (by omega) (by omega)
theorem all_ShiftPolygon (l : List Pt) (hl : l.length ≤ 1048576) (a b : Int) : ∃ r : List Pt × Bool, r.1.length ≤ 2000 ∧ ∀ k, 10000 < k → spec_ShiftPolygon.f k l a b = some r ∧ impl_ShiftPolygon.f k l a b = some r := by
  have jt : ∀ k, spec_ShiftPolygon.j0 (k + 1) l a b true = some ([], false) := fun k => by simp [spec_ShiftPolygon.j0]
  have jt' : ∀ k, impl_ShiftPolygon.j0 (k + 1) l a b true = some ([], false) := fun k => by simp [impl_ShiftPolygon.j0]
  by_cases hp : impl_PolygonOk.ok l = true
  · have hP := (impl_ok_iff _).1 hp
    have h3 := hP.n3
    have h10 := hP.n10
    refine ⟨if (decide (-40 ≤ a) && decide (a ≤ 40) && decide (-40 ≤ b) && decide (b ≤ 40)) = true then (if impl_PolygonOk.ok (shiftL a b l) = true then (shiftL a b l, true) else ([], false)) else ([], false), ?_, fun k hk => ?_⟩
    · have := shiftL_length a b l
      split
      · split
        · show (shiftL a b l).length ≤ 2000; omega
        · simp
      · simp
    · obtain ⟨k, rfl⟩ : ∃ m, k = m + 1 := ⟨k - 1, by omega⟩
      have s0 := shift_l0 a b (l := l) (by omega) l.length k 0 (by omega) (by omega)
      have t0 : shiftL a b (l.take 0) = [] := by simp [shiftL]
      rw [t0] at s0
      unfold spec_ShiftPolygon.f impl_ShiftPolygon.f spec_l01In.f impl_within.f
      rw [spec_PolygonOk_eq _ (by omega) _ (by omega), impl_PolygonOk_some]
      simp only [Option.bind_some]
      rw [if_pos hp, if_pos hp]
      have j1 : spec_ShiftPolygon.j0 (k + 1) l a b false = spec_ShiftPolygon.l0 k a b [] l (l.length : Int) 0 := by simp [spec_ShiftPolygon.j0]
      have j2 : impl_ShiftPolygon.j0 (k + 1) l a b false = impl_ShiftPolygon.l0 k a b [] l (l.length : Int) 0 := by simp [impl_ShiftPolygon.j0]
      by_cases c1 : -40 ≤ a
      · by_cases c2 : a ≤ 40
        · by_cases c3 : -40 ≤ b
          · by_cases c4 : b ≤ 40
            · simp [c1, c2, c3, c4, j1, j2]; exact s0
            · simp [c1, c2, c3, c4, jt, jt']
          · simp [c1, c2, c3, jt, jt']
        · simp [c1, c2, jt, jt']
      · simp [c1, jt, jt']
  · refine ⟨([], false), by simp, fun k hk => ?_⟩
    obtain ⟨k, rfl⟩ : ∃ m, k = m + 1 := ⟨k - 1, by omega⟩
    unfold spec_ShiftPolygon.f impl_ShiftPolygon.f
    rw [spec_PolygonOk_eq _ (by omega) _ (by omega), impl_PolygonOk_some]
    simp only [Option.bind_some]
    rw [if_neg hp, if_neg hp]
    exact ⟨jt k, jt' k⟩
end Go.Proofs.Ytejnnpkfkpcnmaa.G
