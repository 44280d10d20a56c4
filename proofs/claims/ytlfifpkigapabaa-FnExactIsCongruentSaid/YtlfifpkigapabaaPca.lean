/- slices.Concat of two lists of points: one behind the other. The bounds stand in each theorem. -/
import Derived.Test.YtlfifpkigapabaaPB
import Derived.Test.YtlfifpkigapabaaF59
namespace Go.Proofs.Ytlfifpkigapabaa.G
open Go.RowKit Go.Proofs.YtlfifpkigapabaaW.PrintWords Go.Proofs.YtlfifpkigapabaaW.PrintLast Go.Proofs.YtlfifpkigapabaaW.PrintMore
set_option linter.unusedSimpArgs false
set_option linter.unusedVariables false
theorem grow_eq {n : Int} (h0 : 0 ≤ n) (h1 : n ≤ 1000000) : impl_Point_73.f [] n = some [] := by
  unfold impl_Point_73.f
  rw [if_neg (by omega), wrap64_id (by omega) (by omega)]
  by_cases h : n > 0
  · rw [if_pos h, if_pos h0, if_pos (by simp; omega), Option.bind_some, if_pos (by omega)]; simp
  · rw [if_neg h]
theorem concat_two (a b : List Pt) (ha : a.length ≤ 1000) (hb : b.length ≤ 1000) (k : Nat) (hk : 20 < k) : impl_Point_59.f k [a, b] = some (a ++ b) := by
  obtain ⟨k, rfl⟩ : ∃ m, k = m + 6 := ⟨k - 6, by omega⟩
  have r0 : rd_L3 [a, b] 0 = a := rfl
  have r1 : rd_L3 [a, b] 1 = b := rfl
  have w0 : wrap64 (0 + (a.length : Int)) = (a.length : Int) := by rw [wrap64_id (by omega) (by omega)]; omega
  have w1 : wrap64 ((a.length : Int) + (b.length : Int)) = (a.length : Int) + (b.length : Int) := wrap64_id (by omega) (by omega)
  have w2 : wrap64 (0 + 1) = 1 := (wrap64_id (by omega) (by omega)).trans (by omega)
  have w3 : wrap64 (1 + 1) = 2 := (wrap64_id (by omega) (by omega)).trans (by omega)
  have n2 : (([a, b].length : Nat) : Int) = 2 := rfl
  have c1 : (0 : Int) < 2 := by decide
  have c2 : (1 : Int) < 2 := by decide
  have c3 : ¬ ((2 : Int) < 2) := by decide
  have c4 : (0 : Int) ≤ 0 := by decide
  have c5 : (0 : Int) ≤ 1 := by decide
  have c6 : ¬ ((a.length : Int) < 0) := by omega
  have c7 : ¬ ((a.length : Int) + (b.length : Int) < 0) := by omega
  have c8 : ([] : List Pt).length + a.length < 8796093022208 := by simp; omega
  have c9 : ([] ++ a).length + b.length < 8796093022208 := by simp; omega
  unfold impl_Point_59.f
  rw [n2, impl_Point_59.l0, n2, if_pos c1, if_pos c4, if_pos c1, r0, w0, if_neg c6, w2]
  rw [impl_Point_59.l0, n2, if_pos c2, if_pos c5, if_pos c2, r1, w1, if_neg c7, w3]
  rw [impl_Point_59.l0, if_neg c3, grow_eq (by omega) (by omega), Option.bind_some, n2]
  rw [impl_Point_59.l1, n2, if_pos c1, if_pos c4, if_pos c1, r0, if_pos c8, w2]
  rw [impl_Point_59.l1, n2, if_pos c2, if_pos c5, if_pos c2, r1, if_pos c9, w3]
  rw [impl_Point_59.l1, if_neg c3]
  rfl
theorem impl_rot (l : List Pt) (hl : l.length ≤ 1000) (k : Nat) (hk : 20 < k) (i : Nat) : impl_Point_59.f k [l.drop i, l.take i] = some (rotL l i) :=
  concat_two _ _ (by rw [List.length_drop]; omega) (by rw [List.length_take]; omega) k hk
end Go.Proofs.Ytlfifpkigapabaa.G
