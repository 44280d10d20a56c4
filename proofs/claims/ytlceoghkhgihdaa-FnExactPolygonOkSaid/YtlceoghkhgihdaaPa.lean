/- Points: what the small functions over points come to, in plain numbers. No conditions but the bound on a list's length. -/
import Derived.Test.YtlceoghkhgihdaaF46
import Derived.Test.YtlceoghkhgihdaaF68
import Derived.Test.YtlceoghkhgihdaaF50
namespace Go.Proofs.Ytlceoghkhgihdaa.G
open Go.RowKit Go.Proofs.YtlceoghkhgihdaaW.PrintWords Go.Proofs.YtlceoghkhgihdaaW.PrintLast Go.Proofs.YtlceoghkhgihdaaW.PrintMore
set_option linter.unusedSimpArgs false
set_option linter.unusedVariables false

abbrev Pt := S26
theorem pt_ext {p q : Pt} (h0 : p.f0 = q.f0) (h1 : p.f1 = q.f1) : p = q := by cases p; cases q; simp_all
instance : DecidableEq Pt := fun p q => if h : p.f0 = q.f0 ∧ p.f1 = q.f1 then isTrue (pt_ext h.1 h.2) else isFalse (fun e => h (by rw [e]; exact ⟨rfl, rfl⟩))
/-- A valid point. -/
def ok (x y : Int) : Bool := decide (0 ≤ x) && decide (x ≤ 40) && decide (0 ≤ y) && decide (y ≤ 40)
def okp (p : Pt) : Bool := ok p.f0 p.f1
theorem ok_iff {x y : Int} : ok x y = true ↔ 0 ≤ x ∧ x ≤ 40 ∧ 0 ≤ y ∧ y ≤ 40 := by
  simp [ok, and_assoc]
theorem spec_PointOk_eq (x y : Int) : spec_PointOk.f x y = some (ok x y) := by
  unfold spec_PointOk.f spec_l01In.f ok
  by_cases h1 : 0 ≤ x <;> by_cases h2 : x ≤ 40 <;> by_cases h3 : 0 ≤ y <;> by_cases h4 : y ≤ 40 <;> simp [h1, h2, h3, h4]
theorem impl_PointOk_eq (x y : Int) : impl_PointOk.f x y = some (ok x y) := by
  unfold impl_PointOk.f impl_within.f ok
  by_cases h1 : 0 ≤ x <;> by_cases h2 : x ≤ 40 <;> by_cases h3 : 0 ≤ y <;> by_cases h4 : y ≤ 40 <;> simp [h1, h2, h3, h4]
theorem wrap64_id {x : Int} (h0 : -9223372036854775808 ≤ x) (h1 : x ≤ 9223372036854775807) : wrap64 x = x := by unfold wrap64; omega
theorem rd_at (l : List Pt) (i : Nat) (h : i < l.length) : rd_T26 l (i : Int) = l[i] := by
  simp [rd_T26, List.getD_eq_getElem?_getD, List.getElem?_eq_getElem h]
theorem arePoints_l0 (l : List Pt) (hl : l.length ≤ 9223372036854775807) (d : Nat) : ∀ (k i : Nat), i + d = l.length → d < k → impl_arePoints.l0 k l (l.length : Int) (i : Int) = some ((l.drop i).all okp) := by
  induction d with
  | zero =>
    intro k i h hk
    obtain ⟨k, rfl⟩ : ∃ m, k = m + 1 := ⟨k - 1, by omega⟩
    simp only [impl_arePoints.l0]
    rw [if_neg (by omega), List.drop_of_length_le (by omega)]; rfl
  | succ d ih =>
    intro k i h hk
    obtain ⟨k, rfl⟩ : ∃ m, k = m + 1 := ⟨k - 1, by omega⟩
    have hi : i < l.length := by omega
    simp only [impl_arePoints.l0]
    rw [if_pos (by omega), if_pos (by omega), if_pos (by omega), rd_at l i hi, impl_PointOk_eq, Option.bind_some, wrap64_id (by omega) (by omega), List.drop_eq_getElem_cons hi, List.all_cons]
    have ih' := ih k (i + 1) (by omega) (by omega)
    push_cast at ih'
    by_cases h1 : ok l[i].f0 l[i].f1 = true
    · rw [if_pos h1, ih']; simp [okp, h1]
    · rw [if_neg h1]; simp [okp, h1]
theorem impl_arePoints_eq (l : List Pt) (hl : l.length ≤ 9223372036854775807) (k : Nat) (hk : l.length < k) : impl_arePoints.f k l = some (l.all okp) := by
  have := arePoints_l0 l hl l.length k 0 (by omega) hk
  simpa [impl_arePoints.f] using this
end Go.Proofs.Ytlceoghkhgihdaa.G
