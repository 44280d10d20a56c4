/- The number of triangulations: both functions count alike. The bounds stand in each theorem. -/
import Derived.Test.YtlccpkggdmngaaaPqDb
import Derived.Test.YtlccpkggdmngaaaF34
import Derived.Test.YtlccpkggdmngaaaF36
namespace Go.Proofs.Ytlccpkggdmngaaa.G
open Go.RowKit Go.Proofs.YtlccpkggdmngaaaW.PrintWords Go.Proofs.YtlccpkggdmngaaaW.PrintLast Go.Proofs.YtlccpkggdmngaaaW.PrintMore
set_option linter.unusedSimpArgs false
set_option linter.unusedVariables false
/-- What both answer for the corners from i to j. -/
def CountIs (l : List Pt) (i j : Nat) : Prop := ∃ v : Int, ∀ K, 3100 + 40 * (j - i) < K → spec_l05Count.f K l (i : Int) (j : Int) = some v ∧ impl_CountTriangulations_2.f K (i : Int) (j : Int) (l.length : Int) l = some v
theorem joined_both {l : List Pt} (hP : Poly l) {i m : Nat} (him : i < m) (hm : m < l.length) (hz : ¬ (i = 0 ∧ m + 1 = l.length)) : ∃ r, (∀ K, 3000 < K → impl_CountTriangulations_1.f K (i : Int) (m : Int) (l.length : Int) l = some r) ∧ ((m = i + 1 ∧ r = true) ∨ (m ≠ i + 1 ∧ ∀ K, 3000 < K → spec_l05Diagonal.f K l (i : Int) (m : Int) = some r)) := by
  have hn := hP.n10
  have w1 : wrap64 ((i : Int) + 1) = (i : Int) + 1 := wrap64_id (by omega) (by omega)
  have w2 : wrap64 ((l.length : Int) - 1) = (l.length : Int) - 1 := wrap64_id (by omega) (by omega)
  by_cases c : m = i + 1
  · refine ⟨true, fun K _ => ?_, .inl ⟨c, rfl⟩⟩
    unfold impl_CountTriangulations_1.f
    rw [w1, if_pos (by omega)]
  · obtain ⟨r, e, e'⟩ := diag_both hP (show i < l.length by omega) hm
    refine ⟨r, fun K hK => ?_, .inr ⟨c, e⟩⟩
    unfold impl_CountTriangulations_1.f
    rw [w1, w2, if_neg (by omega), e' K hK]
    by_cases h0 : (i : Int) = 0
    · rw [if_pos h0, if_neg (by omega)]; rfl
    · rw [if_neg h0]; rfl
theorem count_l0 {l : List Pt} (hP : Poly l) {i j : Nat} (hij : i < j) (hj : j < l.length) (ih : ∀ a b, a < b → b < l.length → b - a < j - i → CountIs l a b) (e : Nat) : ∀ (m : Nat) (acc : Int), m + e = j → i < m →
    ∃ v : Int, ∀ K, 3100 + 40 * (j - i - 1) + 4 * e + 4 < K → spec_l05Count.l0 K l (i : Int) (j : Int) acc (m : Int) = some v ∧ impl_CountTriangulations_2.l0 K (i : Int) (j : Int) (l.length : Int) l acc (m : Int) = some v := by
  have hn := hP.n10
  induction e with
  | zero =>
    intro m acc hm him
    refine ⟨acc, fun K hK => ?_⟩
    obtain ⟨K, rfl⟩ : ∃ q, K = q + 1 := ⟨K - 1, by omega⟩
    simp only [spec_l05Count.l0, impl_CountTriangulations_2.l0]
    rw [if_neg (by omega), if_neg (by omega)]
    exact ⟨rfl, rfl⟩
  | succ e ihe =>
    intro m acc hm him
    have w1 : wrap64 ((i : Int) + 1) = (i : Int) + 1 := wrap64_id (by omega) (by omega)
    have w2 : wrap64 ((m : Int) + 1) = (m : Int) + 1 := wrap64_id (by omega) (by omega)
    obtain ⟨r1, a1, a2⟩ := joined_both hP him (show m < l.length by omega) (by omega)
    obtain ⟨r2, b1, b2⟩ := joined_both hP (show m < j by omega) hj (by omega)
    obtain ⟨u, hu⟩ := ih i m him (by omega) (by omega)
    obtain ⟨v, hv⟩ := ih m j (by omega) hj (by omega)
    have hok : ∀ q, q < l.length → smp (pt l q) := fun q hq => okp_smp (hP.okp _ (pt_mem l q (by omega)))
    have hpt : ∀ q, q < l.length → rd_T27 l (q : Int) = pt l q := fun q hq => by
      rw [rd_at l q hq]; unfold pt; simp [Nat.mod_eq_of_lt hq, List.getElem?_eq_getElem hq]
    obtain ⟨z, hz⟩ : ∃ z, z = crossP (pt l i) (pt l m) (pt l j) := ⟨_, rfl⟩
    have ci : impl_cross.f (pt l i).f0 (pt l i).f1 (pt l m).f0 (pt l m).f1 (pt l j).f0 (pt l j).f1 = some z := by
      rw [impl_cross_eq (hok i (by omega)).1 (hok i (by omega)).2 (hok m (by omega)).1 (hok m (by omega)).2 (hok j hj).1 (hok j hj).2, hz]; rfl
    have cs : spec_l02Cross.f (pt l i).f0 (pt l i).f1 (pt l m).f0 (pt l m).f1 (pt l j).f0 (pt l j).f1 = some z := by
      rw [spec_cross_eq (hok i (by omega)).1 (hok i (by omega)).2 (hok m (by omega)).1 (hok m (by omega)).2 (hok j hj).1 (hok j hj).2, hz]; rfl
    -- the flag
    obtain ⟨b, hb⟩ : ∃ b : Bool, b = (r1 && (r2 && (z != 0))) := ⟨_, rfl⟩
    obtain ⟨x, hx⟩ := ihe (m + 1) (if b = true then wrap64 (acc + wrap64 (u * v)) else acc) (by omega) (by omega)
    push_cast at hx
    refine ⟨x, fun K hK => ⟨?_, ?_⟩⟩
    · obtain ⟨K, rfl⟩ : ∃ q, K = q + 4 := ⟨K - 4, by omega⟩
      have hx' := (hx K (by omega)).1
      have hu' := (hu K (by omega)).1
      have hv' := (hv K (by omega)).1
      have j3 : spec_l05Count.j3 (K + 1) l (i : Int) (j : Int) acc (m : Int) b = some x := by
        simp only [spec_l05Count.j3]
        cases b with
        | true => rw [if_pos rfl, hu', Option.bind_some, hv', Option.bind_some, w2]; exact hx'
        | false => rw [if_neg (by simp), w2]; exact hx'
      have j2 : spec_l05Count.j2 (K + 2) l (i : Int) (j : Int) acc (m : Int) r1 r2 = some x := by
        simp only [spec_l05Count.j2]
        rw [hpt i (by omega), hpt m (by omega), hpt j hj, cs]
        cases r1 with
        | false => rw [if_neg (by simp)]; rw [hb] at j3; simpa using j3
        | true =>
          cases r2 with
          | false => rw [if_pos rfl, if_neg (by simp)]; rw [hb] at j3; simpa using j3
          | true =>
            rw [if_pos rfl, if_pos rfl, if_pos (by omega), if_pos (by omega), if_pos (by omega), if_pos (by omega), if_pos (by omega), if_pos (by omega), Option.bind_some]
            rw [hb] at j3; simpa using j3
      have j1 : spec_l05Count.j1 (K + 3) l (i : Int) (j : Int) acc (m : Int) r1 = some x := by
        simp only [spec_l05Count.j1]
        rw [w2]
        rcases b2 with ⟨q, rfl⟩ | ⟨q, q'⟩
        · rw [if_pos (by omega)]; exact j2
        · rw [if_neg (by omega), q' (K + 2) (by omega), Option.bind_some]; exact j2
      simp only [spec_l05Count.l0]
      rw [if_pos (by omega), w1]
      rcases a2 with ⟨q, rfl⟩ | ⟨q, q'⟩
      · rw [if_pos (by omega)]; exact j1
      · rw [if_neg (by omega), q' (K + 3) (by omega), Option.bind_some]; exact j1
    · obtain ⟨K, rfl⟩ : ∃ q, K = q + 2 := ⟨K - 2, by omega⟩
      have hx' := (hx K (by omega)).2
      have hu' := (hu K (by omega)).2
      have hv' := (hv K (by omega)).2
      have j1 : impl_CountTriangulations_2.j1 (K + 1) (i : Int) (j : Int) (l.length : Int) l acc (m : Int) b = some x := by
        simp only [impl_CountTriangulations_2.j1]
        cases b with
        | true => rw [if_pos rfl, hu', Option.bind_some, hv', Option.bind_some, w2]; exact hx'
        | false => rw [if_neg (by simp), w2]; exact hx'
      simp only [impl_CountTriangulations_2.l0]
      rw [if_pos (by omega), a1 (K + 1) (by omega), Option.bind_some, b1 (K + 1) (by omega), hpt i (by omega), hpt m (by omega), hpt j hj, ci]
      cases r1 with
      | false => rw [if_neg (by simp)]; rw [hb] at j1; simpa using j1
      | true =>
        rw [if_pos rfl, Option.bind_some]
        cases r2 with
        | false => rw [if_neg (by simp)]; rw [hb] at j1; simpa using j1
        | true =>
          rw [if_pos rfl, if_pos (by omega), if_pos (by omega), if_pos (by omega), if_pos (by omega), if_pos (by omega), if_pos (by omega), Option.bind_some]
          rw [hb] at j1; simpa using j1
theorem count_is {l : List Pt} (hP : Poly l) (d : Nat) : ∀ i j, i < j → j < l.length → j - i = d → CountIs l i j := by
  have hn := hP.n10
  induction d using Nat.strongRecOn with
  | _ d ih =>
    intro i j hij hj hd
    have w1 : wrap64 ((i : Int) + 1) = (i : Int) + 1 := wrap64_id (by omega) (by omega)
    by_cases c : j = i + 1
    · refine ⟨1, fun K hK => ?_⟩
      obtain ⟨K, rfl⟩ : ∃ q, K = q + 1 := ⟨K - 1, by omega⟩
      simp only [spec_l05Count.f, impl_CountTriangulations_2.f]
      rw [w1, if_pos (by omega), if_pos (by omega)]
      exact ⟨rfl, rfl⟩
    · obtain ⟨v, hv⟩ := count_l0 hP hij hj (fun a b hab hb hlt => ih (b - a) (by omega) a b hab hb rfl) (j - i - 1) (i + 1) 0 (by omega) (by omega)
      push_cast at hv
      refine ⟨v, fun K hK => ?_⟩
      obtain ⟨K, rfl⟩ : ∃ q, K = q + 1 := ⟨K - 1, by omega⟩
      simp only [spec_l05Count.f, impl_CountTriangulations_2.f]
      rw [w1, if_neg (by omega), if_neg (by omega)]
      exact hv K (by omega)
theorem both_CountTriangulations (l : List Pt) (hl : l.length ≤ 1048576) (k : Nat) (hk : 1048576 < k) : ∃ r, spec_CountTriangulations.f k l = some r ∧ impl_CountTriangulations.f k l = some r := by
  unfold spec_CountTriangulations.f impl_CountTriangulations.f
  rw [spec_PolygonOk_eq _ (by omega) _ (by omega), impl_PolygonOk_some]
  simp only [Option.bind_some]
  by_cases hp : impl_PolygonOk.ok l = true
  · have hP := (impl_ok_iff _).1 hp
    have h3 := hP.n3
    have h10 := hP.n10
    rw [if_pos hp, if_pos hp]
    by_cases c : (l.length : Int) > 8
    · rw [if_pos c, if_pos c]; exact ⟨_, rfl, rfl⟩
    · rw [if_neg c, if_neg c, wrap64_id (x := (l.length : Int) - 1) (by omega) (by omega)]
      obtain ⟨v, hv⟩ := count_is hP _ 0 (l.length - 1) (by omega) (by omega) rfl
      obtain ⟨e1, e2⟩ := hv k (by omega)
      rw [show ((l.length - 1 : Nat) : Int) = (l.length : Int) - 1 by omega, show ((0 : Nat) : Int) = 0 from rfl] at e1 e2
      rw [e1, e2]
      exact ⟨v, rfl, rfl⟩
  · rw [if_neg hp, if_neg hp]; exact ⟨_, rfl, rfl⟩
end Go.Proofs.Ytlccpkggdmngaaa.G
