/- The widest pair: both functions answer alike. The bounds stand in each theorem. -/
import Derived.Test.YtlceoghkhgihdaaPA
import Derived.Test.YtlceoghkhgihdaaF40
import Derived.Test.YtlceoghkhgihdaaF41
namespace Go.Proofs.Ytlceoghkhgihdaa.G
open Go.RowKit Go.Proofs.YtlceoghkhgihdaaW.PrintWords Go.Proofs.YtlceoghkhgihdaaW.PrintLast Go.Proofs.YtlceoghkhgihdaaW.PrintMore
set_option linter.unusedSimpArgs false
set_option linter.unusedVariables false
theorem sq_nonneg' (x : Int) : 0 ≤ x * x := by
  rcases Int.le_total 0 x with h | h
  · exact Int.mul_nonneg h h
  · exact Int.mul_nonneg_of_nonpos_of_nonpos h h
/-- The square between two corners. -/
def sqW (l : List Pt) (i j : Nat) : Int := (impl_square.f (pt l i).f0 (pt l i).f1 (pt l j).f0 (pt l j).f1).getD 0
theorem impl_sq_at (l : List Pt) (i j : Nat) : impl_square.f (pt l i).f0 (pt l i).f1 (pt l j).f0 (pt l j).f1 = some (sqW l i j) := rfl
theorem spec_sq_at {l : List Pt} (hok : ∀ p ∈ l, okp p = true) (h0 : 0 < l.length) (i j : Nat) : spec_SquareOf.f (pt l i).f0 (pt l i).f1 (pt l j).f0 (pt l j).f1 = some (sqW l i j) := by
  unfold spec_SquareOf.f
  rw [spec_PointOk_eq, spec_PointOk_eq, Option.bind_some, if_pos (show ok (pt l i).f0 (pt l i).f1 = true from hok _ (pt_mem l i h0)), Option.bind_some, if_pos (show ok (pt l j).f0 (pt l j).f1 = true from hok _ (pt_mem l j h0))]
  rfl
theorem sqW_nonneg {l : List Pt} (hok : ∀ p ∈ l, okp p = true) (h0 : 0 < l.length) (i j : Nat) : 0 ≤ sqW l i j := by
  have h1 := ok_iff.1 (hok _ (pt_mem l i h0))
  have h2 := ok_iff.1 (hok _ (pt_mem l j h0))
  unfold sqW impl_square.f
  simp only [Option.getD_some]
  rw [wrap64_id (x := (pt l i).f0 - (pt l j).f0) (by omega) (by omega), wrap64_id (x := (pt l i).f1 - (pt l j).f1) (by omega) (by omega)]
  have e1 := mul_bound (a := (pt l i).f0 - (pt l j).f0) (b := (pt l i).f0 - (pt l j).f0) (m := 40) (n := 40) (by omega) (by omega) (by omega) (by omega)
  have e2 := mul_bound (a := (pt l i).f1 - (pt l j).f1) (b := (pt l i).f1 - (pt l j).f1) (m := 40) (n := 40) (by omega) (by omega) (by omega) (by omega)
  have f1 : 0 ≤ ((pt l i).f0 - (pt l j).f0) * ((pt l i).f0 - (pt l j).f0) := sq_nonneg' _
  have f2 : 0 ≤ ((pt l i).f1 - (pt l j).f1) * ((pt l i).f1 - (pt l j).f1) := sq_nonneg' _
  rw [wrap64_id (x := ((pt l i).f0 - (pt l j).f0) * ((pt l i).f0 - (pt l j).f0)) (by omega) (by omega), wrap64_id (x := ((pt l i).f1 - (pt l j).f1) * ((pt l i).f1 - (pt l j).f1)) (by omega) (by omega), wrap64_id (by omega) (by omega)]
  omega
def WidL (l : List Pt) (e : Nat) : Prop := ∀ i, i + e = l.length → ∀ (k a b : Nat), a < l.length → b < l.length → e * 30 < k →
    ∃ r, spec_WidestPair.l0 k l (a : Int) (b : Int) (l.length : Int) (i : Int) = some r ∧ impl_WidestPair.l0 k l (a : Int) (b : Int) (sqW l a b) (l.length : Int) (i : Int) = some r
theorem widest_in {l : List Pt} (hok : ∀ p ∈ l, okp p = true) (hn : l.length ≤ 10) (h0 : 0 < l.length) {e : Nat} (ih : WidL l e) (d : Nat) : ∀ (j i : Nat), i + (e + 1) = l.length → j + d = l.length → i < j → ∀ (k a b : Nat), a < l.length → b < l.length → e * 30 + d + 1 < k →
        ∃ r, spec_WidestPair.l1 k l (a : Int) (b : Int) (i : Int) (j : Int) (l.length : Int) (i : Int) = some r ∧ impl_WidestPair.l1 k l (a : Int) (b : Int) (sqW l a b) (i : Int) (j : Int) (l.length : Int) (i : Int) = some r := by
  induction d with
  | zero =>
    intro j i hi hj hij k a b ha hb hk
    obtain ⟨k, rfl⟩ : ∃ m, k = m + 1 := ⟨k - 1, by omega⟩
    have wi : wrap64 ((i : Int) + 1) = ((i + 1 : Nat) : Int) := by rw [wrap64_id (by omega) (by omega)]; rfl
    simp only [spec_WidestPair.l1, impl_WidestPair.l1]
    rw [if_neg (by omega), if_neg (by omega), wi]
    exact ih (i + 1) (by omega) k a b ha hb (by omega)
  | succ d ihd =>
    intro j i hi hj hij k a b ha hb hk
    obtain ⟨k, rfl⟩ : ∃ m, k = m + 1 := ⟨k - 1, by omega⟩
    have wj : wrap64 ((j : Int) + 1) = ((j + 1 : Nat) : Int) := by rw [wrap64_id (by omega) (by omega)]; rfl
    simp only [spec_WidestPair.l1, impl_WidestPair.l1]
    rw [rd_pt l i (by omega), rd_pt l j (by omega), rd_pt l a ha, rd_pt l b hb, spec_sq_at hok h0, spec_sq_at hok h0, impl_sq_at, Option.bind_some, Option.bind_some, Option.bind_some, wj]
    rw [if_pos (by omega), if_pos (by omega), if_pos (by omega), if_pos (by omega), if_pos (by omega), if_pos (by omega), if_pos (by omega), if_pos (by omega)]
    by_cases hq : sqW l i j > sqW l a b
    · rw [if_pos hq, if_pos (by omega), if_pos (by omega), if_pos (by omega), if_pos (by omega), if_pos hq]
      exact ihd (j + 1) i hi (by omega) (by omega) k i j (by omega) (by omega) (by omega)
    · rw [if_neg hq, if_pos (by omega), if_pos (by omega), if_pos (by omega), if_pos (by omega), if_neg hq]
      exact ihd (j + 1) i hi (by omega) (by omega) k a b ha hb (by omega)
theorem widest_l {l : List Pt} (hok : ∀ p ∈ l, okp p = true) (hn : l.length ≤ 10) (h0 : 0 < l.length) : ∀ (e : Nat), WidL l e := by
  intro e
  induction e with
  | zero =>
    intro i hi k a b ha hb hk
    obtain ⟨k, rfl⟩ : ∃ m, k = m + 1 := ⟨k - 1, by omega⟩
    simp only [spec_WidestPair.l0, impl_WidestPair.l0]
    rw [if_neg (by omega), if_neg (by omega)]
    exact ⟨_, rfl, rfl⟩
  | succ e ih =>
    intro i hi k a b ha hb hk
    obtain ⟨k, rfl⟩ : ∃ m, k = m + 1 := ⟨k - 1, by omega⟩
    have wi : wrap64 ((i : Int) + 1) = ((i + 1 : Nat) : Int) := by rw [wrap64_id (by omega) (by omega)]; rfl
    simp only [spec_WidestPair.l0, impl_WidestPair.l0]
    rw [if_pos (by omega), if_pos (by omega), wi]
    exact widest_in hok hn h0 ih e (i + 1) i hi (by omega) (by omega) k a b ha hb (by omega)
theorem widest_eq {l : List Pt} (hp : Poly l) (k : Nat) (hk : 1000 < k) : ∃ r, spec_WidestPair.l0 k l 0 1 (l.length : Int) 0 = some r ∧ impl_WidestPair.l0 k l (-1) (-1) (-1) (l.length : Int) 0 = some r := by
  have h3 := hp.n3
  have h10 := hp.n10
  have hok := hp.okp
  have h0 : 0 < l.length := by omega
  obtain ⟨k, rfl⟩ : ∃ m, k = m + 2 := ⟨k - 2, by omega⟩
  have w1 : wrap64 (0 + 1) = 1 := wrap64_id (by omega) (by omega)
  have w2 : wrap64 (1 + 1) = 2 := wrap64_id (by omega) (by omega)
  simp only [spec_WidestPair.l0, impl_WidestPair.l0]
  rw [w1, if_pos (by omega), if_pos (by omega)]
  simp only [spec_WidestPair.l1, impl_WidestPair.l1]
  have p0 : rd_T26 l 0 = pt l 0 := rd_pt l 0 h0
  have p1 : rd_T26 l 1 = pt l 1 := rd_pt l 1 (by omega)
  rw [p0, p1, spec_sq_at hok h0, impl_sq_at, Option.bind_some, Option.bind_some, Option.bind_some, w2]
  rw [if_pos (by omega), if_pos (by omega), if_pos (by omega), if_pos (by omega), if_pos (by omega), if_pos (by omega), if_pos (by omega), if_pos (by omega)]
  have hs := sqW_nonneg hok h0 0 1
  rw [if_neg (by omega), if_pos (by omega), if_pos (by omega), if_pos (by omega), if_pos (by omega), if_pos (by omega)]
  exact widest_in hok h10 h0 (widest_l hok h10 h0 (l.length - 1)) (l.length - 2) 2 0 (by omega) (by omega) (by omega) k 0 1 (by omega) (by omega) (by omega)
theorem both_WidestPair (l : List Pt) (hl : l.length ≤ 1048576) (k : Nat) (hk : 1048576 < k) : ∃ r, spec_WidestPair.f k l = some r ∧ impl_WidestPair.f k l = some r := by
  unfold spec_WidestPair.f impl_WidestPair.f
  rw [spec_PolygonOk_eq _ (by omega) _ (by omega), impl_PolygonOk_some]
  simp only [Option.bind_some]
  by_cases hp : impl_PolygonOk.ok l = true
  · rw [if_pos hp, if_pos hp]
    exact widest_eq ((impl_ok_iff _).1 hp) k (by omega)
  · rw [if_neg hp, if_neg hp]; exact ⟨_, rfl, rfl⟩
end Go.Proofs.Ytlceoghkhgihdaa.G
