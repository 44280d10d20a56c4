/- Inside of a polygon, by the reference. The bounds stand in each theorem. -/
import Derived.Test.YtlccpkggdmngaaaPA
import Derived.Test.YtlccpkggdmngaaaF105
import Derived.Test.YtlccpkggdmngaaaF111
namespace Go.Proofs.Ytlccpkggdmngaaa.G
open Go.RowKit Go.Proofs.YtlccpkggdmngaaaW.PrintWords Go.Proofs.YtlccpkggdmngaaaW.PrintLast Go.Proofs.YtlccpkggdmngaaaW.PrintMore
set_option linter.unusedSimpArgs false
set_option linter.unusedVariables false
/-- Whether a side is crossed by the ray to the left of x. -/
def tog (l : List Pt) (x : Pt) (i : Nat) : Bool :=
  (decide ((pt l i).f1 ≤ x.f1) && decide (x.f1 < (pt l (i + 1)).f1) && decide (0 < crossP (pt l i) (pt l (i + 1)) x)) ||
  (decide ((pt l (i + 1)).f1 ≤ x.f1) && decide (x.f1 < (pt l i).f1) && decide (crossP (pt l i) (pt l (i + 1)) x < 0))
def par (l : List Pt) (x : Pt) : Nat → Bool
  | 0 => false
  | i + 1 => if tog l x i = true then !par l x i else par l x i
def rimP (l : List Pt) (x : Pt) (i : Nat) : Bool := onP (pt l i) (pt l (i + 1)) x
theorem onrim_l0 {l : List Pt} (hok : ∀ p ∈ l, smp p) (hn : l.length ≤ 1000000) (h0 : 0 < l.length) {x : Pt} (hx : smp x) (d : Nat) : ∀ (k i : Nat), i + d = l.length → d < k →
    ∃ r, spec_l03OnRim.l0 k l l (l.length : Int) (i : Int) x.f0 x.f1 = some r ∧ (r = true ↔ ∃ j, i ≤ j ∧ j < l.length ∧ rimP l x j = true) := by
  induction d with
  | zero =>
    intro k i hi hk
    obtain ⟨k, rfl⟩ : ∃ m, k = m + 1 := ⟨k - 1, by omega⟩
    simp only [spec_l03OnRim.l0]; rw [if_neg (by omega)]
    exact ⟨false, rfl, by simp; intro j h1 h2; omega⟩
  | succ d ih =>
    intro k i hi hk
    obtain ⟨k, rfl⟩ : ∃ m, k = m + 1 := ⟨k - 1, by omega⟩
    have wi : wrap64 ((i : Int) + 1) = ((i + 1 : Nat) : Int) := by rw [wrap64_id (by omega) (by omega)]; rfl
    have li := Nat.mod_lt (i + 1) h0
    have s : ∀ k, smp (pt l k) := fun k => hok _ (pt_mem l k h0)
    simp only [spec_l03OnRim.l0]
    rw [wi, tmod_at, rd_mod l (i + 1) h0, rd_pt l i (by omega), if_pos (by omega), if_pos (by omega), if_pos (by omega), if_neg (by omega), if_pos (by omega), if_pos (by omega)]
    rw [spec_on_eq (s _).1 (s _).2 (s _).1 (s _).2 hx.1 hx.2, Option.bind_some]
    by_cases h : rimP l x i = true
    · rw [if_pos (show onI (pt l i).f0 (pt l i).f1 (pt l (i + 1)).f0 (pt l (i + 1)).f1 x.f0 x.f1 = true from h)]
      exact ⟨true, rfl, by simp; exact ⟨i, by omega, by omega, h⟩⟩
    · rw [if_neg (show ¬ onI (pt l i).f0 (pt l i).f1 (pt l (i + 1)).f0 (pt l (i + 1)).f1 x.f0 x.f1 = true from h)]
      obtain ⟨r, hr, hr'⟩ := ih k (i + 1) (by omega) (by omega)
      refine ⟨r, hr, hr'.trans ⟨fun ⟨j, h1, h2, h3⟩ => ⟨j, by omega, h2, h3⟩, fun ⟨j, h1, h2, h3⟩ => ?_⟩⟩
      by_cases hj : j = i
      · subst hj; exact absurd h3 h
      · exact ⟨j, by omega, h2, h3⟩
theorem inside_l0 {l : List Pt} (hok : ∀ p ∈ l, smp p) (hn : l.length ≤ 1000000) (h0 : 0 < l.length) {x : Pt} (hx : smp x) (d : Nat) : ∀ (k i : Nat), i + d = l.length → d < k →
    spec_l03Inside.l0 k l (par l x i) l (l.length : Int) (i : Int) x.f0 x.f1 = some (par l x l.length) := by
  induction d with
  | zero =>
    intro k i hi hk
    obtain ⟨k, rfl⟩ : ∃ m, k = m + 1 := ⟨k - 1, by omega⟩
    obtain rfl : i = l.length := by omega
    simp only [spec_l03Inside.l0]; rw [if_neg (by omega)]
  | succ d ih =>
    intro k i hi hk
    obtain ⟨k, rfl⟩ : ∃ m, k = m + 1 := ⟨k - 1, by omega⟩
    have wi : wrap64 ((i : Int) + 1) = ((i + 1 : Nat) : Int) := by rw [wrap64_id (by omega) (by omega)]; rfl
    have li := Nat.mod_lt (i + 1) h0
    have s : ∀ k, smp (pt l k) := fun k => hok _ (pt_mem l k h0)
    simp only [spec_l03Inside.l0]
    rw [wi, tmod_at, rd_mod l (i + 1) h0, rd_pt l i (by omega), if_pos (by omega), if_pos (by omega), if_pos (by omega), if_neg (by omega), if_pos (by omega), if_pos (by omega)]
    rw [spec_cross_eq (s _).1 (s _).2 (s _).1 (s _).2 hx.1 hx.2, Option.bind_some]
    rw [← ih k (i + 1) (by omega) (by omega)]
    have e : crossI (pt l i).f0 (pt l i).f1 (pt l (i + 1)).f0 (pt l (i + 1)).f1 x.f0 x.f1 = crossP (pt l i) (pt l (i + 1)) x := rfl
    rw [e]
    have ht : tog l x i = true ↔ ((pt l i).f1 ≤ x.f1 ∧ x.f1 < (pt l (i + 1)).f1 ∧ 0 < crossP (pt l i) (pt l (i + 1)) x) ∨ ((pt l (i + 1)).f1 ≤ x.f1 ∧ x.f1 < (pt l i).f1 ∧ crossP (pt l i) (pt l (i + 1)) x < 0) := by
      unfold tog; simp only [Bool.or_eq_true, Bool.and_eq_true, decide_eq_true_eq, and_assoc]
    simp only [par]
    generalize crossP (pt l i) (pt l (i + 1)) x = c at *
    generalize (pt l i).f1 = u at *
    generalize (pt l (i + 1)).f1 = v at *
    by_cases h1 : u > x.f1 <;> by_cases h2 : v > x.f1
    · rw [if_neg (by simp [h1, h2]), if_neg (fun h => by have := ht.1 h; omega)]
    · rw [if_pos (by simp [h1, h2]), if_neg (by omega), if_pos (by omega)]
      by_cases h3 : c < 0
      · rw [if_pos h3, if_pos (ht.2 (by omega))]
      · rw [if_neg h3, if_neg (fun h => by have := ht.1 h; omega)]
    · rw [if_pos (by simp [h1, h2]), if_pos (by omega)]
      by_cases h3 : c > 0
      · rw [if_pos h3, if_pos (ht.2 (by omega))]
      · rw [if_neg h3, if_neg (by omega), if_neg (fun h => by have := ht.1 h; omega)]
    · rw [if_neg (by simp [h1, h2]), if_neg (fun h => by have := ht.1 h; omega)]
theorem spec_onrim_eq {l : List Pt} (hp : Poly l) {x : Pt} (hx : smp x) (k : Nat) (hk : 11 < k) : ∃ r, spec_l03OnRim.f k l x.f0 x.f1 = some r ∧ (r = true ↔ ∃ j, j < l.length ∧ rimP l x j = true) := by
  have h3 := hp.n3
  have h10 := hp.n10
  obtain ⟨r, hr, hr'⟩ := onrim_l0 (fun p h => okp_smp (hp.okp p h)) (by omega) (by omega) hx l.length k 0 (by omega) (by omega)
  exact ⟨r, hr, by rw [hr']; simp⟩
open Classical in
theorem spec_inside_sm {l : List Pt} (hok : ∀ p ∈ l, smp p) (hn : l.length ≤ 1000) (h0 : 0 < l.length) {x : Pt} (hx : smp x) (k : Nat) (hk : 1000 < k) : spec_l03Inside.f k l x.f0 x.f1 = some (if ∃ j, j < l.length ∧ rimP l x j = true then true else par l x l.length) := by
  unfold spec_l03Inside.f spec_l03OnRim.f
  obtain ⟨r, hr, hr'⟩ := onrim_l0 hok (by omega) h0 hx l.length k 0 (by omega) (by omega)
  have hr2 : spec_l03OnRim.l0 k l l (l.length : Int) 0 x.f0 x.f1 = some r := hr
  have hr3 : r = true ↔ ∃ j, j < l.length ∧ rimP l x j = true := by rw [hr']; simp
  rw [hr2, Option.bind_some]
  by_cases h : r = true
  · rw [if_pos h, if_pos (hr3.1 h)]
  · rw [if_neg h, if_neg (fun g => h (hr3.2 g))]
    exact inside_l0 hok (by omega) h0 hx l.length k 0 (by omega) (by omega)
end Go.Proofs.Ytlccpkggdmngaaa.G
