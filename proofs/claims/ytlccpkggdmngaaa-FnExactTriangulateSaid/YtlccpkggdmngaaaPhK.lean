/- Inside of a polygon, by the program. The bounds stand in each theorem. -/
import Derived.Test.YtlccpkggdmngaaaPhJ
import Derived.Test.YtlccpkggdmngaaaF62
namespace Go.Proofs.Ytlccpkggdmngaaa.G
open Go.RowKit Go.Proofs.YtlccpkggdmngaaaW.PrintWords Go.Proofs.YtlccpkggdmngaaaW.PrintLast Go.Proofs.YtlccpkggdmngaaaW.PrintMore
set_option linter.unusedSimpArgs false
set_option linter.unusedVariables false
open Classical in
theorem isin_l0 {l : List Pt} (hok : ∀ p ∈ l, smp p) (hn : l.length ≤ 1000000) (h0 : 0 < l.length) {x : Pt} (hx : smp x) (d : Nat) : ∀ (k i : Nat), i + d = l.length → d < k →
    impl_isIn.l0 k l (par l x i) l (l.length : Int) (i : Int) x.f0 x.f1 = some (if ∃ j, i ≤ j ∧ j < l.length ∧ rimP l x j = true then true else par l x l.length) := by
  induction d with
  | zero =>
    intro k i hi hk
    obtain ⟨k, rfl⟩ : ∃ m, k = m + 1 := ⟨k - 1, by omega⟩
    obtain rfl : i = l.length := by omega
    simp only [impl_isIn.l0]; rw [if_neg (by omega), if_neg]
    rintro ⟨j, h1, h2, _⟩; omega
  | succ d ih =>
    intro k i hi hk
    obtain ⟨k, rfl⟩ : ∃ m, k = m + 1 := ⟨k - 1, by omega⟩
    have wi : wrap64 ((i : Int) + 1) = ((i + 1 : Nat) : Int) := by rw [wrap64_id (by omega) (by omega)]; rfl
    have li := Nat.mod_lt (i + 1) h0
    have s : ∀ k, smp (pt l k) := fun k => hok _ (pt_mem l k h0)
    simp only [impl_isIn.l0]
    rw [wi, tmod_at, rd_mod l (i + 1) h0, rd_pt l i (by omega), if_pos (by omega), if_pos (by omega), if_pos (by omega), if_neg (by omega), if_pos (by omega), if_pos (by omega)]
    rw [impl_on_eq (s _).1 (s _).2 (s _).1 (s _).2 hx.1 hx.2, Option.bind_some]
    by_cases hr : rimP l x i = true
    · rw [if_pos (show onI (pt l i).f0 (pt l i).f1 (pt l (i + 1)).f0 (pt l (i + 1)).f1 x.f0 x.f1 = true from hr), if_pos ⟨i, by omega, by omega, hr⟩]
    rw [if_neg (show ¬ onI (pt l i).f0 (pt l i).f1 (pt l (i + 1)).f0 (pt l (i + 1)).f1 x.f0 x.f1 = true from hr)]
    have er : (if ∃ j, i ≤ j ∧ j < l.length ∧ rimP l x j = true then true else par l x l.length) = (if ∃ j, i + 1 ≤ j ∧ j < l.length ∧ rimP l x j = true then true else par l x l.length) := by
      have : (∃ j, i ≤ j ∧ j < l.length ∧ rimP l x j = true) ↔ ∃ j, i + 1 ≤ j ∧ j < l.length ∧ rimP l x j = true := by
        constructor
        · rintro ⟨j, h1, h2, h3⟩
          by_cases hj : j = i
          · subst hj; exact absurd h3 hr
          · exact ⟨j, by omega, h2, h3⟩
        · rintro ⟨j, h1, h2, h3⟩
          exact ⟨j, by omega, h2, h3⟩
      by_cases hq : ∃ j, i + 1 ≤ j ∧ j < l.length ∧ rimP l x j = true
      · rw [if_pos hq, if_pos (this.2 hq)]
      · rw [if_neg hq, if_neg (fun g => hq (this.1 g))]
    rw [er, ← ih k (i + 1) (by omega) (by omega)]
    rw [impl_cross_eq (s _).1 (s _).2 (s _).1 (s _).2 hx.1 hx.2, impl_cross_eq (s _).1 (s _).2 (s _).1 (s _).2 hx.1 hx.2, Option.bind_some, Option.bind_some]
    have e : crossI (pt l i).f0 (pt l i).f1 (pt l (i + 1)).f0 (pt l (i + 1)).f1 x.f0 x.f1 = crossP (pt l i) (pt l (i + 1)) x := rfl
    have e' : crossI (pt l (i + 1)).f0 (pt l (i + 1)).f1 (pt l i).f0 (pt l i).f1 x.f0 x.f1 = - crossP (pt l i) (pt l (i + 1)) x := by unfold crossP crossI; grind
    rw [e, e']
    have ht : tog l x i = true ↔ ((pt l i).f1 ≤ x.f1 ∧ x.f1 < (pt l (i + 1)).f1 ∧ 0 < crossP (pt l i) (pt l (i + 1)) x) ∨ ((pt l (i + 1)).f1 ≤ x.f1 ∧ x.f1 < (pt l i).f1 ∧ crossP (pt l i) (pt l (i + 1)) x < 0) := by
      unfold tog; simp only [Bool.or_eq_true, Bool.and_eq_true, decide_eq_true_eq, and_assoc]
    simp only [par]
    generalize crossP (pt l i) (pt l (i + 1)) x = c at *
    generalize (pt l i).f1 = u at *
    generalize (pt l (i + 1)).f1 = v at *
    by_cases h : tog l x i = true
    · rw [if_pos h]
      have := ht.1 h
      by_cases h1 : u > v
      · rw [if_pos h1, if_pos (by omega), if_pos (by omega), if_pos (by omega)]
      · rw [if_neg h1, if_pos (by omega), if_pos (by omega), if_pos (by omega)]
    · rw [if_neg h]
      have hn : ¬ _ := fun g => h (ht.2 g)
      by_cases h1 : u > v
      · rw [if_pos h1]
        by_cases h2 : v ≤ x.f1
        · rw [if_pos h2]
          by_cases h3 : x.f1 < u
          · rw [if_pos h3, if_neg (by omega)]
          · rw [if_neg h3]
        · rw [if_neg h2]
      · rw [if_neg h1]
        by_cases h2 : u ≤ x.f1
        · rw [if_pos h2]
          by_cases h3 : x.f1 < v
          · rw [if_pos h3, if_neg (by omega)]
          · rw [if_neg h3]
        · rw [if_neg h2]
open Classical in
theorem impl_isIn_eq {l : List Pt} (hp : Poly l) {x : Pt} (hx : smp x) (k : Nat) (hk : 11 < k) : impl_isIn.f k l x.f0 x.f1 = some (if ∃ j, j < l.length ∧ rimP l x j = true then true else par l x l.length) := by
  have h3 := hp.n3
  have h10 := hp.n10
  unfold impl_isIn.f
  have := isin_l0 (fun p h => okp_smp (hp.okp p h)) (by omega) (by omega) hx l.length k 0 (by omega) (by omega)
  simpa [par] using this
open Classical in
theorem impl_isIn_sm {l : List Pt} (hok : ∀ p ∈ l, smp p) (hn : l.length ≤ 1000) (h0 : 0 < l.length) {x : Pt} (hx : smp x) (k : Nat) (hk : 1000 < k) : impl_isIn.f k l x.f0 x.f1 = some (if ∃ j, j < l.length ∧ rimP l x j = true then true else par l x l.length) := by
  unfold impl_isIn.f
  have := isin_l0 hok (by omega) h0 hx l.length k 0 (by omega) (by omega)
  simpa [par] using this
end Go.Proofs.Ytlccpkggdmngaaa.G
