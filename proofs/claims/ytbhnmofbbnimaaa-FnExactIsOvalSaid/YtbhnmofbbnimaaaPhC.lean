/- Convex: both functions answer alike. The bounds stand in each theorem. -/
import Derived.Test.YtbhnmofbbnimaaaPA
import Derived.Test.YtbhnmofbbnimaaaF66
import Derived.Test.YtbhnmofbbnimaaaF69
namespace Go.Proofs.Ytbhnmofbbnimaaa.G
open Go.RowKit Go.Proofs.YtbhnmofbbnimaaaW.PrintWords Go.Proofs.YtbhnmofbbnimaaaW.PrintLast Go.Proofs.YtbhnmofbbnimaaaW.PrintMore
set_option linter.unusedSimpArgs false
set_option linter.unusedVariables false
theorem spec_convex_l0 {l : List Pt} (hok : ∀ p ∈ l, okp p = true) (hn : l.length ≤ 1000000) (h0 : 0 < l.length) (d : Nat) : ∀ (k i : Nat) (pos neg : Bool), i + d = l.length → d < k →
    ∃ r, spec_l04Convex.l0 k l (if neg = true then -1 else 0) (if pos = true then 1 else 0) (l.length : Int) l (l.length : Int) (i : Int) = some r ∧
      (r = true ↔ ¬ ((pos = true ∨ ∃ x, i ≤ x ∧ x < l.length ∧ 0 < turnC l (x + l.length - 1)) ∧ (neg = true ∨ ∃ x, i ≤ x ∧ x < l.length ∧ turnC l (x + l.length - 1) < 0))) := by
  induction d with
  | zero =>
    intro k i pos neg hi hk
    obtain ⟨k, rfl⟩ : ∃ m, k = m + 1 := ⟨k - 1, by omega⟩
    simp only [spec_l04Convex.l0]
    rw [if_neg (by omega), low_high]
    refine ⟨_, rfl, ?_⟩
    have e1 : ¬ ∃ x, i ≤ x ∧ x < l.length ∧ 0 < turnC l (x + l.length - 1) := fun ⟨x, h1, h2, _⟩ => by omega
    have e2 : ¬ ∃ x, i ≤ x ∧ x < l.length ∧ turnC l (x + l.length - 1) < 0 := fun ⟨x, h1, h2, _⟩ => by omega
    simp only [e1, e2, or_false]
    cases pos <;> cases neg <;> simp
  | succ d ih =>
    intro k i pos neg hi hk
    obtain ⟨k, rfl⟩ : ∃ m, k = m + 1 := ⟨k - 1, by omega⟩
    have wi : wrap64 ((i : Int) + 1) = ((i + 1 : Nat) : Int) := by rw [wrap64_id (by omega) (by omega)]; rfl
    have li := Nat.mod_lt (i + 1) h0
    have lp := Nat.mod_lt (i + l.length - 1) h0
    have s : ∀ k, smp (pt l k) := fun k => okp_smp (hok _ (pt_mem l k h0))
    simp only [spec_l04Convex.l0]
    rw [wi, prev_at l i (by omega) hn, tmod_at, rd_mod l (i + 1) h0, rd_mod l (i + l.length - 1) h0, rd_pt l i (by omega), if_pos (by omega), if_pos (by omega), if_pos (by omega), if_neg (by omega), if_pos (by omega), if_pos (by omega), if_pos (by omega), if_pos (by omega)]
    rw [spec_cross_eq (s _).1 (s _).2 (s _).1 (s _).2 (s _).1 (s _).2, Option.bind_some, spec_sign_eq, Option.bind_some]
    have ec : crossI (pt l (i + l.length - 1)).f0 (pt l (i + l.length - 1)).f1 (pt l i).f0 (pt l i).f1 (pt l (i + 1)).f0 (pt l (i + 1)).f1 = turnC l (i + l.length - 1) := by
      unfold turnC crossP
      rw [show i + l.length - 1 + 1 = i + l.length by omega, show i + l.length - 1 + 2 = i + 1 + l.length by omega, pt_add, pt_add]
    rw [ec, sgn_mn, sgn_mx]
    obtain ⟨r, hr, hr'⟩ := ih k (i + 1) (pos || decide (turnC l (i + l.length - 1) > 0)) (neg || decide (turnC l (i + l.length - 1) < 0)) (by omega) (by omega)
    refine ⟨r, hr, hr'.trans (not_congr (and_congr ?_ ?_))⟩
    · rw [Bool.or_eq_true, decide_eq_true_eq, or_assoc]
      refine or_congr Iff.rfl ⟨fun h => ?_, fun ⟨x, h1, h2, h3⟩ => ?_⟩
      · rcases h with h | ⟨x, h1, h2, h3⟩
        · exact ⟨i, by omega, by omega, h⟩
        · exact ⟨x, by omega, h2, h3⟩
      · by_cases hx : x = i
        · subst hx; exact Or.inl h3
        · exact Or.inr ⟨x, by omega, h2, h3⟩
    · rw [Bool.or_eq_true, decide_eq_true_eq, or_assoc]
      refine or_congr Iff.rfl ⟨fun h => ?_, fun ⟨x, h1, h2, h3⟩ => ?_⟩
      · rcases h with h | ⟨x, h1, h2, h3⟩
        · exact ⟨i, by omega, by omega, h⟩
        · exact ⟨x, by omega, h2, h3⟩
      · by_cases hx : x = i
        · subst hx; exact Or.inl h3
        · exact Or.inr ⟨x, by omega, h2, h3⟩
theorem impl_convex_l0 {l : List Pt} (hok : ∀ p ∈ l, okp p = true) (hn : l.length ≤ 1000000) (h0 : 0 < l.length) (d : Nat) : ∀ (k i : Nat) (pos neg : Bool), i + d = l.length → d < k →
    ∃ r, impl_IsConvex.l0 k l pos neg (l.length : Int) (i : Int) = some r ∧
      (r = true ↔ ¬ ((pos = true ∨ ∃ x, i ≤ x ∧ x < l.length ∧ 0 < turnC l x) ∧ (neg = true ∨ ∃ x, i ≤ x ∧ x < l.length ∧ turnC l x < 0))) := by
  induction d with
  | zero =>
    intro k i pos neg hi hk
    obtain ⟨k, rfl⟩ : ∃ m, k = m + 1 := ⟨k - 1, by omega⟩
    simp only [impl_IsConvex.l0]
    rw [if_neg (by omega), pos_neg]
    refine ⟨_, rfl, ?_⟩
    have e1 : ¬ ∃ x, i ≤ x ∧ x < l.length ∧ 0 < turnC l x := fun ⟨x, h1, h2, _⟩ => by omega
    have e2 : ¬ ∃ x, i ≤ x ∧ x < l.length ∧ turnC l x < 0 := fun ⟨x, h1, h2, _⟩ => by omega
    simp only [e1, e2, or_false]
    cases pos <;> cases neg <;> simp
  | succ d ih =>
    intro k i pos neg hi hk
    obtain ⟨k, rfl⟩ : ∃ m, k = m + 1 := ⟨k - 1, by omega⟩
    have wi : wrap64 ((i : Int) + 1) = ((i + 1 : Nat) : Int) := by rw [wrap64_id (by omega) (by omega)]; rfl
    have wi2 : wrap64 ((i : Int) + 2) = ((i + 2 : Nat) : Int) := by rw [wrap64_id (by omega) (by omega)]; rfl
    have li := Nat.mod_lt (i + 1) h0
    have li2 := Nat.mod_lt (i + 2) h0
    have s : ∀ k, smp (pt l k) := fun k => okp_smp (hok _ (pt_mem l k h0))
    simp only [impl_IsConvex.l0]
    rw [wi, wi2, tmod_at, tmod_at, rd_mod l (i + 1) h0, rd_mod l (i + 2) h0, rd_pt l i (by omega), if_pos (by omega), if_pos (by omega), if_pos (by omega), if_neg (by omega), if_pos (by omega), if_pos (by omega), if_pos (by omega), if_pos (by omega)]
    rw [impl_cross_eq (s _).1 (s _).2 (s _).1 (s _).2 (s _).1 (s _).2, Option.bind_some, impl_sign_eq, Option.bind_some]
    have ec : crossI (pt l i).f0 (pt l i).f1 (pt l (i + 1)).f0 (pt l (i + 1)).f1 (pt l (i + 2)).f0 (pt l (i + 2)).f1 = turnC l i := rfl
    have g1 : decide (sgn (turnC l i) < 0) = decide (turnC l i < 0) := by
      rw [decide_eq_decide]; unfold sgn; split; omega; split <;> omega
    have g2 : decide (sgn (turnC l i) > 0) = decide (turnC l i > 0) := by
      rw [decide_eq_decide]; unfold sgn; split; omega; split <;> omega
    rw [ec, g1, g2]
    obtain ⟨r, hr, hr'⟩ := ih k (i + 1) (pos || decide (turnC l i > 0)) (neg || decide (turnC l i < 0)) (by omega) (by omega)
    refine ⟨r, ?_, hr'.trans (not_congr (and_congr ?_ ?_))⟩
    · rw [← hr]; cases pos <;> cases neg <;> simp
    · rw [Bool.or_eq_true, decide_eq_true_eq, or_assoc]
      refine or_congr Iff.rfl ⟨fun h => ?_, fun ⟨x, h1, h2, h3⟩ => ?_⟩
      · rcases h with h | ⟨x, h1, h2, h3⟩
        · exact ⟨i, by omega, by omega, h⟩
        · exact ⟨x, by omega, h2, h3⟩
      · by_cases hx : x = i
        · subst hx; exact Or.inl h3
        · exact Or.inr ⟨x, by omega, h2, h3⟩
    · rw [Bool.or_eq_true, decide_eq_true_eq, or_assoc]
      refine or_congr Iff.rfl ⟨fun h => ?_, fun ⟨x, h1, h2, h3⟩ => ?_⟩
      · rcases h with h | ⟨x, h1, h2, h3⟩
        · exact ⟨i, by omega, by omega, h⟩
        · exact ⟨x, by omega, h2, h3⟩
      · by_cases hx : x = i
        · subst hx; exact Or.inl h3
        · exact Or.inr ⟨x, by omega, h2, h3⟩
theorem convex_eq {l : List Pt} (hok : ∀ p ∈ l, okp p = true) (hn : l.length ≤ 1000000) (h0 : 0 < l.length) (k : Nat) (hk : l.length < k) : ∃ r, spec_l04Convex.f k l = some r ∧ impl_IsConvex.l0 k l false false (l.length : Int) 0 = some r ∧ (r = true ↔ ¬ ((∃ x, x < l.length ∧ 0 < turnC l x) ∧ (∃ x, x < l.length ∧ turnC l x < 0))) := by
  obtain ⟨r, hr, hr'⟩ := spec_convex_l0 hok hn h0 l.length k 0 false false (by omega) hk
  obtain ⟨q, hq, hq'⟩ := impl_convex_l0 hok hn h0 l.length k 0 false false (by omega) hk
  have e1 := around_iff (P := fun i => 0 < turnC l i) h0 (fun i => by rw [turnC_add])
  have e2 := around_iff (P := fun i => turnC l i < 0) h0 (fun i => by rw [turnC_add])
  simp only [Bool.false_eq_true, false_or, Nat.zero_le, true_and] at hr' hq'
  have : r = q := by rw [Bool.eq_iff_iff, hr', hq', e1, e2]
  subst this
  exact ⟨r, hr, hq, hq'⟩
theorem both_IsConvex (l : List Pt) (hl : l.length ≤ 1048576) (k : Nat) (hk : 1048576 < k) : ∃ r, spec_IsConvex.f k l = some r ∧ impl_IsConvex.f k l = some r := by
  unfold spec_IsConvex.f impl_IsConvex.f
  rw [spec_PolygonOk_eq _ (by omega) _ (by omega), impl_PolygonOk_some]
  simp only [Option.bind_some]
  by_cases hp : impl_PolygonOk.ok l = true
  · rw [if_pos hp, if_pos hp]
    replace hp := (impl_ok_iff _).1 hp
    have h3 := hp.n3
    have h10 := hp.n10
    obtain ⟨r, e1, e2, _⟩ := convex_eq hp.okp (by omega) (by omega) k (by omega)
    rw [e1, e2]
    exact ⟨_, rfl, rfl⟩
  · rw [if_neg hp, if_neg hp]; exact ⟨_, rfl, rfl⟩
end Go.Proofs.Ytbhnmofbbnimaaa.G
