/- Points in a line: one is between the others; a polygon's straight corners. The bounds stand in each theorem. -/
import Derived.Test.YtlfifpkigapabaaPA
namespace Go.Proofs.Ytlfifpkigapabaa.G
open Go.RowKit Go.Proofs.YtlfifpkigapabaaW.PrintWords Go.Proofs.YtlfifpkigapabaaW.PrintLast Go.Proofs.YtlfifpkigapabaaW.PrintMore
set_option linter.unusedSimpArgs false
set_option linter.unusedVariables false
theorem onP_iff {a b p : Pt} : onP a b p = true ↔ crossP a b p = 0 ∧ mn a.f0 b.f0 ≤ p.f0 ∧ p.f0 ≤ mx a.f0 b.f0 ∧ mn a.f1 b.f1 ≤ p.f1 ∧ p.f1 ≤ mx a.f1 b.f1 := by
  unfold onP onI crossP; simp only [Bool.and_eq_true, decide_eq_true_eq, and_assoc]
theorem crossP_perm (a b p : Pt) : crossP a b p = - crossP a p b := by unfold crossP crossI; grind
theorem crossP_cyc (a b p : Pt) : crossP a b p = crossP b p a := by unfold crossP crossI; grind
theorem crossP_swap (a b p : Pt) : crossP a b p = - crossP b a p := by unfold crossP crossI; grind
theorem onP_left (a b : Pt) : onP a b a = true := by
  rw [onP_iff]; refine ⟨by unfold crossP crossI; grind, ?_⟩; unfold mn mx; omega
theorem onP_right (a b : Pt) : onP a b b = true := by
  rw [onP_iff]; refine ⟨by unfold crossP crossI; grind, ?_⟩; unfold mn mx; omega
theorem onP_symm (a b p : Pt) : onP a b p = onP b a p := by
  rw [Bool.eq_iff_iff, onP_iff, onP_iff, crossP_swap a b p]; unfold mn mx; omega
theorem pos_of_mul_eq {u v a b : Int} (h : u * b = a * v) (hu : 0 < u) (hv : 0 < v) (ha : 0 < a) : 0 < b := by
  rcases Int.lt_trichotomy b 0 with hb | hb | hb
  · have := Int.mul_neg_of_pos_of_neg hu hb
    have := Int.mul_pos ha hv
    omega
  · subst hb; have := Int.mul_pos ha hv; simp at h; omega
  · exact hb
theorem le_of_mul_eq {u v a b : Int} (h : u * b = a * v) (hu : 0 < u) (huv : u ≤ v) (hb : 0 ≤ b) (ha : 0 ≤ a) : a ≤ b := by
  rcases Int.lt_or_le b a with hab | hab
  · have h1 : u * b ≤ v * b := Int.mul_le_mul_of_nonneg_right huv hb
    have h2 : v * b < v * a := Int.mul_lt_mul_of_pos_left hab (by omega)
    have h3 : a * v = v * a := Int.mul_comm a v
    omega
  · exact hab
def oppS (u v : Int) : Prop := (u ≤ 0 ∧ 0 ≤ v) ∨ (v ≤ 0 ∧ 0 ≤ u)
def leS (u v : Int) : Prop := (0 ≤ u ∧ u ≤ v) ∨ (v ≤ u ∧ u ≤ 0)
theorem line_key {u0 u1 v0 v1 : Int} (h0 : 0 ≤ u0) (h1 : 0 ≤ u1) (h : u0 * v1 = u1 * v0) : (oppS u0 v0 ∧ oppS u1 v1) ∨ (leS u0 v0 ∧ leS u1 v1) ∨ (leS v0 u0 ∧ leS v1 u1) := by
  unfold oppS leS
  by_cases z0 : u0 = 0
  · subst z0
    rw [Int.zero_mul] at h
    rcases Int.mul_eq_zero.1 h.symm with z | z <;> omega
  · by_cases z1 : u1 = 0
    · subst z1
      rw [Int.zero_mul] at h
      rcases Int.mul_eq_zero.1 h with z | z <;> omega
    · have p0 : 0 < u0 := by omega
      have p1 : 0 < u1 := by omega
      rcases Int.lt_trichotomy v0 0 with hv | hv | hv
      · have h' : u0 * (-v1) = u1 * (-v0) := by rw [Int.mul_neg, Int.mul_neg, h]
        have := pos_of_mul_eq h' p0 (by omega) p1
        omega
      · subst hv
        rw [Int.mul_zero] at h
        rcases Int.mul_eq_zero.1 h with z | z <;> omega
      · have q := pos_of_mul_eq h p0 hv p1
        rcases Int.le_total u0 v0 with hle | hle
        · have := le_of_mul_eq h p0 hle (by omega) (by omega)
          omega
        · have h' : v0 * u1 = v1 * u0 := by rw [Int.mul_comm v0, Int.mul_comm v1, h]
          have := le_of_mul_eq h' hv hle (by omega) (by omega)
          omega
theorem line_all {u0 u1 v0 v1 : Int} (h : u0 * v1 = u1 * v0) : (oppS u0 v0 ∧ oppS u1 v1) ∨ (leS u0 v0 ∧ leS u1 v1) ∨ (leS v0 u0 ∧ leS v1 u1) := by
  rcases Int.le_total 0 u0 with h0 | h0 <;> rcases Int.le_total 0 u1 with h1 | h1
  · exact line_key h0 h1 h
  · have := line_key (u0 := u0) (u1 := -u1) (v0 := v0) (v1 := -v1) h0 (by omega) (by rw [Int.mul_neg, Int.neg_mul, h])
    unfold oppS leS at *; omega
  · have := line_key (u0 := -u0) (u1 := u1) (v0 := -v0) (v1 := v1) (by omega) h1 (by rw [Int.mul_neg, Int.neg_mul, h])
    unfold oppS leS at *; omega
  · have := line_key (u0 := -u0) (u1 := -u1) (v0 := -v0) (v1 := -v1) (by omega) (by omega) (by rw [Int.neg_mul_neg, Int.neg_mul_neg, h])
    unfold oppS leS at *; omega
/-- Of three points in a line, one is between the others. -/
theorem line_between {a x b : Pt} (h : crossP a x b = 0) : onP a b x = true ∨ onP x b a = true ∨ onP a x b = true := by
  have h0 : (a.f0 - x.f0) * (b.f1 - x.f1) = (a.f1 - x.f1) * (b.f0 - x.f0) := by unfold crossP crossI at h; grind
  have c1 : crossP a b x = 0 := by unfold crossP crossI at *; grind
  have c2 : crossP x b a = 0 := by unfold crossP crossI at *; grind
  rw [onP_iff, onP_iff, onP_iff]
  have := line_all h0
  unfold oppS leS at this
  unfold mn mx
  rcases this with t | t | t
  · refine Or.inl ⟨c1, ?_⟩; omega
  · refine Or.inr (Or.inl ⟨c2, ?_⟩); omega
  · refine Or.inr (Or.inr ⟨h, ?_⟩); omega
theorem touch {a b c d : Pt} (h : meetI a b c d = 1) {x y : Pt} (hx : x ∈ shared a b c d) (hy : y ∈ shared a b c d) : x = y := by
  unfold meetI at h
  by_cases ht : two (shared a b c d)
  · rw [if_pos ht] at h; omega
  · exact Classical.byContradiction fun e => ht ⟨x, hx, y, hy, e⟩
theorem mem_shared_c {a b c d : Pt} (h : onP a b c = true) : c ∈ shared a b c d := by simp [shared, h]
theorem mem_shared_d {a b c d : Pt} (h : onP a b d = true) : d ∈ shared a b c d := by simp [shared, h]
theorem mem_shared_a {a b c d : Pt} (h : onP c d a = true) : a ∈ shared a b c d := by simp [shared, h]
theorem mem_shared_b {a b c d : Pt} (h : onP c d b = true) : b ∈ shared a b c d := by simp [shared, h]
/-- A polygon's sides do not go back over themselves. -/
theorem no_back {l : List Pt} (hp : Poly l) {i : Nat} (hi : i < l.length) : onP (pt l i) (pt l (i + 1)) (pt l (i + 2)) = false ∧ onP (pt l (i + 1)) (pt l (i + 2)) (pt l i) = false := by
  have h3 := hp.n3
  have ne0 : pt l i ≠ pt l (i + 1) := hp.ne i hi
  have ne1 : pt l (i + 1) ≠ pt l (i + 2) := by
    by_cases h : i + 1 < l.length
    · exact hp.ne (i + 1) h
    · have e : i + 1 = 0 + l.length := by omega
      have e2 : i + 2 = 1 + l.length := by omega
      rw [e, e2, pt_add, pt_add]; exact hp.ne 0 (by omega)
  by_cases h : i + 1 < l.length
  · have g := hp.good i (i + 1) (by omega) h
    unfold good at g
    rw [if_pos (show adj l.length i (i + 1) from Or.inl rfl)] at g
    constructor
    · rw [← Bool.not_eq_true]; intro ho
      exact ne1 (touch g (mem_shared_c (onP_right _ _)) (mem_shared_d ho))
    · rw [← Bool.not_eq_true]; intro ho
      exact ne0 (touch g (mem_shared_a ho) (mem_shared_b (onP_left _ _)))
  · have g := hp.good 0 i (by omega) hi
    unfold good at g
    rw [if_pos (show adj l.length 0 i from Or.inr ⟨rfl, by omega⟩)] at g
    have e : i + 1 = 0 + l.length := by omega
    have e2 : i + 2 = 1 + l.length := by omega
    rw [e, pt_add] at g ne0 ne1
    rw [e2, pt_add] at ne1
    rw [e, e2, pt_add, pt_add]
    constructor
    · rw [← Bool.not_eq_true]; intro ho
      exact ne1 (touch g (mem_shared_a (onP_right _ _)) (mem_shared_b ho))
    · rw [← Bool.not_eq_true]; intro ho
      exact ne0 (touch g (mem_shared_c ho) (mem_shared_d (onP_left _ _)))
theorem straight_iff {l : List Pt} (hp : Poly l) {i : Nat} (hi : i < l.length) : crossP (pt l i) (pt l (i + 1)) (pt l (i + 2)) = 0 ↔ onP (pt l i) (pt l (i + 2)) (pt l (i + 1)) = true := by
  constructor
  · intro h
    obtain ⟨n1, n2⟩ := no_back hp hi
    rcases line_between h with g | g | g
    · exact g
    · rw [g] at n2; cases n2
    · rw [g] at n1; cases n1
  · intro h
    have := (onP_iff.1 h).1
    unfold crossP crossI at *; grind
/-- The corners that are not straight. -/
def bent (l : List Pt) : Nat → List Pt
  | 0 => []
  | i + 1 => if crossP (pt l (i + l.length - 1)) (pt l i) (pt l (i + 1)) = 0 then bent l i else bent l i ++ [pt l i]
theorem bent_len (l : List Pt) : ∀ i, (bent l i).length ≤ i
  | 0 => by simp [bent]
  | i + 1 => by
    have := bent_len l i
    simp only [bent]; split
    · omega
    · simp; omega
theorem straight_prev {l : List Pt} (hp : Poly l) {i : Nat} (hi : i < l.length) : crossP (pt l (i + l.length - 1)) (pt l i) (pt l (i + 1)) = 0 ↔ onP (pt l (i + l.length - 1)) (pt l (i + 1)) (pt l i) = true := by
  have h3 := hp.n3
  by_cases h0 : i = 0
  · subst h0
    have := straight_iff hp (i := l.length - 1) (by omega)
    rw [show l.length - 1 + 1 = 0 + l.length by omega, show l.length - 1 + 2 = 1 + l.length by omega, pt_add, pt_add] at this
    rw [show 0 + l.length - 1 = l.length - 1 by omega]
    exact this
  · have := straight_iff hp (i := i - 1) (by omega)
    rw [show i - 1 + 1 = i by omega, show i - 1 + 2 = i + 1 by omega] at this
    rw [show i + l.length - 1 = i - 1 + l.length by omega, pt_add]
    exact this
end Go.Proofs.Ytlfifpkigapabaa.G
