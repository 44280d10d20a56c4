/- Diagonals: the program. The bounds stand in each theorem. -/
import Derived.Test.YtlccpkggdmngaaaPqD
import Derived.Test.YtlccpkggdmngaaaPhK
import Derived.Test.YtlccpkggdmngaaaF74
namespace Go.Proofs.Ytlccpkggdmngaaa.G
open Go.RowKit Go.Proofs.YtlccpkggdmngaaaW.PrintWords Go.Proofs.YtlccpkggdmngaaaW.PrintLast Go.Proofs.YtlccpkggdmngaaaW.PrintMore
set_option linter.unusedSimpArgs false
set_option linter.unusedVariables false
theorem idiag_l1 {l : List Pt} (hP : Few l) {a b : Nat} (ha : a < l.length) (hb : b < l.length) (d : Nat) : ∀ (k i : Nat), i + d = l.length → 1001 + d < k → impl_isDiagonal.l1 k l (a : Int) (b : Int) (dblL (l.take i)) l (l.length : Int) (i : Int) = some (midIn l a b) := by
  have h3 := hP.n3
  have h10 := hP.n10
  have h0 : 0 < l.length := by omega
  have hd := dblL_length l
  have a1 : ((0 : Int) ≤ (a : Int)) = True := by rw [eq_iff_iff, iff_true]; omega
  have a2 : ((a : Int) < (l.length : Int)) = True := by rw [eq_iff_iff, iff_true]; omega
  have b1 : ((0 : Int) ≤ (b : Int)) = True := by rw [eq_iff_iff, iff_true]; omega
  have b2 : ((b : Int) < (l.length : Int)) = True := by rw [eq_iff_iff, iff_true]; omega
  induction d with
  | zero =>
    intro k i hi hk
    obtain ⟨k, rfl⟩ : ∃ m, k = m + 1 := ⟨k - 1, by omega⟩
    have c1 : ((i : Int) < (l.length : Int)) = False := by rw [eq_iff_iff, iff_false]; omega
    simp only [impl_isDiagonal.l1, c1, a1, a2, b1, b2, if_true, if_false, rd_pt l a ha, rd_pt l b hb]
    rw [List.take_of_length_le (by omega)]
    have em := impl_isIn_sm (dblL_smp hP.okp) (by omega) (by omega) (midP_smp hP.okp h0 a b) k (by omega)
    have em' : impl_isIn.f k (dblL l) (wrap64 ((pt l a).f0 + (pt l b).f0)) (wrap64 ((pt l a).f1 + (pt l b).f1)) = some (midIn l a b) := em
    rw [em', Option.bind_some]
  | succ d ih =>
    intro k i hi hk
    obtain ⟨k, rfl⟩ : ∃ m, k = m + 1 := ⟨k - 1, by omega⟩
    have wi : wrap64 ((i : Int) + 1) = ((i + 1 : Nat) : Int) := by rw [wrap64_id (by omega) (by omega)]; rfl
    have hi' : i < l.length := by omega
    have c1 : ((i : Int) < (l.length : Int)) = True := by rw [eq_iff_iff, iff_true]; omega
    have c2 : ((0 : Int) ≤ (i : Int)) = True := by rw [eq_iff_iff, iff_true]; omega
    have hl : (dblL (l.take i)).length = i := by rw [dblL_length]; simp; omega
    have c3 : ((dblL (l.take i)).length < 8796093022208) = True := by rw [eq_iff_iff, iff_true]; omega
    simp only [impl_isDiagonal.l1, c1, c2, c3, if_true, wi, rd_at l i hi']
    have e : dblL (l.take i) ++ [⟨wrap64 (2 * l[i].f0), wrap64 (2 * l[i].f1)⟩] = dblL (l.take (i + 1)) := by
      unfold dblL; rw [List.take_succ_eq_append_getElem hi', List.map_append]; rfl
    rw [e]
    exact ih k (i + 1) (by omega) (by omega)
theorem idiag_l0 {l : List Pt} (hP : Few l) {a b : Nat} (ha : a < l.length) (hb : b < l.length) (d : Nat) : ∀ (k i : Nat), i + d = l.length → 2000 + 2 * d < k →
    ∃ r, impl_isDiagonal.l0 k l (a : Int) (b : Int) (l.length : Int) (l.length : Int) (i : Int) = some r ∧ (r = true ↔ (∀ j, i ≤ j → j < l.length → sideOk l a b j) ∧ midIn l a b = true) := by
  have h3 := hP.n3
  have h10 := hP.n10
  have h0 : 0 < l.length := by omega
  have s : ∀ k, smp (pt l k) := fun k => okp_smp (hP.okp _ (pt_mem l k h0))
  have hd := dblL_length l
  have a1 : ((0 : Int) ≤ (a : Int)) = True := by rw [eq_iff_iff, iff_true]; omega
  have a2 : ((a : Int) < (l.length : Int)) = True := by rw [eq_iff_iff, iff_true]; omega
  have b1 : ((0 : Int) ≤ (b : Int)) = True := by rw [eq_iff_iff, iff_true]; omega
  have b2 : ((b : Int) < (l.length : Int)) = True := by rw [eq_iff_iff, iff_true]; omega
  induction d with
  | zero =>
    intro k i hi hk
    obtain ⟨k, rfl⟩ : ∃ m, k = m + 1 := ⟨k - 1, by omega⟩
    have c1 : ((i : Int) < (l.length : Int)) = False := by rw [eq_iff_iff, iff_false]; omega
    simp only [impl_isDiagonal.l0, c1, if_false]
    have e := idiag_l1 hP ha hb l.length k 0 (by omega) (by omega)
    have e0 : dblL (l.take 0) = [] := by simp [dblL]
    rw [e0] at e
    refine ⟨_, e, ⟨fun h => ⟨fun j h1 h2 => by omega, h⟩, fun h => h.2⟩⟩
  | succ d ih =>
    intro k i hi hk
    obtain ⟨k, rfl⟩ : ∃ m, k = m + 2 := ⟨k - 2, by omega⟩
    have wi : wrap64 ((i : Int) + 1) = ((i + 1 : Nat) : Int) := by rw [wrap64_id (by omega) (by omega)]; rfl
    have hi' : i < l.length := by omega
    have c1 : ((i : Int) < (l.length : Int)) = True := by rw [eq_iff_iff, iff_true]; omega
    have c2 : ((0 : Int) ≤ (i : Int)) = True := by rw [eq_iff_iff, iff_true]; omega
    have li := Nat.mod_lt (i + 1) h0
    have c3 : ((l.length : Int) = 0) = False := by rw [eq_iff_iff, iff_false]; omega
    have c4 : ((0 : Int) ≤ (((i + 1) % l.length : Nat) : Int)) = True := by rw [eq_iff_iff, iff_true]; omega
    have c5 : ((((i + 1) % l.length : Nat) : Int) < (l.length : Int)) = True := by rw [eq_iff_iff, iff_true]; omega
    obtain ⟨r, hr, hr'⟩ := ih k (i + 1) (by omega) (by omega)
    have pos : sideOk l a b i → (r = true ↔ (∀ j, i ≤ j → j < l.length → sideOk l a b j) ∧ midIn l a b = true) := by
      intro hs
      refine hr'.trans ⟨fun h => ⟨fun j h1 h2 => ?_, h.2⟩, fun h => ⟨fun j h1 h2 => h.1 j (by omega) h2, h.2⟩⟩
      by_cases hj : j = i
      · subst hj; exact hs
      · exact h.1 j (by omega) h2
    have neg : ¬ sideOk l a b i → ((false : Bool) = true ↔ (∀ j, i ≤ j → j < l.length → sideOk l a b j) ∧ midIn l a b = true) := by
      intro hs
      exact ⟨fun h => by simp at h, fun h => absurd (h.1 i (by omega) hi') hs⟩
    have wm : ∀ B : Bool, (B = true ↔ nearS l.length a b i) → ∃ r, impl_isDiagonal.j2 (k + 1) l (a : Int) (b : Int) (l.length : Int) (i : Int) 0 (l.length : Int) (i : Int) B = some r ∧ (r = true ↔ (∀ j, i ≤ j → j < l.length → sideOk l a b j) ∧ midIn l a b = true) := by
      intro B hB
      simp only [impl_isDiagonal.j2, a1, a2, b1, b2, c1, c2, c3, c4, c5, if_true, if_false, wi, tmod_at, rd_mod l (i + 1) h0, rd_pt l i hi', rd_pt l a ha, rd_pt l b hb]
      rw [impl_meet_eq (s _) (s _) (s _) (s _), Option.bind_some, Option.bind_some]
      cases B
      · have hne : ¬ nearS l.length a b i := by rw [← hB]; simp
        rw [if_neg (by simp)]
        by_cases hm : meetI (pt l a) (pt l b) (pt l i) (pt l (i + 1)) = 0
        · rw [if_pos hm]
          exact ⟨r, hr, pos (by unfold sideOk; rw [if_neg hne]; exact hm)⟩
        · rw [if_neg hm]
          exact ⟨false, rfl, neg (by unfold sideOk; rw [if_neg hne]; exact hm)⟩
      · have hne : nearS l.length a b i := hB.1 rfl
        first | rw [if_pos trivial] | skip
        by_cases hm : meetI (pt l a) (pt l b) (pt l i) (pt l (i + 1)) = 1
        · rw [if_pos hm]
          exact ⟨r, hr, pos (by unfold sideOk; rw [if_pos hne]; exact hm)⟩
        · rw [if_neg hm]
          exact ⟨false, rfl, neg (by unfold sideOk; rw [if_pos hne]; exact hm)⟩
    have cast : ∀ x y : Nat, ((x : Int) = (y : Int)) ↔ x = y := fun x y => by omega
    simp only [impl_isDiagonal.l0, c1, c3, if_true, if_false, wi, tmod_at]
    by_cases n1 : i = a
    · rw [if_pos (by omega)]; exact wm true (by simp [nearS, n1])
    · rw [if_neg (by omega)]
      by_cases n2 : i = b
      · rw [if_pos (by omega)]; exact wm true (by simp [nearS, n2])
      · rw [if_neg (by omega)]
        by_cases n3 : (i + 1) % l.length = a
        · rw [if_pos (by omega)]; exact wm true (by simp [nearS, n3])
        · rw [if_neg (by omega)]
          refine wm _ ?_
          rw [beq_iff_eq, cast]
          exact ⟨fun h => Or.inr (Or.inr (Or.inr h)), fun h => by rcases h with h | h | h | h <;> first | exact absurd h n1 | exact absurd h n2 | exact absurd h n3 | exact h⟩
open Classical in
/-- The program's answer for any two whole numbers. -/
theorem impl_diag_eq {l : List Pt} (hP : Few l) (a b : Int) (k : Nat) (hk : 3000 < k) : ∃ r, impl_isDiagonal.f k l a b = some r ∧ (r = true ↔ 0 ≤ a ∧ a < l.length ∧ 0 ≤ b ∧ b < l.length ∧ Diag l a.toNat b.toNat) := by
  have h3 := hP.n3
  have h10 := hP.n10
  have h0 : 0 < l.length := by omega
  obtain ⟨k, rfl⟩ : ∃ m, k = m + 1 := ⟨k - 1, by omega⟩
  have jt : impl_isDiagonal.j0 (k + 1) l a b (l.length : Int) true = some false := by simp [impl_isDiagonal.j0]
  have wn : wrap64 ((l.length : Int) - 1) = (l.length : Int) - 1 := wrap64_id (by omega) (by omega)
  have win : ∀ x : Int, impl_within.f x 0 ((l.length : Int) - 1) = some (decide (0 ≤ x ∧ x < l.length)) := by
    intro x
    unfold impl_within.f
    by_cases x0 : 0 ≤ x
    · by_cases x1 : x < l.length
      · rw [if_pos (by omega), decide_eq_true (by omega), decide_eq_true (by omega)]
      · rw [if_pos (by omega), decide_eq_false (by omega), decide_eq_false (by omega)]
    · rw [if_neg (by omega), decide_eq_false (by omega)]
  unfold impl_isDiagonal.f
  rw [wn, win, win, Option.bind_some, Option.bind_some]
  by_cases ha : 0 ≤ a ∧ a < l.length
  · rw [if_pos (decide_eq_true ha)]
    by_cases hb : 0 ≤ b ∧ b < l.length
    · rw [if_pos (decide_eq_true hb)]
      obtain ⟨x, rfl⟩ : ∃ x : Nat, a = (x : Int) := ⟨a.toNat, by omega⟩
      obtain ⟨y, rfl⟩ : ∃ y : Nat, b = (y : Int) := ⟨b.toNat, by omega⟩
      rw [Int.toNat_natCast, Int.toNat_natCast]
      have wa : wrap64 ((x : Int) + 1) = ((x + 1 : Nat) : Int) := by rw [wrap64_id (by omega) (by omega)]; rfl
      have wb : wrap64 ((y : Int) + 1) = ((y + 1 : Nat) : Int) := by rw [wrap64_id (by omega) (by omega)]; rfl
      have la := Nat.mod_lt (x + 1) h0
      have lb := Nat.mod_lt (y + 1) h0
      rw [wa, wb, tmod_at, tmod_at]
      by_cases n3 : x = y
      · rw [if_pos (by omega), jt]; exact ⟨false, rfl, by simp; intro _ _ h; exact h.1 n3⟩
      · rw [if_neg (by omega), if_neg (by omega)]
        by_cases n1 : (x + 1) % l.length = y
        · rw [if_pos (by omega), jt]; exact ⟨false, rfl, by simp; intro _ _ h; exact h.2.1 n1⟩
        · rw [if_neg (by omega)]
          by_cases n2 : (y + 1) % l.length = x
          · have : ((((y + 1) % l.length : Nat) : Int) == (x : Int)) = true := by rw [beq_iff_eq]; omega
            rw [this, jt]; exact ⟨false, rfl, by simp; intro _ _ h; exact h.2.2.1 n2⟩
          · have : ((((y + 1) % l.length : Nat) : Int) == (x : Int)) = false := by rw [← Bool.not_eq_true, beq_iff_eq]; omega
            rw [this]
            simp only [impl_isDiagonal.j0]
            rw [if_neg (by simp)]
            obtain ⟨r, hr, hr'⟩ := idiag_l0 hP (a := x) (b := y) (by omega) (by omega) l.length k 0 (by omega) (by omega)
            exact ⟨r, hr, hr'.trans ⟨fun h => ⟨ha.1, ha.2, hb.1, hb.2, n3, n1, n2, fun j hj => h.1 j (by omega) hj, h.2⟩, fun h => ⟨fun j _ hj => h.2.2.2.2.2.2.2.1 j hj, h.2.2.2.2.2.2.2.2⟩⟩⟩
    · rw [if_neg (by simpa using hb), jt]; exact ⟨false, rfl, by simp; intro _ _ h h2; exact absurd ⟨h, h2⟩ hb⟩
  · rw [if_neg (by simpa using ha), jt]; exact ⟨false, rfl, by simp; intro h h2; exact absurd ⟨h, h2⟩ ha⟩
end Go.Proofs.Ytlccpkggdmngaaa.G
