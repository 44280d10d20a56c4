/- The draws of the reference's file of laws: what they come to. The bounds stand in each theorem. -/
import Derived.Test.YtbcndlfnmhmigaaDoorPz
import Derived.Test.YtbcndlfnmhmigaaDoorF20
import Derived.Test.YtbcndlfnmhmigaaDoorF22
import Derived.Test.YtbcndlfnmhmigaaDoorF21
import Derived.Test.YtbcndlfnmhmigaaDoorF19
namespace Go.Proofs.YtbcndlfnmhmigaaDoor.G
open Go.RowKit Go.Proofs.YtbcndlfnmhmigaaDoorW.PrintWords Go.Proofs.YtbcndlfnmhmigaaDoorW.PrintLast Go.Proofs.YtbcndlfnmhmigaaDoorW.PrintMore
set_option linter.unusedSimpArgs false
set_option linter.unusedVariables false
theorem and255 (x : Int) : 0 ≤ Go.bits .and .i64 x 255 ∧ Go.bits .and .i64 x 255 ≤ 255 := by
  unfold Go.bits
  simp only
  have h : (BitVec.ofInt IntKind.i64.bits x &&& BitVec.ofInt IntKind.i64.bits 255).toNat ≤ 255 := by
    rw [BitVec.toNat_and]
    exact Nat.and_le_right
  generalize (BitVec.ofInt IntKind.i64.bits x &&& BitVec.ofInt IntKind.i64.bits 255).toNat = n at h
  have e : IntKind.i64.wrap (n : Int) = wrap64 (n : Int) := i64_w _
  rw [e, wrap64_id (by omega) (by omega)]
  omega
theorem byte_eq (l : List Int) (hl : l.length ≤ 1099511627776) (i h : Int) (hi : 0 ≤ i) : ∃ b i' h', spec_l01Byte.f l i h = some (b, i', h') ∧ 0 ≤ b ∧ b ≤ 255 ∧ 0 ≤ i' := by
  unfold spec_l01Byte.f
  by_cases c : i < (l.length : Int)
  · rw [if_pos c, if_pos hi]
    exact ⟨_, _, _, rfl, (and255 _).1, (and255 _).2, by rw [wrap64_id (by omega) (by omega)]; omega⟩
  · rw [if_neg c]
    exact ⟨_, _, _, rfl, (and255 _).1, (and255 _).2, hi⟩
theorem below_eq (l : List Int) (hl : l.length ≤ 1099511627776) (i h n : Int) (hi : 0 ≤ i) (h0 : 0 < n) (h1 : n ≤ 256) : ∃ b i' h', spec_l01Below.f l i h n = some (b, i', h') ∧ 0 ≤ b ∧ b < n ∧ 0 ≤ i' := by
  obtain ⟨b, i', h', e, b0, b1, hi'⟩ := byte_eq l hl i h hi
  unfold spec_l01Below.f
  rw [if_neg (by omega), if_pos h1, e, Option.bind_some, if_neg (by omega)]
  refine ⟨_, _, _, rfl, Int.tmod_nonneg _ b0, ?_, hi'⟩
  have := Int.tmod_lt_of_pos b h0
  exact this
theorem new_l0 (l : List Int) (hl : l.length ≤ 1099511627776) (d : Nat) : ∀ (i : Nat) (h : Int), i ≤ 4000 → 4000 - i ≤ d → ∃ h', ∀ k, d < k → spec_l01New.l0 k l h (i : Int) = some (l, 0, h') := by
  induction d with
  | zero =>
    intro i h hi hd
    refine ⟨h, fun k hk => ?_⟩
    obtain ⟨k, rfl⟩ : ∃ m, k = m + 1 := ⟨k - 1, by omega⟩
    simp only [spec_l01New.l0]
    by_cases c : (i : Int) < (l.length : Int)
    · rw [if_pos c, if_neg (by omega)]
    · rw [if_neg c]
  | succ d ih =>
    intro i h hi hd
    by_cases c : (i : Int) < (l.length : Int)
    · by_cases c2 : (i : Int) < 4000
      · obtain ⟨h', hh⟩ := ih (i + 1) (Go.bits .and .i64 (wrap64 ((wrap64 ((wrap64 (h * 179)) + (wrap64 (rd l (i : Int))))) + 7)) 1073741823) (by omega) (by omega)
        refine ⟨h', fun k hk => ?_⟩
        obtain ⟨k, rfl⟩ : ∃ m, k = m + 1 := ⟨k - 1, by omega⟩
        simp only [spec_l01New.l0]
        rw [if_pos c, if_pos c2, if_pos (by omega), wrap64_id (x := (i : Int) + 1) (by omega) (by omega)]
        exact hh k (by omega)
      · refine ⟨h, fun k hk => ?_⟩
        obtain ⟨k, rfl⟩ : ∃ m, k = m + 1 := ⟨k - 1, by omega⟩
        simp only [spec_l01New.l0]
        rw [if_pos c, if_neg c2]
    · refine ⟨h, fun k hk => ?_⟩
      obtain ⟨k, rfl⟩ : ∃ m, k = m + 1 := ⟨k - 1, by omega⟩
      simp only [spec_l01New.l0]
      rw [if_neg c]
theorem new_eq (l : List Int) (hl : l.length ≤ 1099511627776) : ∃ h, ∀ k, 4000 < k → spec_l01New.f k l = some (l, 0, h) := by
  obtain ⟨h, hh⟩ := new_l0 l hl 4000 0 (wrap64 (2173 + (l.length : Int))) (by omega) (by omega)
  exact ⟨h, fun k hk => hh k hk⟩
theorem l31_l0 (l : List Int) (hl : l.length ≤ 1099511627776) (n : Nat) (hn : n ≤ 1000) (d : Nat) : ∀ (j : Nat) (i h : Int), 0 ≤ i → j + d = n → ∃ i' h', 0 ≤ i' ∧ ∀ k, d < k → spec_l31New.l0 k (n : Int) (j : Int) l i h = some (l, i', h') := by
  induction d with
  | zero =>
    intro j i h hi hj
    refine ⟨i, h, hi, fun k hk => ?_⟩
    obtain ⟨k, rfl⟩ : ∃ m, k = m + 1 := ⟨k - 1, by omega⟩
    simp only [spec_l31New.l0]
    rw [if_neg (by omega)]
  | succ d ih =>
    intro j i h hi hj
    obtain ⟨b, i1, h1, e, _, _, hi1⟩ := byte_eq l hl i h hi
    obtain ⟨i', h', hi', hh⟩ := ih (j + 1) i1 h1 hi1 (by omega)
    refine ⟨i', h', hi', fun k hk => ?_⟩
    obtain ⟨k, rfl⟩ : ∃ m, k = m + 1 := ⟨k - 1, by omega⟩
    simp only [spec_l31New.l0]
    rw [if_pos (by omega), e, Option.bind_some, wrap64_id (x := (j : Int) + 1) (by omega) (by omega)]
    exact hh k (by omega)
theorem l31_eq (l : List Int) (hl : l.length ≤ 1099511627776) (n : Nat) (hn : n ≤ 1000) : ∃ i h, 0 ≤ i ∧ ∀ k, 4000 < k → spec_l31New.f k l (n : Int) = some (l, i, h) := by
  obtain ⟨h0, e0⟩ := new_eq l hl
  obtain ⟨i, h, hi, e⟩ := l31_l0 l hl n hn n 0 0 h0 (by omega) (by omega)
  refine ⟨i, h, hi, fun k hk => ?_⟩
  unfold spec_l31New.f
  rw [e0 k hk, Option.bind_some]
  exact e k (by omega)
end Go.Proofs.YtbcndlfnmhmigaaDoor.G
