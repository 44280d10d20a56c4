/- The law of IsDigits: both loops go alike, byte by byte. No conditions. -/
import Derived.Test.YtoampilfefkooaaUFnExactIsDigits
import Derived.Laws.Closers25b
namespace Go.Proofs.Ytoampilfefkooaa.Pure
open Go.RowKit Go.Proofs.Ytoampilfefkooaa.G Go.Proofs.YtoampilfefkooaaW.PrintWords Go.Proofs.YtoampilfefkooaaW.PrintLast Go.Proofs.YtoampilfefkooaaW.PrintMore
set_option linter.unusedSimpArgs false
set_option linter.unusedVariables false
theorem wrap64_id' {x : Int} (h0 : -9223372036854775808 ≤ x) (h1 : x ≤ 9223372036854775807) : wrap64 x = x := by unfold wrap64; omega
theorem not_empty (s : ByteArray) : (s.toList != ([] : List UInt8)) = decide ((s.size : Int) > 0) := by
  by_cases h : s.size = 0
  · have : s.toList = [] := by rw [Go.toList_nil_iff_emptyBytes, ← ByteArray.size_eq_zero_iff]; exact h
    rw [this]; simp [h]
  · have : s.toList ≠ [] := by rw [Ne, Go.toList_nil_iff_emptyBytes, ← ByteArray.size_eq_zero_iff]; exact h
    rw [bne_iff_ne.mpr this]; simp; omega
theorem digits_alike (s : ByteArray) (hn : s.size ≤ 140737488351232) : ∀ (k : Nat) (i : Int), 0 ≤ i → i ≤ s.size → spec_IsDigits.l0 k s i = impl_IsDigits.l0 k s (s.size : Int) i := by
  intro k
  induction k with
  | zero => intro i _ _; rfl
  | succ k ih =>
    intro i h0 h1
    simp only [spec_IsDigits.l0, impl_IsDigits.l0]
    by_cases h2 : i < (s.size : Int)
    · rw [if_pos h2, if_pos h0, if_pos h2, if_pos h0, if_pos h2, wrap64_id' (by omega) (by omega), ih (i + 1) (by omega) (by omega)]
    · rw [if_neg h2, if_neg h2, not_empty]
theorem digits_end (s : ByteArray) (hn : s.size ≤ 140737488351232) (d : Nat) : ∀ (k : Nat) (i : Int), 0 ≤ i → i ≤ s.size → (s.size : Int) - i = d → d < k → ∃ r, impl_IsDigits.l0 k s (s.size : Int) i = some r := by
  induction d with
  | zero =>
    intro k i h0 h1 hd hk
    obtain ⟨k, rfl⟩ : ∃ m, k = m + 1 := ⟨k - 1, by omega⟩
    exact ⟨_, by simp only [impl_IsDigits.l0]; rw [if_neg (by omega)]⟩
  | succ d ih =>
    intro k i h0 h1 hd hk
    obtain ⟨k, rfl⟩ : ∃ m, k = m + 1 := ⟨k - 1, by omega⟩
    obtain ⟨r, hr⟩ := ih k (i + 1) (by omega) (by omega) (by omega) (by omega)
    simp only [impl_IsDigits.l0]
    rw [if_pos (by omega), if_pos h0, if_pos (by omega), wrap64_id' (by omega) (by omega), hr]
    split
    · exact ⟨_, rfl⟩
    · split <;> exact ⟨_, rfl⟩
theorem FnExactIsDigits : laws_FnExactIsDigits.Pure := by
  intro s hs
  obtain ⟨r, hr⟩ := digits_end s hs s.size (s.size + 1) 0 (by omega) (by omega) (by omega) (by omega)
  refine ⟨s.size + 1, ?_⟩
  unfold laws_FnExactIsDigits.f spec_IsDigits.f impl_IsDigits.f
  rw [digits_alike s hs _ 0 (by omega) (by omega), hr]
  simp
end Go.Proofs.Ytoampilfefkooaa.Pure
