/- The law of IsName: both loops go alike, byte by byte. No conditions. -/
import Derived.Test.YtoampilfefkooaaUFnExactIsName
namespace Go.Proofs.Ytoampilfefkooaa.Pure
open Go.RowKit Go.Proofs.Ytoampilfefkooaa.G Go.Proofs.YtoampilfefkooaaW.PrintWords Go.Proofs.YtoampilfefkooaaW.PrintLast Go.Proofs.YtoampilfefkooaaW.PrintMore
set_option linter.unusedSimpArgs false
set_option linter.unusedVariables false
theorem wrap64_id' {x : Int} (h0 : -9223372036854775808 ≤ x) (h1 : x ≤ 9223372036854775807) : wrap64 x = x := by unfold wrap64; omega
theorem name_alike (s : ByteArray) (hn : s.size ≤ 140737488351232) : ∀ (k : Nat) (i : Int), 0 ≤ i → i ≤ s.size → spec_IsName.l0 k s i = impl_IsName.l0 k s (s.size : Int) i := by
  intro k
  induction k with
  | zero => intro i _ _; rfl
  | succ k ih =>
    intro i h0 h1
    simp only [spec_IsName.l0, impl_IsName.l0]
    by_cases h2 : i < (s.size : Int)
    · rw [if_pos h2, if_pos h0, if_pos h2, if_pos h0, if_pos h2, wrap64_id' (by omega) (by omega), ih (i + 1) (by omega) (by omega)]
      generalize impl_IsName.l0 k s (s.size : Int) (i + 1) = R
      generalize bt s i = c
      by_cases c1 : c < 97
      · rw [if_neg (show ¬ c ≥ 97 by omega), if_pos c1]
      · rw [if_pos (show c ≥ 97 by omega), if_neg c1]
        by_cases c2 : c > 122
        · rw [if_neg (show ¬ c ≤ 122 by omega), if_pos c2]
        · rw [if_pos (show c ≤ 122 by omega), if_neg c2]
    · rw [if_neg h2, if_neg h2]
      unfold spec_l01In.f
      split <;> rfl
theorem name_end (s : ByteArray) (hn : s.size ≤ 140737488351232) (d : Nat) : ∀ (k : Nat) (i : Int), 0 ≤ i → i ≤ s.size → (s.size : Int) - i = d → d < k → ∃ r, impl_IsName.l0 k s (s.size : Int) i = some r := by
  induction d with
  | zero =>
    intro k i h0 h1 hd hk
    obtain ⟨k, rfl⟩ : ∃ m, k = m + 1 := ⟨k - 1, by omega⟩
    simp only [impl_IsName.l0]; rw [if_neg (by omega)]
    split <;> exact ⟨_, rfl⟩
  | succ d ih =>
    intro k i h0 h1 hd hk
    obtain ⟨k, rfl⟩ : ∃ m, k = m + 1 := ⟨k - 1, by omega⟩
    obtain ⟨r, hr⟩ := ih k (i + 1) (by omega) (by omega) (by omega) (by omega)
    simp only [impl_IsName.l0]
    rw [if_pos (by omega), if_pos h0, if_pos (by omega), wrap64_id' (by omega) (by omega), hr]
    repeat' split
    all_goals exact ⟨_, rfl⟩
theorem FnExactIsName : laws_FnExactIsName.Pure := by
  intro s hs
  obtain ⟨r, hr⟩ := name_end s hs s.size (s.size + 1) 0 (by omega) (by omega) (by omega) (by omega)
  refine ⟨s.size + 1, ?_⟩
  unfold laws_FnExactIsName.f spec_IsName.f impl_IsName.f
  rw [name_alike s hs _ 0 (by omega) (by omega), hr]
  simp
end Go.Proofs.Ytoampilfefkooaa.Pure
