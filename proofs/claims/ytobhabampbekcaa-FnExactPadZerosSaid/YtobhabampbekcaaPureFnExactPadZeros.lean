/- The law FnExactPadZeros: both functions answer alike. No conditions. -/
import Derived.Test.YtobhabampbekcaaUFnExactPadZeros
namespace Go.Proofs.Ytobhabampbekcaa.Pure
open Go.RowKit Go.Proofs.Ytobhabampbekcaa.G Go.Proofs.YtobhabampbekcaaW.PrintWords Go.Proofs.YtobhabampbekcaaW.PrintLast Go.Proofs.YtobhabampbekcaaW.PrintMore
set_option linter.unusedSimpArgs false
set_option linter.unusedVariables false
def zr (m : Nat) : ByteArray := ⟨(Lib.repeatL (⟨#[48]⟩ : ByteArray).data.toList m).toArray⟩
theorem zr_size (m : Nat) : (zr m).size = m := by
  show ((Lib.repeatL (⟨#[48]⟩ : ByteArray).data.toList m).toArray).size = m
  rw [List.size_toArray, Lib.repeatL_length]; simp
theorem zr_succ (m : Nat) (s : ByteArray) : zr m ++ ((⟨#[48]⟩ : ByteArray) ++ s) = zr (m + 1) ++ s := by
  rw [← ByteArray.append_assoc]
  congr 1
  apply ByteArray.ext
  rw [ByteArray.data_append]
  unfold zr
  rw [Lib.repeatL_add, Lib.repeatL_one]
  simp
theorem zr_zero (s : ByteArray) : zr 0 ++ s = s := by
  apply ByteArray.ext
  rw [ByteArray.data_append]
  simp [zr, Lib.repeatL]
theorem wrap_id {x : Int} (h0 : -9223372036854775808 ≤ x) (h1 : x ≤ 9223372036854775807) : wrap64 x = x := by unfold wrap64; omega
theorem spec_l0 (n : Int) (hn : n ≤ 2000) (m : Nat) : ∀ (k : Nat) (s : ByteArray), (s.size : Int) + m = n → m < k → spec_PadZeros.l0 k s n = some (zr m ++ s) := by
  induction m with
  | zero =>
    intro k s h hk
    obtain ⟨k, rfl⟩ : ∃ q, k = q + 1 := ⟨k - 1, by omega⟩
    simp only [spec_PadZeros.l0]
    rw [if_neg (by omega), zr_zero]
  | succ m ih =>
    intro k s h hk
    obtain ⟨k, rfl⟩ : ∃ q, k = q + 1 := ⟨k - 1, by omega⟩
    have sz : ((⟨#[48]⟩ : ByteArray) ++ s).size = 1 + s.size := by rw [ByteArray.size_append]; rfl
    simp only [spec_PadZeros.l0]
    rw [if_pos (by omega), if_pos (by omega), ih k _ (by rw [sz]; push_cast at h ⊢; omega) (by omega), zr_succ]
theorem FnExactPadZeros : laws_FnExactPadZeros.Pure := by
  intro s n hs hn
  refine ⟨3000, ?_⟩
  unfold laws_FnExactPadZeros.f
  by_cases h : (s.size : Int) > 1048576
  · rw [if_pos h]
  · rw [if_neg h]
    unfold spec_PadZeros.f impl_PadZeros.f
    by_cases c1 : (s.size : Int) ≥ n
    · rw [if_pos c1]
      by_cases c2 : n > 2000
      · rw [if_pos c2]; simp
      · obtain ⟨K, hK⟩ : ∃ K, 3000 = K + 1 := ⟨2999, rfl⟩
        rw [if_neg c2, hK]
        simp only [spec_PadZeros.l0]
        rw [if_neg (by omega)]; simp
    · rw [if_neg c1]
      by_cases c2 : n > 2000
      · rw [if_pos c2, if_pos c2]; simp
      · rw [if_neg c2, if_neg c2]
        have w : wrap64 (n - (s.size : Int)) = n - (s.size : Int) := wrap_id (by omega) (by omega)
        have sp := spec_l0 n (by omega) (n - (s.size : Int)).toNat 3000 s (by omega) (by omega)
        have one : (⟨#[48]⟩ : ByteArray).size = 1 := rfl
        have im : strings_Repeat.f (⟨#[48]⟩ : ByteArray) (n - (s.size : Int)) = some (zr (n - (s.size : Int)).toNat) := by
          unfold strings_Repeat.f
          rw [if_pos (by omega), if_pos (by omega), if_pos (by rw [one]; omega)]; rfl
        rw [sp, w, im, Option.bind_some, Option.bind_some, if_pos (by rw [zr_size]; omega)]
        simp
end Go.Proofs.Ytobhabampbekcaa.Pure
