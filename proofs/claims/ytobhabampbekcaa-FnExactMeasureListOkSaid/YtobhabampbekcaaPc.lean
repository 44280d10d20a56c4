/- Steps: both functions for the greatest common divisor come to Int.gcd where the numbers are small. The bounds stand in each theorem. -/
import Derived.Test.YtobhabampbekcaaFA
import Derived.Test.YtobhabampbekcaaF50
import Derived.Test.YtobhabampbekcaaF52
namespace Go.Proofs.Ytobhabampbekcaa.G
open Go.RowKit Go.Proofs.YtobhabampbekcaaW.PrintWords Go.Proofs.YtobhabampbekcaaW.PrintLast Go.Proofs.YtobhabampbekcaaW.PrintMore
set_option linter.unusedSimpArgs false
set_option linter.unusedVariables false
theorem gcd_step (a b : Int) : Int.gcd b (Int.tmod a b) = Int.gcd a b := by
  rw [Int.gcd_comm a b, Int.gcd, Int.gcd, Int.natAbs_tmod, Nat.gcd_comm, ← Nat.gcd_rec]
theorem spec_gcd_l0 (m : Nat) : ∀ (k : Nat) (a b : Int), 0 ≤ a → 0 ≤ b → b.toNat = m → m < k → spec_l02Gcd.l0 k a b = some (Int.gcd a b : Int) := by
  induction m using Nat.strongRecOn with
  | _ m ih =>
    intro k a b ha hb hm hk
    obtain ⟨k, rfl⟩ : ∃ q, k = q + 1 := ⟨k - 1, by omega⟩
    simp only [spec_l02Gcd.l0]
    by_cases h0 : 0 < b
    · have h1 : 0 ≤ Int.tmod a b := Int.tmod_nonneg b ha
      have h2 : Int.tmod a b < b := Int.tmod_lt_of_pos a h0
      rw [if_pos h0, if_neg (by omega), ih (Int.tmod a b).toNat (by omega) k b (Int.tmod a b) hb h1 rfl (by omega), gcd_step a b]
    · obtain rfl : b = 0 := by omega
      rw [if_neg h0]; simp; omega
theorem mx_abs {a : Int} (h : sm a) : mx a (wrap64 (-a)) = (a.natAbs : Int) := by
  unfold sm at h; rw [wrap64_id (by omega) (by omega)]; unfold mx; omega
theorem spec_gcd_eq {a b : Int} (ha : sm a) (hb : sm b) (k : Nat) (hk : 1000 < k) : spec_l02Gcd.f k a b = some (Int.gcd a b : Int) := by
  unfold spec_l02Gcd.f
  rw [mx_abs ha, mx_abs hb, spec_gcd_l0 _ k _ _ (by omega) (by omega) rfl (by unfold sm at hb; omega)]
  simp [Int.gcd]
theorem common_l0 (m : Nat) : ∀ (k : Nat) (a b : Int), sm a → sm b → b.natAbs = m → m < k → impl_common.l0 k a b = some (Int.gcd a b : Int) := by
  induction m using Nat.strongRecOn with
  | _ m ih =>
    intro k a b ha hb hm hk
    obtain ⟨k, rfl⟩ : ∃ q, k = q + 1 := ⟨k - 1, by omega⟩
    simp only [impl_common.l0]
    by_cases h0 : b = 0
    · subst h0; rw [if_pos rfl, mx_abs ha]; simp
    · have h1 : (Int.tmod a b).natAbs = a.natAbs % b.natAbs := Int.natAbs_tmod a b
      have h2 : a.natAbs % b.natAbs < b.natAbs := Nat.mod_lt _ (by omega)
      rw [if_neg h0, ih (Int.tmod a b).natAbs (by omega) k b (Int.tmod a b) hb (by unfold sm at *; omega) rfl (by omega)]
      congr 2
      rw [Int.gcd_comm a b, Int.gcd, Int.gcd, h1, Nat.gcd_comm, ← Nat.gcd_rec]
theorem common_eq {a b : Int} (ha : sm a) (hb : sm b) (k : Nat) (hk : 1000 < k) : impl_common.f k a b = some (Int.gcd a b : Int) := by
  unfold impl_common.f; exact common_l0 _ k a b ha hb rfl (by unfold sm at hb; omega)
end Go.Proofs.Ytobhabampbekcaa.G
