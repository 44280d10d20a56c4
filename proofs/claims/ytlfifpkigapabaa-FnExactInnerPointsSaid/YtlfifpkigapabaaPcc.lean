/- The program's greatest common divisor, where the reference's is not reached. The bounds stand in each theorem. -/
import Derived.Test.YtlfifpkigapabaaFA
import Derived.Test.YtlfifpkigapabaaF66
namespace Go.Proofs.Ytlfifpkigapabaa.G
open Go.RowKit Go.Proofs.YtlfifpkigapabaaW.PrintWords Go.Proofs.YtlfifpkigapabaaW.PrintLast Go.Proofs.YtlfifpkigapabaaW.PrintMore
set_option linter.unusedSimpArgs false
set_option linter.unusedVariables false
theorem mx_abs {a : Int} (h : sm a) : mx a (wrap64 (-a)) = (a.natAbs : Int) := by
  unfold sm at h; rw [wrap64_id (by omega) (by omega)]; unfold mx; omega
theorem common_l0 (m : Nat) : ∀ (k : Nat) (a b : Int), sm a → sm b → b.natAbs = m → m < k → impl_common.l0 k a b = some (Int.gcd a b : Int) := by
  induction m using Nat.strongRecOn with
  | _ m ih =>
    intro k a b ha hb hm hk
    obtain ⟨k, rfl⟩ : ∃ q, k = q + 1 := ⟨k - 1, by omega⟩
    simp only [impl_common.l0]
    by_cases h0 : b = 0
    · subst h0; rw [if_pos rfl, mx_abs ha]; simp
    · have h1 : (Int.tmod a b).natAbs = a.natAbs % b.natAbs := Int.natAbs_tmod a b
      have h2 : a.natAbs % b.natAbs < b.natAbs := Nat.mod_lt _ (by omega)
      rw [if_neg h0, ih (Int.tmod a b).natAbs (by omega) k b (Int.tmod a b) hb (by unfold sm at *; omega) rfl (by omega)]
      congr 2
      rw [Int.gcd_comm a b, Int.gcd, Int.gcd, h1, Nat.gcd_comm, ← Nat.gcd_rec]
theorem common_eq {a b : Int} (ha : sm a) (hb : sm b) (k : Nat) (hk : 1000 < k) : impl_common.f k a b = some (Int.gcd a b : Int) := by
  unfold impl_common.f; exact common_l0 _ k a b ha hb rfl (by unfold sm at hb; omega)
end Go.Proofs.Ytlfifpkigapabaa.G
