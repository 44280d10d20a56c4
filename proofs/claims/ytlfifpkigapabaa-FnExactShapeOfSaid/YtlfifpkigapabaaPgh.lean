/- The laws' marks on lists of points are found again. The bounds stand in each theorem. -/
import Derived.Test.YtlfifpkigapabaaPg
import Derived.Test.YtlfifpkigapabaaF22
namespace Go.Proofs.Ytlfifpkigapabaa.G
open Go.RowKit Go.Proofs.YtlfifpkigapabaaW.PrintWords Go.Proofs.YtlfifpkigapabaaW.PrintLast Go.Proofs.YtlfifpkigapabaaW.PrintMore
set_option linter.unusedSimpArgs false
set_option linter.unusedVariables false
theorem held_l0 (n : Nat) (hn : n ≤ 1048576) (s : Int) (h0 : 0 ≤ s) (h1 : s ≤ 1000000000000) (d : Nat) : ∀ (k i : Nat), i + d = n → d < k →
    laws_heldPointS.l0 k (marks s n) (s + 2 * i) (i : Int) = some (s + 2 * n) := by
  induction d with
  | zero =>
    intro k i h hk
    obtain ⟨k, rfl⟩ : ∃ m, k = m + 1 := ⟨k - 1, by omega⟩
    have e : i = n := by omega
    subst e
    simp only [laws_heldPointS.l0]
    rw [if_neg (by simp [marks_length])]
  | succ d ih =>
    intro k i h hk
    obtain ⟨k, rfl⟩ : ∃ m, k = m + 1 := ⟨k - 1, by omega⟩
    have hi : i < (marks s n).length := by rw [marks_length]; omega
    simp only [laws_heldPointS.l0]
    rw [if_pos (by omega), if_pos (by omega), rd_at _ i hi, marks_get n s i hi, if_pos rfl, wrap64_id (x := s + 2 * i + 1) (by omega) (by omega), if_pos rfl, wrap64_id (x := s + 2 * i + 1 + 1) (by omega) (by omega), wrap64_id (x := (i : Int) + 1) (by omega) (by omega)]
    have ih' := ih k (i + 1) (by omega) (by omega)
    push_cast at ih'
    have e4 : s + 2 * ((i : Int) + 1) = s + 2 * i + 1 + 1 := by omega
    rw [e4] at ih'
    exact ih'
theorem heldPointS_eq (n : Nat) (hn : n ≤ 1048576) (s : Int) (h0 : 0 ≤ s) (h1 : s ≤ 1000000000000) (k : Nat) (hk : n < k) : laws_heldPointS.f k (marks s n) s = some (s + 2 * n) := by
  have := held_l0 n hn s h0 h1 n k 0 (by omega) hk
  simpa [laws_heldPointS.f] using this
end Go.Proofs.Ytlfifpkigapabaa.G
