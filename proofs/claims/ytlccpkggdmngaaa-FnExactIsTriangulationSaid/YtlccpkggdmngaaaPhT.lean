/- Twice the area: both functions come to one sum. The bounds stand in each theorem. -/
import Derived.Test.YtlccpkggdmngaaaPA
import Derived.Test.YtlccpkggdmngaaaF80
import Derived.Test.YtlccpkggdmngaaaF57
namespace Go.Proofs.Ytlccpkggdmngaaa.G
open Go.RowKit Go.Proofs.YtlccpkggdmngaaaW.PrintWords Go.Proofs.YtlccpkggdmngaaaW.PrintLast Go.Proofs.YtlccpkggdmngaaaW.PrintMore
set_option linter.unusedSimpArgs false
set_option linter.unusedVariables false
theorem spec_twice_l0 {l : List Pt} (hok : ∀ p ∈ l, okp p = true) (hn : l.length ≤ 1000000) (h0 : 0 < l.length) (d : Nat) : ∀ (k i : Nat), i + d = l.length → d < k → spec_l03Twice.l0 k l (twS l i) l (l.length : Int) (i : Int) = some (twS l l.length) := by
  induction d with
  | zero =>
    intro k i hi hk
    obtain ⟨k, rfl⟩ : ∃ m, k = m + 1 := ⟨k - 1, by omega⟩
    obtain rfl : i = l.length := by omega
    simp only [spec_l03Twice.l0]; rw [if_neg (by omega)]
  | succ d ih =>
    intro k i hi hk
    obtain ⟨k, rfl⟩ : ∃ m, k = m + 1 := ⟨k - 1, by omega⟩
    have wi : wrap64 ((i : Int) + 1) = ((i + 1 : Nat) : Int) := by rw [wrap64_id (by omega) (by omega)]; rfl
    have li := Nat.mod_lt (i + 1) h0
    have b1 := tw_parts hok h0 i
    have b2 := twS_bound hok h0 i
    simp only [spec_l03Twice.l0]
    rw [wi, tmod_at, rd_mod l (i + 1) h0, rd_pt l i (by omega), if_pos (by omega), if_pos (by omega), if_pos (by omega), if_neg (by omega), if_pos (by omega), if_pos (by omega)]
    rw [wrap64_id (x := (pt l i).f0 * (pt l (i + 1)).f1) (by omega) (by omega), wrap64_id (x := (pt l i).f1 * (pt l (i + 1)).f0) (by omega) (by omega), wrap64_id (x := twS l i + (pt l i).f0 * (pt l (i + 1)).f1) (by omega) (by omega), wrap64_id (by omega) (by omega)]
    rw [← ih k (i + 1) (by omega) (by omega)]; congr 1; simp only [twS, tw]; omega
theorem spec_twice_eq {l : List Pt} (hp : Poly l) (k : Nat) (hk : 11 < k) : spec_l03Twice.f k l = some (twS l l.length) := by
  have := hp.n3; have := hp.n10
  unfold spec_l03Twice.f; exact spec_twice_l0 hp.okp (by omega) (by omega) l.length k 0 (by omega) (by omega)
theorem impl_twice_l0 {l : List Pt} (hok : ∀ p ∈ l, okp p = true) (hn : l.length ≤ 1000000) (h0 : 0 < l.length) (d : Nat) : ∀ (k i : Nat), i + d = l.length → d < k → impl_twice.l0 k l (twS l i) l (l.length : Int) (i : Int) = some (twS l l.length) := by
  induction d with
  | zero =>
    intro k i hi hk
    obtain ⟨k, rfl⟩ : ∃ m, k = m + 1 := ⟨k - 1, by omega⟩
    obtain rfl : i = l.length := by omega
    simp only [impl_twice.l0]; rw [if_neg (by omega)]
  | succ d ih =>
    intro k i hi hk
    obtain ⟨k, rfl⟩ : ∃ m, k = m + 1 := ⟨k - 1, by omega⟩
    have wi : wrap64 ((i : Int) + 1) = ((i + 1 : Nat) : Int) := by rw [wrap64_id (by omega) (by omega)]; rfl
    have li := Nat.mod_lt (i + 1) h0
    have b1 := tw_parts hok h0 i
    have b2 := twS_bound hok h0 i
    simp only [impl_twice.l0]
    rw [wi, tmod_at, rd_mod l (i + 1) h0, rd_pt l i (by omega), if_pos (by omega), if_pos (by omega), if_pos (by omega), if_neg (by omega), if_pos (by omega), if_pos (by omega)]
    rw [wrap64_id (x := (pt l i).f0 * (pt l (i + 1)).f1) (by omega) (by omega), wrap64_id (x := (pt l i).f1 * (pt l (i + 1)).f0) (by omega) (by omega), wrap64_id (x := (pt l i).f0 * (pt l (i + 1)).f1 - (pt l i).f1 * (pt l (i + 1)).f0) (by omega) (by omega), wrap64_id (by omega) (by omega)]
    exact ih k (i + 1) (by omega) (by omega)
theorem impl_twice_eq {l : List Pt} (hp : Poly l) (k : Nat) (hk : 11 < k) : impl_twice.f k l = some (twS l l.length) := by
  have := hp.n3; have := hp.n10
  unfold impl_twice.f; exact impl_twice_l0 hp.okp (by omega) (by omega) l.length k 0 (by omega) (by omega)
end Go.Proofs.Ytlccpkggdmngaaa.G
