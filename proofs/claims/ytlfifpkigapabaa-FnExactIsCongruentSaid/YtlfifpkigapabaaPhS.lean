/- Straight corners left out: both functions answer alike. The bounds stand in each theorem. -/
import Derived.Test.YtlfifpkigapabaaPj
import Derived.Test.YtlfifpkigapabaaF51
import Derived.Test.YtlfifpkigapabaaF56
namespace Go.Proofs.Ytlfifpkigapabaa.G
open Go.RowKit Go.Proofs.YtlfifpkigapabaaW.PrintWords Go.Proofs.YtlfifpkigapabaaW.PrintLast Go.Proofs.YtlfifpkigapabaaW.PrintMore
set_option linter.unusedSimpArgs false
set_option linter.unusedVariables false
theorem spec_straight_l0 {l : List Pt} (hp : Poly l) (d : Nat) : ∀ (k i : Nat), i + d = l.length → d < k → spec_l03Straight.l0 k l (bent l i) (l.length : Int) l (l.length : Int) (i : Int) = some (bent l l.length) := by
  have h3 := hp.n3
  have h10 := hp.n10
  have h0 : 0 < l.length := by omega
  induction d with
  | zero =>
    intro k i hi hk
    obtain ⟨k, rfl⟩ : ∃ m, k = m + 1 := ⟨k - 1, by omega⟩
    obtain rfl : i = l.length := by omega
    simp only [spec_l03Straight.l0]; rw [if_neg (by omega)]
  | succ d ih =>
    intro k i hi hk
    obtain ⟨k, rfl⟩ : ∃ m, k = m + 1 := ⟨k - 1, by omega⟩
    have wi : wrap64 ((i : Int) + 1) = ((i + 1 : Nat) : Int) := by rw [wrap64_id (by omega) (by omega)]; rfl
    have li := Nat.mod_lt (i + 1) h0
    have lp := Nat.mod_lt (i + l.length - 1) h0
    have s : ∀ k, smp (pt l k) := fun k => okp_smp (hp.okp _ (pt_mem l k h0))
    simp only [spec_l03Straight.l0]
    rw [wi, prev_at l i (by omega) (by omega), tmod_at, rd_mod l (i + 1) h0, rd_mod l (i + l.length - 1) h0, rd_pt l i (by omega), if_pos (by omega), if_pos (by omega), if_pos (by omega), if_neg (by omega), if_pos (by omega), if_pos (by omega), if_pos (by omega), if_pos (by omega)]
    rw [spec_cross_eq (s _).1 (s _).2 (s _).1 (s _).2 (s _).1 (s _).2, Option.bind_some]
    rw [← ih k (i + 1) (by omega) (by omega)]
    have hb := bent_len l i
    have ec : crossI (pt l (i + l.length - 1)).f0 (pt l (i + l.length - 1)).f1 (pt l i).f0 (pt l i).f1 (pt l (i + 1)).f0 (pt l (i + 1)).f1 = crossP (pt l (i + l.length - 1)) (pt l i) (pt l (i + 1)) := rfl
    rw [ec]
    by_cases h : crossP (pt l (i + l.length - 1)) (pt l i) (pt l (i + 1)) = 0
    · simp only [bent]; rw [if_pos h, if_pos h]
    · simp only [bent]; rw [if_neg h, if_neg h, if_pos (by omega)]
theorem impl_straight_l0 {l : List Pt} (hp : Poly l) (d : Nat) : ∀ (k i : Nat), i + d = l.length → d < k → impl_straightened.l0 k l (l.length : Int) (bent l i) l (l.length : Int) (i : Int) = some (bent l l.length) := by
  have h3 := hp.n3
  have h10 := hp.n10
  have h0 : 0 < l.length := by omega
  induction d with
  | zero =>
    intro k i hi hk
    obtain ⟨k, rfl⟩ : ∃ m, k = m + 1 := ⟨k - 1, by omega⟩
    obtain rfl : i = l.length := by omega
    simp only [impl_straightened.l0]; rw [if_neg (by omega)]
  | succ d ih =>
    intro k i hi hk
    obtain ⟨k, rfl⟩ : ∃ m, k = m + 1 := ⟨k - 1, by omega⟩
    have wi : wrap64 ((i : Int) + 1) = ((i + 1 : Nat) : Int) := by rw [wrap64_id (by omega) (by omega)]; rfl
    have li := Nat.mod_lt (i + 1) h0
    have lp := Nat.mod_lt (i + l.length - 1) h0
    have s : ∀ k, smp (pt l k) := fun k => okp_smp (hp.okp _ (pt_mem l k h0))
    simp only [impl_straightened.l0]
    rw [wi, prev_at l i (by omega) (by omega), tmod_at, rd_mod l (i + 1) h0, rd_mod l (i + l.length - 1) h0, rd_pt l i (by omega), if_pos (by omega), if_pos (by omega), if_pos (by omega), if_neg (by omega), if_pos (by omega), if_pos (by omega), if_pos (by omega), if_pos (by omega)]
    rw [impl_on_eq (s _).1 (s _).2 (s _).1 (s _).2 (s _).1 (s _).2, Option.bind_some]
    rw [← ih k (i + 1) (by omega) (by omega)]
    have hb := bent_len l i
    have hs := straight_prev hp (i := i) (by omega)
    have ec : onI (pt l (i + l.length - 1)).f0 (pt l (i + l.length - 1)).f1 (pt l (i + 1)).f0 (pt l (i + 1)).f1 (pt l i).f0 (pt l i).f1 = onP (pt l (i + l.length - 1)) (pt l (i + 1)) (pt l i) := rfl
    rw [ec]
    by_cases h : crossP (pt l (i + l.length - 1)) (pt l i) (pt l (i + 1)) = 0
    · simp only [bent]; rw [if_pos h, if_pos (hs.1 h)]
    · simp only [bent]; rw [if_neg h, if_neg (fun g => h (hs.2 g)), if_pos (by omega)]
theorem spec_straight_eq {l : List Pt} (hp : Poly l) (k : Nat) (hk : 11 < k) : spec_l03Straight.f k l = some (bent l l.length) := by
  have h10 := hp.n10
  unfold spec_l03Straight.f; exact spec_straight_l0 hp l.length k 0 (by omega) (by omega)
theorem impl_straight_eq {l : List Pt} (hp : Poly l) (k : Nat) (hk : 11 < k) : impl_straightened.f k l = some (bent l l.length) := by
  have h10 := hp.n10
  unfold impl_straightened.f; exact impl_straight_l0 hp l.length k 0 (by omega) (by omega)
end Go.Proofs.Ytlfifpkigapabaa.G
