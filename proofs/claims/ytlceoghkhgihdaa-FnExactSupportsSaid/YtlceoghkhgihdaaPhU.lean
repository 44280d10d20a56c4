/- A line that supports a polygon: both functions answer alike. The bounds stand in each theorem. -/
import Derived.Test.YtlceoghkhgihdaaPA
import Derived.Test.YtlceoghkhgihdaaF31
import Derived.Test.YtlceoghkhgihdaaF32
namespace Go.Proofs.Ytlceoghkhgihdaa.G
open Go.RowKit Go.Proofs.YtlceoghkhgihdaaW.PrintWords Go.Proofs.YtlceoghkhgihdaaW.PrintLast Go.Proofs.YtlceoghkhgihdaaW.PrintMore
set_option linter.unusedSimpArgs false
set_option linter.unusedVariables false
theorem supports_l0 {l : List Pt} (hok : ∀ p ∈ l, okp p = true) (hn : l.length ≤ 1000000) {a b : Pt} (ha : smp a) (hb : smp b) (d : Nat) : ∀ (k i : Nat) (pos neg : Bool), i + d = l.length → d < k →
    ∃ r, spec_Supports.l0 k (if neg = true then -1 else 0) (if pos = true then 1 else 0) l (l.length : Int) (i : Int) a.f0 a.f1 b.f0 b.f1 = some r ∧ impl_Supports.l0 k pos neg l (l.length : Int) (i : Int) a.f0 a.f1 b.f0 b.f1 = some r := by
  induction d with
  | zero =>
    intro k i pos neg hi hk
    obtain ⟨k, rfl⟩ : ∃ m, k = m + 1 := ⟨k - 1, by omega⟩
    simp only [spec_Supports.l0, impl_Supports.l0]
    rw [if_neg (by omega), low_high, if_neg (by omega), pos_neg]
    exact ⟨_, rfl, rfl⟩
  | succ d ih =>
    intro k i pos neg hi hk
    obtain ⟨k, rfl⟩ : ∃ m, k = m + 1 := ⟨k - 1, by omega⟩
    have wi : wrap64 ((i : Int) + 1) = ((i + 1 : Nat) : Int) := by rw [wrap64_id (by omega) (by omega)]; rfl
    have s : ∀ k, smp (pt l k) := fun k => okp_smp (hok _ (pt_mem l k (by omega)))
    simp only [spec_Supports.l0, impl_Supports.l0]
    rw [wi, rd_pt l i (by omega), if_pos (by omega), if_pos (by omega), if_pos (by omega)]
    rw [spec_cross_eq ha.1 ha.2 hb.1 hb.2 (s _).1 (s _).2, impl_cross_eq ha.1 ha.2 hb.1 hb.2 (s _).1 (s _).2, Option.bind_some, spec_sign_eq, Option.bind_some, Option.bind_some, sgn_mn, sgn_mx]
    rw [if_pos (show ((i : Nat) : Int) < (l.length : Int) by omega), if_pos (show (0 : Int) ≤ (i : Int) by omega), if_pos (show ((i : Nat) : Int) < (l.length : Int) by omega)]
    obtain ⟨r, hr, hr'⟩ := ih k (i + 1) (pos || decide (crossI a.f0 a.f1 b.f0 b.f1 (pt l i).f0 (pt l i).f1 > 0)) (neg || decide (crossI a.f0 a.f1 b.f0 b.f1 (pt l i).f0 (pt l i).f1 < 0)) (by omega) (by omega)
    refine ⟨r, hr, ?_⟩
    rw [← hr']; cases pos <;> cases neg <;> simp
theorem both_Supports (l : List Pt) (hl : l.length ≤ 1048576) (a0 a1 b0 b1 : Int) (k : Nat) (hk : 1048576 < k) : ∃ r, spec_Supports.f k l a0 a1 b0 b1 = some r ∧ impl_Supports.f k l a0 a1 b0 b1 = some r := by
  obtain ⟨k, rfl⟩ : ∃ m, k = m + 1 := ⟨k - 1, by omega⟩
  have j1 : spec_Supports.j0 (k + 1) l true a0 a1 b0 b1 = some false := by simp [spec_Supports.j0]
  have j2 : impl_Supports.j0 (k + 1) l true a0 a1 b0 b1 = some false := by simp [impl_Supports.j0]
  unfold spec_Supports.f impl_Supports.f
  rw [spec_PolygonOk_eq _ (by omega) _ (by omega), impl_PolygonOk_some, impl_arePoints_eq _ (by simp) _ (by simp; omega)]
  simp only [Option.bind_some, spec_PointOk_eq]
  by_cases hp : impl_PolygonOk.ok l = true
  · rw [if_pos hp, if_pos hp]
    replace hp := (impl_ok_iff _).1 hp
    have h3 := hp.n3
    have h10 := hp.n10
    by_cases h1 : ok a0 a1 = true
    · rw [if_pos h1]
      by_cases h2 : ok b0 b1 = true
      · rw [if_pos h2, if_pos (by simp [okp, h1, h2])]
        by_cases he : (a0 == b0 && (a1 == b1)) = true
        · rw [he, j1, j2]; exact ⟨_, rfl, rfl⟩
        · rw [Bool.not_eq_true] at he
          rw [he]
          simp only [spec_Supports.j0, impl_Supports.j0]
          rw [if_neg (by simp), if_neg (by simp)]
          exact supports_l0 hp.okp (by omega) (a := ⟨a0, a1⟩) (b := ⟨b0, b1⟩) (sm_ok h1) (sm_ok h2) l.length k 0 false false (by omega) (by omega)
      · rw [if_neg h2, if_neg (by simp [okp, h1, h2]), j1, j2]; exact ⟨_, rfl, rfl⟩
    · rw [if_neg h1, if_neg (by simp [okp, h1]), j1, j2]; exact ⟨_, rfl, rfl⟩
  · rw [if_neg hp, if_neg hp, j1, j2]; exact ⟨_, rfl, rfl⟩
end Go.Proofs.Ytlceoghkhgihdaa.G
