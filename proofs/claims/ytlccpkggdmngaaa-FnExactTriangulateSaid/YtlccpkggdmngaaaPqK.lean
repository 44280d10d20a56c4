/- Ears: what both functions come to. The bounds stand in each theorem. -/
import Derived.Test.YtlccpkggdmngaaaPqG
import Derived.Test.YtlccpkggdmngaaaF87
import Derived.Test.YtlccpkggdmngaaaF91
namespace Go.Proofs.Ytlccpkggdmngaaa.G
open Go.RowKit Go.Proofs.YtlccpkggdmngaaaW.PrintWords Go.Proofs.YtlccpkggdmngaaaW.PrintLast Go.Proofs.YtlccpkggdmngaaaW.PrintMore
set_option linter.unusedSimpArgs false
set_option linter.unusedVariables false
/-- A corner that can be cut off. -/
def Ear (l : List Pt) (i : Nat) : Prop := l.length = 3 ∨ Diag l ((i + l.length - 1) % l.length) ((i + 1) % l.length)
theorem spec_ear_eq {l : List Pt} (hP : Few l) {i : Nat} (hi : i < l.length) (k : Nat) (hk : 3000 < k) : ∃ r, spec_l05Ear.f k l (i : Int) = some r ∧ (r = true ↔ Ear l i) := by
  have h3 := hP.n3
  have h10 := hP.n10
  have h0 : 0 < l.length := by omega
  unfold spec_l05Ear.f Ear
  by_cases n3 : l.length = 3
  · rw [if_pos (by omega)]; exact ⟨true, rfl, by simp [n3]⟩
  · rw [if_neg (by omega), if_neg (by omega)]
    have wi : wrap64 ((i : Int) + 1) = ((i + 1 : Nat) : Int) := by rw [wrap64_id (by omega) (by omega)]; rfl
    rw [prev_at l i hi (by omega), wi, tmod_at]
    obtain ⟨r, hr, hr'⟩ := spec_diag_eq hP (Nat.mod_lt (i + l.length - 1) h0) (Nat.mod_lt (i + 1) h0) k (by omega)
    rw [hr, Option.bind_some]
    exact ⟨r, rfl, hr'.trans ⟨Or.inr, fun h => h.resolve_left n3⟩⟩
theorem impl_ear_eq {l : List Pt} (hP : Few l) {i : Nat} (hi : i < l.length) (k : Nat) (hk : 3000 < k) : ∃ r, impl_isEar.f k l (i : Int) = some r ∧ (r = true ↔ Ear l i) := by
  have h3 := hP.n3
  have h10 := hP.n10
  have h0 : 0 < l.length := by omega
  have wn : wrap64 ((l.length : Int) - 1) = (l.length : Int) - 1 := wrap64_id (by omega) (by omega)
  have win : impl_within.f (i : Int) 0 ((l.length : Int) - 1) = some true := by
    unfold impl_within.f
    rw [if_pos (by omega), decide_eq_true (by omega)]
  unfold impl_isEar.f Ear
  rw [wn, win, Option.bind_some, if_pos rfl]
  by_cases n3 : l.length = 3
  · rw [if_pos (by omega)]; exact ⟨true, rfl, by simp [n3]⟩
  · rw [if_neg (by omega), if_neg (by omega)]
    have wi : wrap64 ((i : Int) + 1) = ((i + 1 : Nat) : Int) := by rw [wrap64_id (by omega) (by omega)]; rfl
    rw [prev_at l i hi (by omega), wi, tmod_at]
    obtain ⟨r, hr, hr'⟩ := impl_diag_eq hP (((i + l.length - 1) % l.length : Nat) : Int) (((i + 1) % l.length : Nat) : Int) k (by omega)
    rw [hr, Option.bind_some]
    refine ⟨r, rfl, hr'.trans ?_⟩
    rw [Int.toNat_natCast, Int.toNat_natCast]
    have l1 := Nat.mod_lt (i + l.length - 1) h0
    have l2 := Nat.mod_lt (i + 1) h0
    exact ⟨fun h => Or.inr h.2.2.2.2, fun h => ⟨by omega, by omega, by omega, by omega, h.resolve_left n3⟩⟩
/-- Both functions for an ear answer alike. -/
theorem ear_both {l : List Pt} (hP : Few l) {i : Nat} (hi : i < l.length) (k k' : Nat) (hk : 3000 < k) (hk' : 3000 < k') : ∃ r, spec_l05Ear.f k l (i : Int) = some r ∧ impl_isEar.f k' l (i : Int) = some r ∧ (r = true ↔ Ear l i) := by
  obtain ⟨r, hr, hr'⟩ := spec_ear_eq hP hi k hk
  obtain ⟨q, hq, hq'⟩ := impl_ear_eq hP hi k' hk'
  have : r = q := by rw [Bool.eq_iff_iff, hr', hq']
  subst this
  exact ⟨r, hr, hq, hr'⟩
end Go.Proofs.Ytlccpkggdmngaaa.G
