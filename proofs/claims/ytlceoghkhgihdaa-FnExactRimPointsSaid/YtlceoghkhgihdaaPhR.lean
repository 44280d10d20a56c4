/- Points on the sides: both functions come to one sum. The bounds stand in each theorem. -/
import Derived.Test.YtlceoghkhgihdaaPA
import Derived.Test.YtlceoghkhgihdaaPc
import Derived.Test.YtlceoghkhgihdaaF70
import Derived.Test.YtlceoghkhgihdaaF45
import Derived.Test.YtlceoghkhgihdaaF44
namespace Go.Proofs.Ytlceoghkhgihdaa.G
open Go.RowKit Go.Proofs.YtlceoghkhgihdaaW.PrintWords Go.Proofs.YtlceoghkhgihdaaW.PrintLast Go.Proofs.YtlceoghkhgihdaaW.PrintMore
set_option linter.unusedSimpArgs false
set_option linter.unusedVariables false
/-- One side's steps. -/
def st (l : List Pt) (i : Nat) : Int := (Int.gcd ((pt l (i + 1)).f0 - (pt l i).f0) ((pt l (i + 1)).f1 - (pt l i).f1) : Int)
def rimS (l : List Pt) : Nat → Int
  | 0 => 0
  | i + 1 => wrap64 (rimS l i + st l i)
theorem spec_steps_at {l : List Pt} (hok : ∀ p ∈ l, okp p = true) (h0 : 0 < l.length) (i k : Nat) (hk : 1000 < k) : spec_l02Steps.f k (pt l i).f0 (pt l i).f1 (pt l (i + 1)).f0 (pt l (i + 1)).f1 = some (st l i) := by
  have h1 := pt_ok hok h0 i
  have h2 := pt_ok hok h0 (i + 1)
  unfold spec_l02Steps.f st
  rw [wrap64_id (by omega) (by omega), wrap64_id (by omega) (by omega), spec_gcd_eq (by unfold sm; omega) (by unfold sm; omega) k hk]; rfl
theorem gcd_flip (a b c d : Int) : Int.gcd (a - b) (c - d) = Int.gcd (b - a) (d - c) := by
  rw [← Int.neg_sub b a, ← Int.neg_sub d c]; simp
theorem impl_steps_at {l : List Pt} (hok : ∀ p ∈ l, okp p = true) (h0 : 0 < l.length) (i k : Nat) (hk : 1000 < k) : impl_StepsOf.f k (pt l i).f0 (pt l i).f1 (pt l (i + 1)).f0 (pt l (i + 1)).f1 = some (st l i) := by
  have h1 := pt_ok hok h0 i
  have h2 := pt_ok hok h0 (i + 1)
  have hm1 := hok _ (pt_mem l i h0)
  have hm2 := hok _ (pt_mem l (i + 1) h0)
  unfold impl_StepsOf.f st
  rw [impl_arePoints_eq _ (by simp) k (by simp; omega)]
  have e : List.all [(⟨(pt l i).f0, (pt l i).f1⟩ : Pt), ⟨(pt l (i + 1)).f0, (pt l (i + 1)).f1⟩] G.okp = true := by
    simp only [List.all_cons, List.all_nil, Bool.and_true]
    rw [Bool.and_eq_true]; exact ⟨hm1, hm2⟩
  rw [e, Option.bind_some, if_pos rfl, wrap64_id (by omega) (by omega), wrap64_id (by omega) (by omega), common_eq (by unfold sm; omega) (by unfold sm; omega) k hk, gcd_flip]; rfl
theorem spec_rim_l0 {l : List Pt} (hok : ∀ p ∈ l, okp p = true) (hn : l.length ≤ 1000000) (h0 : 0 < l.length) (d : Nat) : ∀ (k i : Nat), i + d = l.length → 1000 + d < k → spec_l03Rim.l0 k l (rimS l i) l (l.length : Int) (i : Int) = some (rimS l l.length) := by
  induction d with
  | zero =>
    intro k i hi hk
    obtain ⟨k, rfl⟩ : ∃ m, k = m + 1 := ⟨k - 1, by omega⟩
    obtain rfl : i = l.length := by omega
    simp only [spec_l03Rim.l0]; rw [if_neg (by omega)]
  | succ d ih =>
    intro k i hi hk
    obtain ⟨k, rfl⟩ : ∃ m, k = m + 1 := ⟨k - 1, by omega⟩
    have wi : wrap64 ((i : Int) + 1) = ((i + 1 : Nat) : Int) := by rw [wrap64_id (by omega) (by omega)]; rfl
    have li := Nat.mod_lt (i + 1) h0
    simp only [spec_l03Rim.l0]
    rw [wi, tmod_at, rd_mod l (i + 1) h0, rd_pt l i (by omega), if_pos (by omega), if_pos (by omega), if_pos (by omega), if_neg (by omega), if_pos (by omega), if_pos (by omega)]
    rw [spec_steps_at hok h0 i k (by omega), Option.bind_some]
    exact ih k (i + 1) (by omega) (by omega)
theorem impl_rim_l0 {l : List Pt} (hok : ∀ p ∈ l, okp p = true) (hn : l.length ≤ 1000000) (h0 : 0 < l.length) (d : Nat) : ∀ (k i : Nat), i + d = l.length → 1000 + d < k → impl_RimPoints.l0 k l (rimS l i) l (l.length : Int) (i : Int) = some (rimS l l.length) := by
  induction d with
  | zero =>
    intro k i hi hk
    obtain ⟨k, rfl⟩ : ∃ m, k = m + 1 := ⟨k - 1, by omega⟩
    obtain rfl : i = l.length := by omega
    simp only [impl_RimPoints.l0]; rw [if_neg (by omega)]
  | succ d ih =>
    intro k i hi hk
    obtain ⟨k, rfl⟩ : ∃ m, k = m + 1 := ⟨k - 1, by omega⟩
    have wi : wrap64 ((i : Int) + 1) = ((i + 1 : Nat) : Int) := by rw [wrap64_id (by omega) (by omega)]; rfl
    have li := Nat.mod_lt (i + 1) h0
    simp only [impl_RimPoints.l0]
    rw [wi, tmod_at, rd_mod l (i + 1) h0, rd_pt l i (by omega), if_pos (by omega), if_pos (by omega), if_pos (by omega), if_neg (by omega), if_pos (by omega), if_pos (by omega)]
    rw [impl_steps_at hok h0 i k (by omega), Option.bind_some]
    exact ih k (i + 1) (by omega) (by omega)
theorem both_RimPoints (l : List Pt) (hl : l.length ≤ 1048576) (k : Nat) (hk : 1048576 < k) : ∃ r, spec_RimPoints.f k l = some r ∧ impl_RimPoints.f k l = some r := by
  unfold spec_RimPoints.f impl_RimPoints.f
  rw [spec_PolygonOk_eq _ (by omega) _ (by omega), impl_PolygonOk_some]
  simp only [Option.bind_some]
  by_cases hp : impl_PolygonOk.ok l = true
  · rw [if_pos hp, if_pos hp]
    replace hp := (impl_ok_iff _).1 hp
    have h3 := hp.n3
    have h10 := hp.n10
    rw [show spec_l03Rim.f k l = some (rimS l l.length) from spec_rim_l0 hp.okp (by omega) (by omega) l.length _ 0 (by omega) (by omega), show impl_RimPoints.l0 k l 0 l (l.length : Int) 0 = some (rimS l l.length) from impl_rim_l0 hp.okp (by omega) (by omega) l.length _ 0 (by omega) (by omega)]
    exact ⟨_, rfl, rfl⟩
  · rw [if_neg hp, if_neg hp]; exact ⟨_, rfl, rfl⟩
end Go.Proofs.Ytlceoghkhgihdaa.G
