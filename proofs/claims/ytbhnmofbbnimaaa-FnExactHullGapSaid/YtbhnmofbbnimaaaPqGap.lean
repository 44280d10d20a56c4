/- HullGap: both come to the same number. The bounds stand in each theorem. -/
import Derived.Test.YtbhnmofbbnimaaaPqH
import Derived.Test.YtbhnmofbbnimaaaPhT
import Derived.Test.YtbhnmofbbnimaaaF32
import Derived.Test.YtbhnmofbbnimaaaF33
namespace Go.Proofs.Ytbhnmofbbnimaaa.G
open Go.RowKit Go.Proofs.YtbhnmofbbnimaaaW.PrintWords Go.Proofs.YtbhnmofbbnimaaaW.PrintLast Go.Proofs.YtbhnmofbbnimaaaW.PrintMore
set_option linter.unusedSimpArgs false
set_option linter.unusedVariables false
theorem chainC_mem : ∀ (l st : List Pt), ∀ y ∈ l.foldl (fun st x => pushC x st) st, y ∈ st ∨ y ∈ l
  | [], st, y, h => Or.inl h
  | x :: l, st, y, h => by
    rw [List.foldl_cons] at h
    rcases chainC_mem l (pushC x st) y h with g | g
    · rcases pushC_mem x st y g with k | k
      · subst k; exact Or.inr (by simp)
      · exact Or.inl k
    · exact Or.inr (by simp [g])
theorem hullC_mem {s : List Pt} : ∀ y ∈ hullC s, y ∈ s := by
  intro y h
  unfold hullC at h
  rcases List.mem_append.1 h with g | g
  · have := List.mem_of_mem_tail (List.mem_reverse.1 g)
    rcases chainC_mem s [] y this with k | k
    · simp at k
    · exact k
  · have := List.mem_of_mem_tail (List.mem_reverse.1 g)
    rcases chainC_mem s.reverse [] y this with k | k
    · simp at k
    · simpa using k
/-- The hull's corners are valid points. -/
theorem hull_ok (l : List Pt) (k : Nat) (hk : 1000000 ≤ k) : ∃ r : List Pt × Bool, spec_HullOf.f k l = some r ∧ impl_HullOf.f k l = some r ∧ (r.2 = true → (∀ p ∈ r.1, okp p = true) ∧ 3 ≤ r.1.length ∧ r.1.length ≤ 10) := by
  obtain ⟨r, h0, h1, h2⟩ := hull_at l
  refine ⟨r, up_fuel (fun k => spec_HullOf.mono _ k) h1 k hk, up_fuel (fun k => impl_HullOf.mono _ k) h2 k hk, fun ht => ?_⟩
  by_cases hn : l.length ≤ 30
  · by_cases hall : l.all okp = true
    · have hok : ∀ p ∈ l, okp p = true := by simpa using hall
      by_cases h3 : 3 ≤ l.length
      · obtain ⟨s, hs, hm, hsl, h4⟩ := spec_hull_eq hok hn 3001 (by omega)
        have := impl_hull_walk hok hn h3 hs hm hsl
        rw [h2] at this
        cases this
        unfold hullR at ht ⊢
        by_cases c : 3 ≤ (if s.length < 3 then [] else hullC s).length ∧ (if s.length < 3 then [] else hullC s).length ≤ 10
        · rw [if_pos c]
          refine ⟨fun p hp => ?_, c.1, c.2⟩
          by_cases hs3 : s.length < 3
          · rw [if_pos hs3] at hp; simp at hp
          · rw [if_neg hs3] at hp; exact hok p ((hm p).1 (hullC_mem p hp))
        · rw [if_neg c] at ht; cases ht
      · exfalso
        have j0t : impl_HullOf.j0 1000000 l true = some ([], false) := by
          obtain ⟨K, hK⟩ : ∃ K, K = 999999 := ⟨_, rfl⟩
          rw [show (1000000 : Nat) = K + 1 by omega]
          simp only [impl_HullOf.j0]; rfl
        unfold impl_HullOf.f at h2
        rw [if_pos (by omega), j0t] at h2
        cases h2; cases ht
    · exfalso
      have j0t : impl_HullOf.j0 1000000 l true = some ([], false) := by
        obtain ⟨K, hK⟩ : ∃ K, K = 999999 := ⟨_, rfl⟩
        rw [show (1000000 : Nat) = K + 1 by omega]
        simp only [impl_HullOf.j0]; rfl
      unfold impl_HullOf.f at h2
      by_cases h3 : l.length < 3
      · rw [if_pos (by omega), j0t] at h2; cases h2; cases ht
      · rw [if_neg (by omega), if_neg (by omega), impl_arePoints_eq _ (by omega) _ (by omega), Option.bind_some] at h2
        have : l.all okp = false := by simpa using hall
        rw [this, Bool.not_false, j0t] at h2; cases h2; cases ht
  · exfalso
    unfold spec_HullOf.f at h1
    rw [if_pos (by omega)] at h1
    cases h1; cases ht
theorem both_HullGap (l : List Pt) (hl : l.length ≤ 1048576) (k : Nat) (hk : 1048576 < k) : ∃ r, spec_HullGap.f k l = some r ∧ impl_HullGap.f k l = some r := by
  unfold spec_HullGap.f impl_HullGap.f
  rw [spec_PolygonOk_eq _ (by omega) _ (by omega), impl_PolygonOk_some]
  simp only [Option.bind_some]
  by_cases hp : impl_PolygonOk.ok l = true
  · rw [if_pos hp, if_pos hp]
    replace hp := (impl_ok_iff _).1 hp
    have h3 := hp.n3
    have h10 := hp.n10
    obtain ⟨r, e1, e2, hr⟩ := hull_ok l k (by omega)
    rw [e1, e2]
    simp only [Option.bind_some]
    by_cases ht : r.2 = true
    · obtain ⟨ho, g3, g10⟩ := hr ht
      rw [if_pos ht, if_pos ht, spec_twice_eq hp _ (by omega), impl_twice_eq hp _ (by omega)]
      have t1 : spec_l03Twice.f k r.1 = some (twS r.1 r.1.length) := by
        unfold spec_l03Twice.f; exact spec_twice_l0 ho (by omega) (by omega) r.1.length k 0 (by omega) (by omega)
      have t2 : impl_twice.f k r.1 = some (twS r.1 r.1.length) := by
        unfold impl_twice.f; exact impl_twice_l0 ho (by omega) (by omega) r.1.length k 0 (by omega) (by omega)
      rw [t1, t2]
      simp only [Option.bind_some, spec_l04Mag.f, impl_size.f]
      exact ⟨_, rfl, rfl⟩
    · rw [if_neg ht, if_neg ht]; exact ⟨_, rfl, rfl⟩
  · rw [if_neg hp, if_neg hp]; exact ⟨_, rfl, rfl⟩
end Go.Proofs.Ytbhnmofbbnimaaa.G
