/- A polygon has a corner that is not straight: the first one in the order of points. The bounds stand in each theorem. -/
import Derived.Test.YtlfifpkigapabaaPB
namespace Go.Proofs.Ytlfifpkigapabaa.G
open Go.RowKit Go.Proofs.YtlfifpkigapabaaW.PrintWords Go.Proofs.YtlfifpkigapabaaW.PrintLast Go.Proofs.YtlfifpkigapabaaW.PrintMore
set_option linter.unusedSimpArgs false
set_option linter.unusedVariables false
theorem first_bent {a b c : Pt} (h1 : bef b a) (h2 : bef b c) : onP a c b = false := by
  rw [Bool.eq_false_iff]
  intro h
  rw [onP_iff] at h
  obtain ⟨hc, h3, h4, h5, h6⟩ := h
  unfold bef at h1 h2
  unfold mn at h3 h5
  unfold mx at h4 h6
  by_cases e1 : b.f1 = a.f1
  · by_cases e2 : b.f1 = c.f1
    · omega
    · have hx : a.f0 - b.f0 > 0 := by omega
      have hy : c.f1 - a.f1 > 0 := by omega
      have := Int.mul_pos hx hy
      have e : crossP a c b = (a.f0 - b.f0) * (c.f1 - a.f1) := by unfold crossP crossI; rw [e1]; grind
      omega
  · have e2 : b.f1 = c.f1 := by omega
    have hx : c.f0 - b.f0 > 0 := by omega
    have hy : a.f1 - c.f1 > 0 := by omega
    have := Int.mul_pos hx hy
    have e : crossP a c b = -((c.f0 - b.f0) * (a.f1 - c.f1)) := by unfold crossP crossI; rw [e2]; grind
    omega
theorem bent_mem {l : List Pt} {j : Nat} : ∀ {n : Nat}, j < n → crossP (pt l (j + l.length - 1)) (pt l j) (pt l (j + 1)) ≠ 0 → pt l j ∈ bent l n
  | 0, h, _ => by omega
  | n + 1, h, ho => by
    unfold bent
    by_cases e : j = n
    · subst e; rw [if_neg ho]; simp
    · have := bent_mem (n := n) (by omega) ho
      split
      · exact this
      · exact List.mem_append_left _ this
theorem bent_sub {l : List Pt} (h0 : 0 < l.length) : ∀ {n : Nat}, ∀ x ∈ bent l n, x ∈ l
  | 0, x, h => by simp [bent] at h
  | n + 1, x, h => by
    unfold bent at h
    split at h
    · exact bent_sub h0 x h
    · rcases List.mem_append.1 h with g | g
      · exact bent_sub h0 x g
      · simp at g; subst g; exact pt_mem l n h0
theorem bent_ne {l : List Pt} (hp : Poly l) : bent l l.length ≠ [] := by
  have h3 := hp.n3
  obtain ⟨f, hf, hmin⟩ := first_exists l (by intro e; subst e; simp at h3)
  obtain ⟨j, hj, rfl⟩ := List.getElem_of_mem hf
  rw [← pt_at l j hj] at hmin
  have step : ∀ i, i < l.length → pt l i ≠ pt l (i + 1) := fun i hi => hp.ne i hi
  have nx : bef (pt l j) (pt l (j + 1)) := by
    rcases hmin _ (pt_mem l (j + 1) (by omega)) with h | h
    · exact absurd h (step j hj)
    · exact h
  have pv : bef (pt l j) (pt l (j + l.length - 1)) := by
    rcases hmin _ (pt_mem l (j + l.length - 1) (by omega)) with h | h
    · by_cases h0 : j = 0
      · subst h0
        have := step (l.length - 1) (by omega)
        rw [show l.length - 1 + 1 = 0 + l.length by omega, pt_add] at this
        rw [show 0 + l.length - 1 = l.length - 1 by omega] at h
        exact absurd h.symm this
      · have := step (j - 1) (by omega)
        rw [show j - 1 + 1 = j by omega] at this
        rw [show j + l.length - 1 = j - 1 + l.length by omega, pt_add] at h
        exact absurd h.symm this
    · exact h
  have := first_bent pv nx
  have hm := bent_mem (l := l) hj (fun e => by rw [(straight_prev hp hj).1 e] at this; cases this)
  intro e; rw [e] at hm; simp at hm
end Go.Proofs.Ytlfifpkigapabaa.G
