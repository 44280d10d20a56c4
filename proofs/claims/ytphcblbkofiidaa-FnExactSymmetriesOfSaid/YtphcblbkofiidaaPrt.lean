/- Lists from another corner on, and turned round: plain laws of lists. No conditions but those in the theorems. -/
import Derived.Test.YtphcblbkofiidaaFA
namespace Go.Proofs.Ytphcblbkofiidaa.G
open Go.RowKit Go.Proofs.YtphcblbkofiidaaW.PrintWords Go.Proofs.YtphcblbkofiidaaW.PrintLast Go.Proofs.YtphcblbkofiidaaW.PrintMore
set_option linter.unusedSimpArgs false
set_option linter.unusedVariables false
def turnL (l : List Pt) : List Pt := l.take 1 ++ (l.drop 1).reverse
def rotL (l : List Pt) (k : Nat) : List Pt := l.drop k ++ l.take k
theorem turnL_length (l : List Pt) : (turnL l).length = l.length := by unfold turnL; simp; omega
theorem rotL_length (l : List Pt) (k : Nat) : (rotL l k).length = l.length := by unfold rotL; simp; omega
theorem mem_turnL {l : List Pt} {x : Pt} : x ∈ turnL l ↔ x ∈ l := by
  cases l with
  | nil => simp [turnL]
  | cons a r => simp [turnL]
theorem mem_rotL {l : List Pt} {k : Nat} {x : Pt} : x ∈ rotL l k ↔ x ∈ l := by
  unfold rotL
  rw [List.mem_append, Or.comm, ← List.mem_append, List.take_append_drop]
theorem turnL_turnL (l : List Pt) : turnL (turnL l) = l := by
  cases l with
  | nil => rfl
  | cons a r => simp [turnL]
theorem turn_rot {l : List Pt} {k : Nat} (hk : k < l.length) : ∃ j, j < l.length ∧ turnL (rotL l k) = rotL (turnL l) j := by
  by_cases h0 : k = 0
  · subst h0
    exact ⟨0, hk, by simp [rotL]⟩
  · match l, hk with
    | a :: r, hk =>
      obtain ⟨k, rfl⟩ : ∃ m, k = m + 1 := ⟨k - 1, by omega⟩
      have hk' : k < r.length := by simpa using hk
      have e : r = r.take k ++ r[k] :: r.drop (k + 1) := by rw [← List.drop_eq_getElem_cons hk', List.take_append_drop]
      generalize ht : r.take k = t at e
      generalize hd : r.drop (k + 1) = d at e
      generalize hx : r[k] = x at e
      have lt : t.length = k := by rw [← ht]; simp; omega
      have ld : d.length = r.length - (k + 1) := by rw [← hd]; simp
      refine ⟨d.length + 1, by simp; omega, ?_⟩
      have e1 : rotL (a :: r) (k + 1) = x :: d ++ a :: t := by
        unfold rotL
        simp only [List.drop_succ_cons, List.take_succ_cons]
        rw [ht, List.drop_eq_getElem_cons hk', hd, hx]
      have e2 : turnL (a :: r) = (a :: d.reverse) ++ x :: t.reverse := by
        unfold turnL; rw [e]; simp
      rw [e1, e2]
      have e3 : rotL ((a :: d.reverse) ++ x :: t.reverse) (d.length + 1) = x :: t.reverse ++ a :: d.reverse := by
        unfold rotL
        rw [List.drop_left' (by simp), List.take_left' (by simp)]
      rw [e3]
      simp [turnL]
theorem rot_turn {l : List Pt} {k : Nat} (hk : k < l.length) : ∃ j, j < l.length ∧ rotL (turnL l) k = turnL (rotL l j) := by
  obtain ⟨j, hj, e⟩ := turn_rot (l := turnL l) (k := k) (by rw [turnL_length]; exact hk)
  rw [turnL_turnL] at e
  refine ⟨j, by rw [turnL_length] at hj; exact hj, ?_⟩
  rw [← e, turnL_turnL]
end Go.Proofs.Ytphcblbkofiidaa.G
