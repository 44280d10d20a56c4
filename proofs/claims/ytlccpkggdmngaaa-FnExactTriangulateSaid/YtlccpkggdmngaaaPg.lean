/- The laws' marks on lists of points: what is written is found again. The bounds stand in each theorem. -/
import Derived.Test.YtlccpkggdmngaaaFA
import Derived.Test.YtlccpkggdmngaaaF45
namespace Go.Proofs.Ytlccpkggdmngaaa.G
open Go.RowKit Go.Proofs.YtlccpkggdmngaaaW.PrintWords Go.Proofs.YtlccpkggdmngaaaW.PrintLast Go.Proofs.YtlccpkggdmngaaaW.PrintMore
set_option linter.unusedSimpArgs false
set_option linter.unusedVariables false
/-- n points with the numbers from s on. -/
def marks (s : Int) : Nat → List Pt
  | 0 => []
  | n + 1 => ⟨s, s + 1⟩ :: marks (s + 2) n
theorem marks_length (n : Nat) : ∀ s, (marks s n).length = n := by
  induction n with
  | zero => intro s; rfl
  | succ n ih => intro s; simp [marks, ih]
theorem marks_snoc (n : Nat) : ∀ s, marks s (n + 1) = marks s n ++ [⟨s + 2 * n, s + 2 * n + 1⟩] := by
  induction n with
  | zero => intro s; simp [marks]
  | succ n ih =>
    intro s
    rw [marks, ih (s + 2), marks]
    have e : s + 2 + 2 * (n : Int) = s + 2 * ((n + 1 : Nat) : Int) := by push_cast; omega
    rw [e]; rfl
theorem mark_l0 (l : List Pt) (hl : l.length ≤ 1048576) (s : Int) (h0 : 0 ≤ s) (h1 : s ≤ 1000000000000) (d : Nat) : ∀ (k i : Nat), i + d = l.length → d < k →
    laws_markPointS.l0 k (marks s i ++ l.drop i) (s + 2 * i) (i : Int) = some (s + 2 * l.length, marks s l.length) := by
  induction d with
  | zero =>
    intro k i h hk
    obtain ⟨k, rfl⟩ : ∃ m, k = m + 1 := ⟨k - 1, by omega⟩
    have e : i = l.length := by omega
    subst e
    simp only [laws_markPointS.l0]
    rw [if_neg (by simp [marks_length])]
    simp
  | succ d ih =>
    intro k i h hk
    obtain ⟨k, rfl⟩ : ∃ m, k = m + 1 := ⟨k - 1, by omega⟩
    have hi : i < l.length := by omega
    have hlen : (marks s i ++ l.drop i).length = l.length := by simp [marks_length]; omega
    simp only [laws_markPointS.l0]
    rw [hlen, if_pos (by omega), if_pos (by omega), Int.toNat_natCast, wrap64_id (x := s + 2 * i + 1) (by omega) (by omega), wrap64_id (x := s + 2 * i + 1 + 1) (by omega) (by omega), wrap64_id (x := (i : Int) + 1) (by omega) (by omega)]
    simp only [Option.bind_some]
    have e1 : ∀ p : Pt, (marks s i ++ l.drop i).set i p = marks s i ++ p :: l.drop (i + 1) := by
      intro p
      rw [List.set_append_right _ _ (by simp [marks_length])]
      rw [marks_length, Nat.sub_self, List.drop_eq_getElem_cons hi, List.set_cons_zero]
    rw [e1]
    have e2 : ∀ p q : Pt, (marks s i ++ p :: l.drop (i + 1)).set i q = marks s i ++ q :: l.drop (i + 1) := by
      intro p q
      rw [List.set_append_right _ _ (by simp [marks_length]), marks_length, Nat.sub_self, List.set_cons_zero]
    rw [e2]
    have e3 : ∀ p : Pt, rd_T27 (marks s i ++ p :: l.drop (i + 1)) (i : Int) = p := by
      intro p
      rw [rd_at _ i (by simp [marks_length])]
      rw [List.getElem_append_right (by simp [marks_length])]
      simp [marks_length]
    rw [e3]
    have ih' := ih k (i + 1) (by omega) (by omega)
    rw [marks_snoc, List.append_assoc] at ih'
    push_cast at ih'
    have e4 : s + 2 * ((i : Int) + 1) = s + 2 * i + 1 + 1 := by omega
    rw [e4] at ih'
    exact ih'
theorem markPointS_eq (l : List Pt) (hl : l.length ≤ 1048576) (s : Int) (h0 : 0 ≤ s) (h1 : s ≤ 1000000000000) (k : Nat) (hk : l.length < k) : laws_markPointS.f k l s = some (s + 2 * l.length, marks s l.length) := by
  have := mark_l0 l hl s h0 h1 l.length k 0 (by omega) hk
  simpa [laws_markPointS.f, marks] using this
end Go.Proofs.Ytlccpkggdmngaaa.G
