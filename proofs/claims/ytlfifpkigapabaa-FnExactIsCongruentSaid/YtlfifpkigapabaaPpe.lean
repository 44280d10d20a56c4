/- Lists of points compared, begun elsewhere and turned: what both sides' functions come to. The bounds stand in each theorem. -/
import Derived.Test.YtlfifpkigapabaaPca
import Derived.Test.YtlfifpkigapabaaPA
import Derived.Test.YtlfifpkigapabaaF39
import Derived.Test.YtlfifpkigapabaaF53
import Derived.Test.YtlfifpkigapabaaF54
import Derived.Test.YtlfifpkigapabaaF58
import Derived.Test.YtlfifpkigapabaaF41
namespace Go.Proofs.Ytlfifpkigapabaa.G
open Go.RowKit Go.Proofs.YtlfifpkigapabaaW.PrintWords Go.Proofs.YtlfifpkigapabaaW.PrintLast Go.Proofs.YtlfifpkigapabaaW.PrintMore
set_option linter.unusedSimpArgs false
set_option linter.unusedVariables false
theorem neq_pt (p q : Pt) : ((!(p.f0 == q.f0) || (!(p.f1 == q.f1))) = true) ↔ p ≠ q := by
  constructor
  · intro h e; subst e; simp at h
  · intro h
    by_cases h0 : p.f0 = q.f0
    · by_cases h1 : p.f1 = q.f1
      · exact absurd (by cases p; cases q; simp_all) h
      · simp [h1]
    · simp [h0]
theorem drop_step {a b : List Pt} {i : Nat} (hi : i < a.length) (hj : i < b.length) : (a.drop i = b.drop i) = (a[i] = b[i] ∧ a.drop (i + 1) = b.drop (i + 1)) := by
  rw [List.drop_eq_getElem_cons hi, List.drop_eq_getElem_cons hj, List.cons.injEq]
theorem spec_equal_l0 (a b : List Pt) (hab : a.length = b.length) (hl : a.length ≤ 1000) (d : Nat) : ∀ (k i : Nat), i + d = a.length → d < k →
    spec_l03Equal.l0 k b a (a.length : Int) (i : Int) = some (decide (a.drop i = b.drop i)) := by
  induction d with
  | zero =>
    intro k i h hk
    obtain ⟨k, rfl⟩ : ∃ m, k = m + 1 := ⟨k - 1, by omega⟩
    simp only [spec_l03Equal.l0]
    rw [if_neg (by omega), List.drop_of_length_le (by omega), List.drop_of_length_le (by omega)]; simp
  | succ d ih =>
    intro k i h hk
    obtain ⟨k, rfl⟩ : ∃ m, k = m + 1 := ⟨k - 1, by omega⟩
    have hi : i < a.length := by omega
    have hj : i < b.length := by omega
    simp only [spec_l03Equal.l0]
    rw [if_pos (by omega), if_pos (by omega), if_pos (by omega), if_pos (by omega), rd_at a i hi, rd_at b i hj, wrap64_id (by omega) (by omega)]
    have ih' := ih k (i + 1) (by omega) (by omega)
    push_cast at ih'
    by_cases e : a[i] = b[i]
    · rw [if_neg (fun hh => (neq_pt a[i] b[i]).1 hh e), ih']
      congr 1
      rw [decide_eq_decide, drop_step hi hj]
      simp [e]
    · rw [if_pos ((neq_pt a[i] b[i]).2 e)]
      congr 1
      exact (decide_eq_false (by rw [drop_step hi hj]; exact fun h => e h.1)).symm
theorem spec_equal_eq (a b : List Pt) (hl : a.length ≤ 1000) (k : Nat) (hk : 1000 < k) : spec_l03Equal.f k a b = some (decide (a = b)) := by
  unfold spec_l03Equal.f
  by_cases h : a.length = b.length
  · rw [if_pos (by omega)]
    have := spec_equal_l0 a b h hl a.length k 0 (by omega) (by omega)
    simpa using this
  · rw [if_neg (by omega)]
    have : ¬ a = b := fun e => h (by rw [e])
    simp [this]
theorem impl_equal_l0 (a b : List Pt) (hab : a.length = b.length) (hl : a.length ≤ 1000) (d : Nat) : ∀ (k i : Nat), i + d = a.length → d < k →
    impl_Point_41.l0 k a b (a.length : Int) (i : Int) = some (decide (a.drop i = b.drop i)) := by
  induction d with
  | zero =>
    intro k i h hk
    obtain ⟨k, rfl⟩ : ∃ m, k = m + 1 := ⟨k - 1, by omega⟩
    simp only [impl_Point_41.l0]
    rw [if_neg (by omega), List.drop_of_length_le (by omega), List.drop_of_length_le (by omega)]; simp
  | succ d ih =>
    intro k i h hk
    obtain ⟨k, rfl⟩ : ∃ m, k = m + 1 := ⟨k - 1, by omega⟩
    have hi : i < a.length := by omega
    have hj : i < b.length := by omega
    simp only [impl_Point_41.l0]
    rw [if_pos (by omega), if_pos (by omega), if_pos (by omega), if_pos (by omega), rd_at a i hi, rd_at b i hj, wrap64_id (by omega) (by omega)]
    have ih' := ih k (i + 1) (by omega) (by omega)
    push_cast at ih'
    by_cases e : a[i] = b[i]
    · rw [if_neg (fun hh => (neq_pt a[i] b[i]).1 hh e), ih']
      congr 1
      rw [decide_eq_decide, drop_step hi hj]
      simp [e]
    · rw [if_pos ((neq_pt a[i] b[i]).2 e)]
      congr 1
      exact (decide_eq_false (by rw [drop_step hi hj]; exact fun h => e h.1)).symm
theorem impl_equal_eq (a b : List Pt) (hl : a.length ≤ 1000) (k : Nat) (hk : 1000 < k) : impl_Point_41.f k a b = some (decide (a = b)) := by
  unfold impl_Point_41.f
  by_cases h : a.length = b.length
  · rw [if_pos (by omega)]
    have := impl_equal_l0 a b h hl a.length k 0 (by omega) (by omega)
    simpa using this
  · rw [if_neg (by omega)]
    have : ¬ a = b := fun e => h (by rw [e])
    simp [this]
theorem spec_start_eq_ {l : List Pt} (hl : l.length ≤ 1000) {a : Int} (h0 : 0 ≤ a) (h1 : a ≤ l.length) : spec_l03Start.f l a = some (rotL l a.toNat) := by
  unfold spec_l03Start.f
  simp only [Option.bind_some, List.nil_append]
  rw [if_pos h0, if_pos h1, if_pos (by simp; omega), if_pos (by simp; omega)]
  rfl
theorem spec_turn_l0_ {l : List Pt} (hn : l.length ≤ 1000) (d : Nat) : ∀ (k : Nat), d + 1 ≤ l.length → d < k →
    spec_l03Turn.l0 k l (l.take 1 ++ (l.drop (d + 1)).reverse) (d : Int) = some (turnL l) := by
  induction d with
  | zero =>
    intro k h hk
    obtain ⟨k, rfl⟩ : ∃ m, k = m + 1 := ⟨k - 1, by omega⟩
    simp only [spec_l03Turn.l0]
    rw [if_neg (by omega)]
    rfl
  | succ d ih =>
    intro k h hk
    obtain ⟨k, rfl⟩ : ∃ m, k = m + 1 := ⟨k - 1, by omega⟩
    have hi : d + 1 < l.length := by omega
    have w : wrap64 (((d + 1 : Nat) : Int) - 1) = (d : Int) := by rw [wrap64_id (by omega) (by omega)]; omega
    simp only [spec_l03Turn.l0]
    rw [if_pos (by omega), if_pos (by omega), if_pos (by omega), if_pos (by simp; omega), w, rd_at l (d + 1) hi]
    have e : (l.take 1 ++ (l.drop (d + 1 + 1)).reverse) ++ [(⟨(l[d + 1]).f0, (l[d + 1]).f1⟩ : Pt)] = l.take 1 ++ (l.drop (d + 1)).reverse := by
      rw [List.drop_eq_getElem_cons hi, List.reverse_cons, List.append_assoc]
    rw [e]
    exact ih k (by omega) (by omega)
theorem spec_turn_eq_ {l : List Pt} (hn : l.length ≤ 1000) (h0 : 0 < l.length) (k : Nat) (hk : 1000 < k) : spec_l03Turn.f k l = some (turnL l) := by
  unfold spec_l03Turn.f
  have g0 : rd_T38 l 0 = l[0] := rd_at l 0 h0
  have w : wrap64 ((l.length : Int) - 1) = ((l.length - 1 : Nat) : Int) := by rw [wrap64_id (by omega) (by omega)]; omega
  rw [if_pos (by omega), g0, w]
  have := spec_turn_l0_ hn (l.length - 1) k (by omega) (by omega)
  rw [show l.length - 1 + 1 = l.length by omega, List.drop_length, List.reverse_nil, List.append_nil] at this
  have e : l.take 1 = [l[0]] := by
    match l, h0 with
    | a :: r, _ => rfl
  rw [e] at this
  exact this
theorem impl_turn_eq_ {l : List Pt} (hn : l.length ≤ 1000) (h0 : 0 < l.length) : impl_turned.f l = some (turnL l) := by
  unfold impl_turned.f
  rw [if_pos h0, if_pos (by omega)]; rfl
end Go.Proofs.Ytlfifpkigapabaa.G
