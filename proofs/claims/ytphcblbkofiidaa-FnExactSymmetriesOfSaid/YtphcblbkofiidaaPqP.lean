/- SamePolygon: both functions answer alike. The bounds stand in each theorem. -/
import Derived.Test.YtphcblbkofiidaaPca
import Derived.Test.YtphcblbkofiidaaPbn
import Derived.Test.YtphcblbkofiidaaPhS
import Derived.Test.YtphcblbkofiidaaPA
import Derived.Test.YtphcblbkofiidaaF102
import Derived.Test.YtphcblbkofiidaaF21
namespace Go.Proofs.Ytphcblbkofiidaa.G
open Go.RowKit Go.Proofs.YtphcblbkofiidaaW.PrintWords Go.Proofs.YtphcblbkofiidaaW.PrintLast Go.Proofs.YtphcblbkofiidaaW.PrintMore
set_option linter.unusedSimpArgs false
set_option linter.unusedVariables false
theorem neq_pt (p q : Pt) : ((!(p.f0 == q.f0) || (!(p.f1 == q.f1))) = true) ↔ p ≠ q := by
  constructor
  · intro h e; subst e; simp at h
  · intro h
    by_cases h0 : p.f0 = q.f0
    · by_cases h1 : p.f1 = q.f1
      · exact absurd (by cases p; cases q; simp_all) h
      · simp [h1]
    · simp [h0]
theorem drop_step {a b : List Pt} {i : Nat} (hi : i < a.length) (hj : i < b.length) : (a.drop i = b.drop i) = (a[i] = b[i] ∧ a.drop (i + 1) = b.drop (i + 1)) := by
  rw [List.drop_eq_getElem_cons hi, List.drop_eq_getElem_cons hj, List.cons.injEq]
theorem spec_equal_l0 (a b : List Pt) (hab : a.length = b.length) (hl : a.length ≤ 1000) (d : Nat) : ∀ (k i : Nat), i + d = a.length → d < k →
    spec_l03Equal.l0 k b a (a.length : Int) (i : Int) = some (decide (a.drop i = b.drop i)) := by
  induction d with
  | zero =>
    intro k i h hk
    obtain ⟨k, rfl⟩ : ∃ m, k = m + 1 := ⟨k - 1, by omega⟩
    simp only [spec_l03Equal.l0]
    rw [if_neg (by omega), List.drop_of_length_le (by omega), List.drop_of_length_le (by omega)]; simp
  | succ d ih =>
    intro k i h hk
    obtain ⟨k, rfl⟩ : ∃ m, k = m + 1 := ⟨k - 1, by omega⟩
    have hi : i < a.length := by omega
    have hj : i < b.length := by omega
    simp only [spec_l03Equal.l0]
    rw [if_pos (by omega), if_pos (by omega), if_pos (by omega), if_pos (by omega), rd_at a i hi, rd_at b i hj, wrap64_id (by omega) (by omega)]
    have ih' := ih k (i + 1) (by omega) (by omega)
    push_cast at ih'
    by_cases e : a[i] = b[i]
    · rw [if_neg (fun hh => (neq_pt a[i] b[i]).1 hh e), ih']
      congr 1
      rw [decide_eq_decide, drop_step hi hj]
      simp [e]
    · rw [if_pos ((neq_pt a[i] b[i]).2 e)]
      congr 1
      exact (decide_eq_false (by rw [drop_step hi hj]; exact fun h => e h.1)).symm
theorem spec_equal_eq (a b : List Pt) (hl : a.length ≤ 1000) (k : Nat) (hk : 1000 < k) : spec_l03Equal.f k a b = some (decide (a = b)) := by
  unfold spec_l03Equal.f
  by_cases h : a.length = b.length
  · rw [if_pos (by omega)]
    have := spec_equal_l0 a b h hl a.length k 0 (by omega) (by omega)
    simpa using this
  · rw [if_neg (by omega)]
    have : ¬ a = b := fun e => h (by rw [e])
    simp [this]
theorem impl_equal_l0 (a b : List Pt) (hab : a.length = b.length) (hl : a.length ≤ 1000) (d : Nat) : ∀ (k i : Nat), i + d = a.length → d < k →
    impl_Point_73.l0 k a b (a.length : Int) (i : Int) = some (decide (a.drop i = b.drop i)) := by
  induction d with
  | zero =>
    intro k i h hk
    obtain ⟨k, rfl⟩ : ∃ m, k = m + 1 := ⟨k - 1, by omega⟩
    simp only [impl_Point_73.l0]
    rw [if_neg (by omega), List.drop_of_length_le (by omega), List.drop_of_length_le (by omega)]; simp
  | succ d ih =>
    intro k i h hk
    obtain ⟨k, rfl⟩ : ∃ m, k = m + 1 := ⟨k - 1, by omega⟩
    have hi : i < a.length := by omega
    have hj : i < b.length := by omega
    simp only [impl_Point_73.l0]
    rw [if_pos (by omega), if_pos (by omega), if_pos (by omega), if_pos (by omega), rd_at a i hi, rd_at b i hj, wrap64_id (by omega) (by omega)]
    have ih' := ih k (i + 1) (by omega) (by omega)
    push_cast at ih'
    by_cases e : a[i] = b[i]
    · rw [if_neg (fun hh => (neq_pt a[i] b[i]).1 hh e), ih']
      congr 1
      rw [decide_eq_decide, drop_step hi hj]
      simp [e]
    · rw [if_pos ((neq_pt a[i] b[i]).2 e)]
      congr 1
      exact (decide_eq_false (by rw [drop_step hi hj]; exact fun h => e h.1)).symm
theorem impl_equal_eq (a b : List Pt) (hl : a.length ≤ 1000) (k : Nat) (hk : 1000 < k) : impl_Point_73.f k a b = some (decide (a = b)) := by
  unfold impl_Point_73.f
  by_cases h : a.length = b.length
  · rw [if_pos (by omega)]
    have := impl_equal_l0 a b h hl a.length k 0 (by omega) (by omega)
    simpa using this
  · rw [if_neg (by omega)]
    have : ¬ a = b := fun e => h (by rw [e])
    simp [this]
theorem spec_start_eq_ {l : List Pt} (hl : l.length ≤ 1000) {a : Int} (h0 : 0 ≤ a) (h1 : a ≤ l.length) : spec_l03Start.f l a = some (rotL l a.toNat) := by
  unfold spec_l03Start.f
  simp only [Option.bind_some, List.nil_append]
  rw [if_pos h0, if_pos h1, if_pos (by simp; omega), if_pos (by simp; omega)]
  rfl
theorem spec_turn_l0_ {l : List Pt} (hn : l.length ≤ 1000) (d : Nat) : ∀ (k : Nat), d + 1 ≤ l.length → d < k →
    spec_l03Turn.l0 k l (l.take 1 ++ (l.drop (d + 1)).reverse) (d : Int) = some (turnL l) := by
  induction d with
  | zero =>
    intro k h hk
    obtain ⟨k, rfl⟩ : ∃ m, k = m + 1 := ⟨k - 1, by omega⟩
    simp only [spec_l03Turn.l0]
    rw [if_neg (by omega)]
    rfl
  | succ d ih =>
    intro k h hk
    obtain ⟨k, rfl⟩ : ∃ m, k = m + 1 := ⟨k - 1, by omega⟩
    have hi : d + 1 < l.length := by omega
    have w : wrap64 (((d + 1 : Nat) : Int) - 1) = (d : Int) := by rw [wrap64_id (by omega) (by omega)]; omega
    simp only [spec_l03Turn.l0]
    rw [if_pos (by omega), if_pos (by omega), if_pos (by omega), if_pos (by simp; omega), w, rd_at l (d + 1) hi]
    have e : (l.take 1 ++ (l.drop (d + 1 + 1)).reverse) ++ [(⟨(l[d + 1]).f0, (l[d + 1]).f1⟩ : Pt)] = l.take 1 ++ (l.drop (d + 1)).reverse := by
      rw [List.drop_eq_getElem_cons hi, List.reverse_cons, List.append_assoc]
    rw [e]
    exact ih k (by omega) (by omega)
theorem spec_turn_eq_ {l : List Pt} (hn : l.length ≤ 1000) (h0 : 0 < l.length) (k : Nat) (hk : 1000 < k) : spec_l03Turn.f k l = some (turnL l) := by
  unfold spec_l03Turn.f
  have g0 : rd_T27 l 0 = l[0] := rd_at l 0 h0
  have w : wrap64 ((l.length : Int) - 1) = ((l.length - 1 : Nat) : Int) := by rw [wrap64_id (by omega) (by omega)]; omega
  rw [if_pos (by omega), g0, w]
  have := spec_turn_l0_ hn (l.length - 1) k (by omega) (by omega)
  rw [show l.length - 1 + 1 = l.length by omega, List.drop_length, List.reverse_nil, List.append_nil] at this
  have e : l.take 1 = [l[0]] := by
    match l, h0 with
    | a :: r, _ => rfl
  rw [e] at this
  exact this
theorem impl_turn_eq_ {l : List Pt} (hn : l.length ≤ 1000) (h0 : 0 < l.length) : impl_turned.f l = some (turnL l) := by
  unfold impl_turned.f
  rw [if_pos h0, if_pos (by omega)]; rfl
/-- The rounds from i on find a place. -/
def foundP (P : Nat → Prop) [DecidablePred P] (n i : Nat) : Bool := decide (∃ j, j < n ∧ i ≤ j ∧ P j)
theorem foundP_end {P : Nat → Prop} [DecidablePred P] {n : Nat} : foundP P n n = false := decide_eq_false (fun ⟨j, h1, h2, _⟩ => by omega)
theorem foundP_hit {P : Nat → Prop} [DecidablePred P] {n i : Nat} (hi : i < n) (h : P i) : foundP P n i = true := decide_eq_true ⟨i, hi, Nat.le_refl _, h⟩
theorem foundP_miss {P : Nat → Prop} [DecidablePred P] {n i : Nat} (h : ¬ P i) : foundP P n i = foundP P n (i + 1) := by
  unfold foundP
  rw [decide_eq_decide]
  constructor
  · rintro ⟨j, h1, h2, h3⟩
    refine ⟨j, h1, ?_, h3⟩
    rcases Nat.lt_or_ge i j with h4 | h4
    · exact h4
    · exact absurd (show P i by rw [show i = j by omega]; exact h3) h
  · rintro ⟨j, h1, h2, h3⟩
    exact ⟨j, h1, by omega, h3⟩
theorem spec_same_l0 {a b : List Pt} (ha : a.length ≤ 1000) (hb : b.length ≤ 1000) (d : Nat) : ∀ (k i : Nat), i + d = b.length → d + 2000 < k →
    spec_SamePolygon.l0 k a b (b.length : Int) (i : Int) = some (foundP (fun j => a = rotL b j ∨ a = turnL (rotL b j)) b.length i) := by
  induction d with
  | zero =>
    intro k i h hk
    obtain ⟨k, rfl⟩ : ∃ m, k = m + 1 := ⟨k - 1, by omega⟩
    simp only [spec_SamePolygon.l0]
    rw [if_neg (by omega), show i = b.length by omega, foundP_end]
  | succ d ih =>
    intro k i h hk
    obtain ⟨k, rfl⟩ : ∃ m, k = m + 1 := ⟨k - 1, by omega⟩
    have hi : i < b.length := by omega
    have ih' := ih k (i + 1) (by omega) (by omega)
    push_cast at ih'
    simp only [spec_SamePolygon.l0]
    rw [if_pos (by omega), spec_start_eq_ (by omega) (by omega) (by omega), Option.bind_some, Int.toNat_natCast, spec_equal_eq a _ ha k (by omega), Option.bind_some]
    by_cases e1 : a = rotL b i
    · rw [if_pos (decide_eq_true e1), foundP_hit hi (Or.inl e1)]
    · rw [if_neg (by simpa using e1), spec_turn_eq_ (by rw [rotL_length]; omega) (by rw [rotL_length]; omega) k (by omega), Option.bind_some, spec_equal_eq a _ ha k (by omega), Option.bind_some]
      by_cases e2 : a = turnL (rotL b i)
      · rw [if_pos (decide_eq_true e2), foundP_hit hi (Or.inr e2)]
      · rw [if_neg (by simpa using e2), wrap64_id (by omega) (by omega), ih', ← foundP_miss (P := fun j => a = rotL b j ∨ a = turnL (rotL b j)) (i := i) (fun h => h.elim e1 e2)]
theorem impl_same_l1 {a c : List Pt} (ha : a.length ≤ 1000) (hc : c.length ≤ 1000) (d : Nat) : ∀ (k i : Nat), i + d = c.length → d + 2000 < k →
    impl_SamePolygon.l1 k a c (i : Int) = some (foundP (fun j => a = rotL c j) c.length i) := by
  induction d with
  | zero =>
    intro k i h hk
    obtain ⟨k, rfl⟩ : ∃ m, k = m + 1 := ⟨k - 1, by omega⟩
    simp only [impl_SamePolygon.l1]
    rw [if_neg (by omega), show i = c.length by omega, foundP_end]
  | succ d ih =>
    intro k i h hk
    obtain ⟨k, rfl⟩ : ∃ m, k = m + 1 := ⟨k - 1, by omega⟩
    have hi : i < c.length := by omega
    have ih' := ih k (i + 1) (by omega) (by omega)
    push_cast at ih'
    simp only [impl_SamePolygon.l1]
    rw [if_pos (by omega), if_pos (by omega), Int.toNat_natCast, impl_rot c hc k (by omega), Option.bind_some, impl_equal_eq a _ ha k (by omega), Option.bind_some]
    by_cases e1 : a = rotL c i
    · rw [if_pos (decide_eq_true e1), foundP_hit hi e1]
    · rw [if_neg (by simpa using e1), wrap64_id (by omega) (by omega), ih', ← foundP_miss (P := fun j => a = rotL c j) (i := i) e1]
/-- Two lists are the same up to their start and their turning. -/
def sameL (a b : List Pt) : Bool := foundP (fun j => a = rotL b j ∨ a = turnL (rotL b j)) b.length 0
theorem sameL_or (a b : List Pt) : sameL a b = (foundP (fun j => a = rotL b j) b.length 0 || foundP (fun j => a = rotL (turnL b) j) (turnL b).length 0) := by
  unfold sameL foundP
  rw [Bool.eq_iff_iff, Bool.or_eq_true]
  simp only [decide_eq_true_eq]
  constructor
  · rintro ⟨j, h1, h2, h | h⟩
    · exact .inl ⟨j, h1, h2, h⟩
    · obtain ⟨i, hi, e⟩ := turn_rot h1
      exact .inr ⟨i, by rw [turnL_length]; exact hi, Nat.zero_le _, by rw [h, e]⟩
  · rintro (⟨j, h1, h2, h⟩ | ⟨j, h1, h2, h⟩)
    · exact ⟨j, h1, h2, .inl h⟩
    · rw [turnL_length] at h1
      obtain ⟨i, hi, e⟩ := rot_turn h1
      exact ⟨i, hi, Nat.zero_le _, .inr (by rw [h, e])⟩
theorem impl_same_l0 {a b : List Pt} (ha : a.length ≤ 1000) (hb : b.length ≤ 1000) (k : Nat) (hk : 4000 < k) : impl_SamePolygon.l0 k a [b, turnL b] 3 0 = some (sameL a b) := by
  have w1 : wrap64 (0 + 1) = 1 := (wrap64_id (by omega) (by omega)).trans (by omega)
  have w2 : wrap64 (1 + 1) = 2 := (wrap64_id (by omega) (by omega)).trans (by omega)
  have n2 : (([b, turnL b].length : Nat) : Int) = 2 := rfl
  have g0 : ([b, turnL b].getD (0 : Int).toNat []) = b := rfl
  have g1 : ([b, turnL b].getD (1 : Int).toNat []) = turnL b := rfl
  have i0 := impl_same_l1 ha hb b.length k 0 (by omega) (by omega)
  have i1 := impl_same_l1 (c := turnL b) ha (by rw [turnL_length]; omega) (turnL b).length k 0 (by omega) (by rw [turnL_length]; omega)
  rw [show ((0 : Nat) : Int) = 0 from rfl] at i0 i1
  rw [impl_SamePolygon.l0, n2, if_pos (by decide), if_pos (by decide), g0, i0, Option.bind_some, w1, sameL_or]
  by_cases h0 : foundP (fun j => a = rotL b j) b.length 0 = true
  · rw [if_pos h0, h0]; rfl
  · rw [if_neg h0, impl_SamePolygon.l0, n2, if_pos (by decide), if_pos (by decide), g1, i1, Option.bind_some, w2]
    rw [Bool.not_eq_true] at h0
    rw [h0, Bool.false_or]
    by_cases h1 : foundP (fun j => a = rotL (turnL b) j) (turnL b).length 0 = true
    · rw [if_pos h1, h1]
    · rw [if_neg h1, impl_SamePolygon.l0, n2, if_neg (by decide)]
      rw [Bool.not_eq_true] at h1
      rw [h1]
theorem all_SamePolygon (l m : List Pt) (hl : l.length ≤ 1048576) (hm : m.length ≤ 1048576) : ∃ r : Bool, ∀ k, 10000 < k → spec_SamePolygon.f k l m = some r ∧ impl_SamePolygon.f k l m = some r := by
  by_cases hp : impl_PolygonOk.ok l = true
  · by_cases hq : impl_PolygonOk.ok m = true
    · have hP := (impl_ok_iff _).1 hp
      have hQ := (impl_ok_iff _).1 hq
      have h10 := hP.n10
      have g10 := hQ.n10
      have hb := bent_len l l.length
      have hc := bent_len m m.length
      have hn : 0 < (bent m m.length).length := List.length_pos_iff.2 (bent_ne hQ)
      refine ⟨sameL (bent l l.length) (bent m m.length), fun k hk => ⟨?_, ?_⟩⟩
      · unfold spec_SamePolygon.f
        rw [spec_PolygonOk_eq _ (by omega) _ (by omega), Option.bind_some, if_pos hp, spec_PolygonOk_eq _ (by omega) _ (by omega), Option.bind_some, hq]
        obtain ⟨k, rfl⟩ : ∃ m, k = m + 1 := ⟨k - 1, by omega⟩
        rw [spec_SamePolygon.j0, if_neg (by simp), spec_straight_eq hP k (by omega), Option.bind_some, spec_straight_eq hQ k (by omega), Option.bind_some]
        exact spec_same_l0 (by omega) (by omega) _ k 0 (Nat.zero_add _) (by omega)
      · unfold impl_SamePolygon.f
        rw [impl_PolygonOk_some, Option.bind_some, if_pos hp, impl_PolygonOk_some, Option.bind_some, if_pos hq, impl_straight_eq hP k (by omega), Option.bind_some, impl_straight_eq hQ k (by omega), Option.bind_some, impl_turn_eq_ (by omega) hn, Option.bind_some]
        exact impl_same_l0 (by omega) (by omega) k (by omega)
    · refine ⟨false, fun k hk => ⟨?_, ?_⟩⟩
      · unfold spec_SamePolygon.f
        rw [spec_PolygonOk_eq _ (by omega) _ (by omega), Option.bind_some, if_pos hp, spec_PolygonOk_eq _ (by omega) _ (by omega), Option.bind_some]
        obtain ⟨k, rfl⟩ : ∃ m, k = m + 1 := ⟨k - 1, by omega⟩
        rw [spec_SamePolygon.j0, if_pos (by simpa using hq)]
      · unfold impl_SamePolygon.f
        rw [impl_PolygonOk_some, Option.bind_some, if_pos hp, impl_PolygonOk_some, Option.bind_some, if_neg hq]
  · refine ⟨false, fun k hk => ⟨?_, ?_⟩⟩
    · unfold spec_SamePolygon.f
      rw [spec_PolygonOk_eq _ (by omega) _ (by omega), Option.bind_some, if_neg hp]
      obtain ⟨k, rfl⟩ : ∃ m, k = m + 1 := ⟨k - 1, by omega⟩
      rw [spec_SamePolygon.j0, if_pos rfl]
    · unfold impl_SamePolygon.f
      rw [impl_PolygonOk_some, Option.bind_some, if_neg hp]
end Go.Proofs.Ytphcblbkofiidaa.G
