/- ShapeOf: both functions hand back the first one of the same lists. The bounds stand in each theorem. -/
import Derived.Test.YtlfifpkigapabaaPpe
import Derived.Test.YtlfifpkigapabaaPbn
import Derived.Test.YtlfifpkigapabaaPhS
import Derived.Test.YtlfifpkigapabaaPqN
import Derived.Test.YtlfifpkigapabaaPB
import Derived.Test.YtlfifpkigapabaaF40
import Derived.Test.YtlfifpkigapabaaF42
namespace Go.Proofs.Ytlfifpkigapabaa.G
open Go.RowKit Go.Proofs.YtlfifpkigapabaaW.PrintWords Go.Proofs.YtlfifpkigapabaaW.PrintLast Go.Proofs.YtlfifpkigapabaaW.PrintMore
set_option linter.unusedSimpArgs false
set_option linter.unusedVariables false
theorem bef_spec (p q : Pt) : spec_BeforePoint.f p.f0 p.f1 q.f0 q.f1 = some (decide (bef p q)) := by
  unfold spec_BeforePoint.f bef
  by_cases h : p.f1 < q.f1
  · rw [if_pos h]; simp [h]
  · rw [if_neg h]
    by_cases g : p.f1 = q.f1
    · rw [if_pos g]; simp [g]
    · rw [if_neg g]; simp [h, g]
theorem bef_impl (p q : Pt) : impl_BeforePoint.f p.f0 p.f1 q.f0 q.f1 = some (decide (bef p q)) := by
  unfold impl_BeforePoint.f bef
  by_cases h : p.f1 < q.f1
  · rw [if_pos h]; simp [h]
  · rw [if_neg h]
    by_cases g : p.f1 = q.f1
    · rw [if_pos g]; simp [g]
    · rw [if_neg g]; simp [h, g]
theorem bef_asymm {p q : Pt} (h : bef p q) : ¬ bef q p := fun g => bef_irrefl _ (bef_trans h g)
theorem cmp_one (p q : Pt) : impl_comparePoints_1.f p.f0 p.f1 q.f0 q.f1 = some (if p = q then 0 else if bef p q then -1 else 1) := by
  unfold impl_comparePoints_1.f
  rw [bef_impl, Option.bind_some]
  by_cases h : bef p q
  · have hne : ¬ p = q := fun e => by rw [e] at h; exact bef_irrefl _ h
    rw [if_pos (by simpa using h), if_neg hne, if_pos h]
  · rw [if_neg (by simpa using h), bef_impl, Option.bind_some]
    by_cases g : bef q p
    · have hne : ¬ p = q := fun e => by rw [e] at g; exact bef_irrefl _ g
      rw [if_pos (by simpa using g), if_neg hne, if_neg h]
    · rw [if_neg (by simpa using g)]
      rcases bef_total p q with e | e | e
      · exact absurd e h
      · rw [if_pos e]
      · exact absurd e g
theorem ltL_cons (a b : Pt) (r s : List Pt) : ltL (a :: r) (b :: s) = if a = b then ltL r s else decide (bef a b) := rfl
theorem before_l0 (a b : List Pt) (hab : a.length = b.length) (hl : a.length ≤ 1000) (d : Nat) : ∀ (k i : Nat), i + d = a.length → d < k →
    spec_l06Before.l0 k b a (a.length : Int) (i : Int) = some (ltL (a.drop i) (b.drop i)) := by
  induction d with
  | zero =>
    intro k i h hk
    obtain ⟨k, rfl⟩ : ∃ m, k = m + 1 := ⟨k - 1, by omega⟩
    simp only [spec_l06Before.l0]
    rw [if_neg (by omega), List.drop_of_length_le (by omega), List.drop_of_length_le (by omega)]; rfl
  | succ d ih =>
    intro k i h hk
    obtain ⟨k, rfl⟩ : ∃ m, k = m + 1 := ⟨k - 1, by omega⟩
    have hi : i < a.length := by omega
    have hj : i < b.length := by omega
    simp only [spec_l06Before.l0]
    rw [if_pos (by omega), if_pos (by omega), if_pos (by omega), if_pos (by omega), rd_at a i hi, rd_at b i hj, wrap64_id (by omega) (by omega), List.drop_eq_getElem_cons hi, List.drop_eq_getElem_cons hj, ltL_cons]
    have ih' := ih k (i + 1) (by omega) (by omega)
    push_cast at ih'
    by_cases e : a[i] = b[i]
    · rw [if_neg (fun hh => (neq_pt a[i] b[i]).1 hh e), ih', if_pos e]
    · rw [if_pos ((neq_pt a[i] b[i]).2 e), if_neg e, bef_spec]
      rfl
theorem before_eq (a b : List Pt) (hab : a.length = b.length) (hl : a.length ≤ 1000) (k : Nat) (hk : 1000 < k) : spec_l06Before.f k a b = some (ltL a b) := by
  unfold spec_l06Before.f
  have := before_l0 a b hab hl a.length k 0 (by omega) (by omega)
  simpa using this
theorem compare_l0 (a b : List Pt) (hab : a.length = b.length) (hl : a.length ≤ 1000) (d : Nat) : ∀ (k i : Nat), i + d = a.length → d < k →
    ∃ t, impl_Point_74.l0 k a b a (a.length : Int) (i : Int) = some t ∧ (t < 0 ↔ ltL (a.drop i) (b.drop i) = true) := by
  induction d with
  | zero =>
    intro k i h hk
    obtain ⟨k, rfl⟩ : ∃ m, k = m + 1 := ⟨k - 1, by omega⟩
    refine ⟨0, ?_, ?_⟩
    · simp only [impl_Point_74.l0]
      rw [if_neg (by omega), if_neg (by omega)]
    · rw [List.drop_of_length_le (by omega), List.drop_of_length_le (by omega)]; simp [ltL]
  | succ d ih =>
    intro k i h hk
    obtain ⟨k, rfl⟩ : ∃ m, k = m + 1 := ⟨k - 1, by omega⟩
    have hi : i < a.length := by omega
    have hj : i < b.length := by omega
    obtain ⟨t, ht, ht'⟩ := ih k (i + 1) (by omega) (by omega)
    push_cast at ht
    simp only [impl_Point_74.l0]
    rw [if_pos (by omega), if_pos (by omega), if_pos (by omega), if_neg (by omega), if_pos (by omega), rd_at a i hi, rd_at b i hj, wrap64_id (by omega) (by omega), List.drop_eq_getElem_cons hi, List.drop_eq_getElem_cons hj, ltL_cons, cmp_one, Option.bind_some]
    by_cases e : a[i] = b[i]
    · rw [if_pos e, if_pos rfl, if_pos e]
      exact ⟨t, ht, ht'⟩
    · rw [if_neg e, if_neg e]
      by_cases g : bef a[i] b[i]
      · rw [if_pos g, if_neg (by decide)]
        exact ⟨-1, rfl, by simp [g]⟩
      · rw [if_neg g, if_neg (by decide)]
        exact ⟨1, rfl, by simp [g]⟩
theorem compare_eq (a b : List Pt) (hab : a.length = b.length) (hl : a.length ≤ 1000) (k : Nat) (hk : 1000 < k) : ∃ t, impl_comparePoints.f k a b = some t ∧ (t < 0 ↔ ltL a b = true) := by
  unfold impl_comparePoints.f impl_Point_74.f
  obtain ⟨t, h1, h2⟩ := compare_l0 a b hab hl a.length k 0 (by omega) (by omega)
  exact ⟨t, by rw [show ((0 : Nat) : Int) = 0 from rfl] at h1; rw [h1]; rfl, by simpa using h2⟩
/-- The lists of a motion's round, by the reference and by the program. -/
def twoS (q : List Pt) (k : Nat) : List (List Pt) := [rotL q k, turnL (rotL q k)]
def allS (q : List Pt) (i d : Nat) : List (List Pt) := (List.range' i d).flatMap (twoS q)
def allI (q : List Pt) (i d : Nat) : List (List Pt) := (List.range' i d).map (rotL q)
def quL (s : List Pt) (m : Nat) : List Pt := cornerL (mvL (m : Int) s)
theorem quL_length (s : List Pt) (m : Nat) : (quL s m).length = s.length := by unfold quL; rw [cornerL_length, mvL_length]
theorem allS_succ (q : List Pt) (i d : Nat) : allS q i (d + 1) = rotL q i :: turnL (rotL q i) :: allS q (i + 1) d := by simp [allS, List.range'_succ, twoS]
theorem allI_succ (q : List Pt) (i d : Nat) : allI q i (d + 1) = rotL q i :: allI q (i + 1) d := by simp [allI, List.range'_succ]
theorem spec_shape_l1 {n K : Nat} {s q : List Pt} {m : Int} {r : List Pt} (hq : q.length = n) (h0 : 0 < n) (hn : n ≤ 1000) (hK : 2000 < K) (d : Nat) : ∀ (i : Nat) (best : List Pt), i + d = n → best.length = n →
    (∀ k, K < k → spec_l06Shape.l0 k s ((allS q i d).foldl pickL best) (wrap64 (m + 1)) = some r) → ∀ k, K + d + 1 < k → spec_l06Shape.l1 k s best m q (n : Int) (i : Int) = some r := by
  induction d with
  | zero =>
    intro i best h hb H k hk
    obtain ⟨k, rfl⟩ : ∃ m, k = m + 1 := ⟨k - 1, by omega⟩
    simp only [spec_l06Shape.l1]
    rw [if_neg (by omega)]
    exact H k (by omega)
  | succ d ih =>
    intro i best h hb H k hk
    obtain ⟨k, rfl⟩ : ∃ m, k = m + 1 := ⟨k - 1, by omega⟩
    have l1 : (rotL q i).length = n := by rw [rotL_length, hq]
    have l2 : (turnL (rotL q i)).length = n := by rw [turnL_length, l1]
    simp only [spec_l06Shape.l1]
    rw [if_pos (by omega), spec_start_eq_ (by omega) (by omega) (by omega), Option.bind_some, Int.toNat_natCast, spec_turn_eq_ (by omega) (by omega) k (by omega), Option.bind_some, before_eq _ _ (by omega) (by omega) k (by omega), Option.bind_some]
    rw [before_eq (turnL (rotL q i)) (rotL q i) (by omega) (by omega) k (by omega), before_eq (turnL (rotL q i)) best (by omega) (by omega) k (by omega), wrap64_id (x := (i : Int) + 1) (by omega) (by omega)]
    rw [allS_succ, List.foldl_cons, List.foldl_cons] at H
    have ih' := ih (i + 1) (pickL (pickL best (rotL q i)) (turnL (rotL q i))) (by omega) (pickL_len (pickL_len hb l1) l2) H k (by omega)
    push_cast at ih'
    rw [Option.bind_some, Option.bind_some]
    unfold pickL at ih'
    by_cases e1 : ltL (rotL q i) best = true
    · rw [if_pos e1] at ih' ⊢
      by_cases e2 : ltL (turnL (rotL q i)) (rotL q i) = true
      · rw [if_pos e2] at ih' ⊢; exact ih'
      · rw [if_neg e2] at ih' ⊢; exact ih'
    · rw [if_neg e1] at ih' ⊢
      by_cases e2 : ltL (turnL (rotL q i)) best = true
      · rw [if_pos e2] at ih' ⊢; exact ih'
      · rw [if_neg e2] at ih' ⊢; exact ih'
def allSM (s : List Pt) (j d : Nat) : List (List Pt) := (List.range' j d).flatMap fun m => allS (quL s m) 0 s.length
theorem pickL_fold {n : Nat} : ∀ {cs : List (List Pt)} {b : List Pt}, b.length = n → (∀ c ∈ cs, c.length = n) → (cs.foldl pickL b).length = n
  | [], b, hb, _ => hb
  | c :: cs, b, hb, h => pickL_fold (cs := cs) (pickL_len hb (h c (by simp))) (fun x hx => h x (by simp [hx]))
theorem allS_len {q : List Pt} {n i d : Nat} (hq : q.length = n) : ∀ c ∈ allS q i d, c.length = n := by
  intro c hc
  obtain ⟨k, _, hk⟩ := List.mem_flatMap.1 hc
  simp [twoS] at hk
  rcases hk with rfl | rfl
  · rw [rotL_length, hq]
  · rw [turnL_length, rotL_length, hq]
theorem spec_shape_l0 {s : List Pt} (h0 : 0 < s.length) (hn : s.length ≤ 1000) (d : Nat) : ∀ (j : Nat) (best : List Pt), j + d = 8 → best.length = s.length → ∀ k, 8000 + d * 2000 < k →
    spec_l06Shape.l0 k s best (j : Int) = some ((allSM s j d).foldl pickL best) := by
  induction d with
  | zero =>
    intro j best h hb k hk
    obtain ⟨k, rfl⟩ : ∃ m, k = m + 1 := ⟨k - 1, by omega⟩
    simp only [spec_l06Shape.l0]
    rw [if_neg (by omega)]; rfl
  | succ d ih =>
    intro j best h hb k hk
    obtain ⟨k, rfl⟩ : ∃ m, k = m + 1 := ⟨k - 1, by omega⟩
    have hq : (cornerL (mvL (j : Int) s)).length = s.length := by rw [cornerL_length, mvL_length]
    simp only [spec_l06Shape.l0]
    rw [if_pos (by omega), spec_move_eq (by omega) (by omega) h0 hn k (by omega), Option.bind_some, hq]
    have e : allSM s j (d + 1) = allS (quL s j) 0 s.length ++ allSM s (j + 1) d := by simp [allSM, List.range'_succ]
    rw [e, List.foldl_append]
    refine spec_shape_l1 (n := s.length) (K := 8000 + d * 2000) hq h0 hn (by omega) s.length 0 best (by omega) hb (fun k' hk' => ?_) k (by omega)
    rw [wrap64_id (by omega) (by omega)]
    exact ih (j + 1) _ (by omega) (pickL_fold hb (allS_len hq)) k' hk'
/-- The program's choice, which begins with no list. -/
def pickN (best c : List Pt) : List Pt := if best.length = 0 then c else pickL best c
theorem pickN_len {n : Nat} {b c : List Pt} (hb : b.length = 0 ∨ b.length = n) (hc : c.length = n) : (pickN b c).length = n := by
  unfold pickN
  by_cases h : b.length = 0
  · rw [if_pos h]; exact hc
  · rw [if_neg h]; exact pickL_len (hb.resolve_left h) hc
theorem pickN_fold {n : Nat} (h0 : 0 < n) : ∀ {cs : List (List Pt)} {b : List Pt}, b.length = n → (∀ c ∈ cs, c.length = n) → cs.foldl pickN b = cs.foldl pickL b
  | [], b, hb, _ => rfl
  | c :: cs, b, hb, h => by
    rw [List.foldl_cons, List.foldl_cons]
    have e : pickN b c = pickL b c := by unfold pickN; rw [if_neg (by omega)]
    rw [e]
    exact pickN_fold h0 (pickL_len hb (h c (by simp))) (fun x hx => h x (by simp [hx]))
theorem pickN_foldlen {n : Nat} : ∀ {cs : List (List Pt)} {b : List Pt}, (b.length = 0 ∨ b.length = n) → (∀ c ∈ cs, c.length = n) → (cs.foldl pickN b).length = 0 ∨ (cs.foldl pickN b).length = n
  | [], b, hb, _ => hb
  | c :: cs, b, hb, h => pickN_foldlen (cs := cs) (Or.inr (pickN_len hb (h c (by simp)))) (fun x hx => h x (by simp [hx]))
theorem impl_shape_l1 {n : Nat} {c : List Pt} (hc : c.length = n) (hn : n ≤ 1000) (d : Nat) : ∀ (i : Nat) (best : List Pt), i + d = n → (best.length = 0 ∨ best.length = n) → ∀ k, 2000 + d < k →
    impl_shape.l1 k c best (i : Int) = some ((allI c i d).foldl pickN best) := by
  induction d with
  | zero =>
    intro i best h hb k hk
    obtain ⟨k, rfl⟩ : ∃ m, k = m + 1 := ⟨k - 1, by omega⟩
    simp only [impl_shape.l1]
    rw [if_neg (by omega)]; rfl
  | succ d ih =>
    intro i best h hb k hk
    obtain ⟨k, rfl⟩ : ∃ m, k = m + 1 := ⟨k - 1, by omega⟩
    have l1 : (rotL c i).length = n := by rw [rotL_length, hc]
    simp only [impl_shape.l1]
    rw [if_pos (by omega), if_pos (by omega), Int.toNat_natCast, impl_rot c (by omega) k (by omega), Option.bind_some, if_neg (by omega), wrap64_id (x := (i : Int) + 1) (by omega) (by omega), allI_succ, List.foldl_cons]
    have ih' := ih (i + 1) (pickN best (rotL c i)) (by omega) (Or.inr (pickN_len hb l1)) k (by omega)
    push_cast at ih'
    rw [← ih']
    by_cases e0 : best.length = 0
    · rw [if_pos e0, show pickN best (rotL c i) = rotL c i by unfold pickN; rw [if_pos e0]]
    · rw [if_neg e0]
      obtain ⟨t, h1, h2⟩ := compare_eq (rotL c i) best (by omega) (by omega) k (by omega)
      rw [h1, Option.bind_some]
      by_cases e1 : ltL (rotL c i) best = true
      · rw [if_pos (h2.2 e1), show pickN best (rotL c i) = rotL c i by unfold pickN pickL; rw [if_neg e0, if_pos e1]]
      · rw [if_neg (fun hh => e1 (h2.1 hh)), show pickN best (rotL c i) = best by unfold pickN pickL; rw [if_neg e0, if_neg e1]]
def bothI (q : List Pt) : List (List Pt) := allI q 0 q.length ++ allI (turnL q) 0 q.length
theorem allI_len {q : List Pt} {n i d : Nat} (hq : q.length = n) : ∀ c ∈ allI q i d, c.length = n := by
  intro c hc
  obtain ⟨k, _, rfl⟩ := List.mem_map.1 hc
  rw [rotL_length, hq]
theorem bothI_len {q : List Pt} {n : Nat} (hq : q.length = n) : ∀ c ∈ bothI q, c.length = n := by
  intro c hc
  rcases List.mem_append.1 hc with h | h
  · exact allI_len hq c h
  · exact allI_len (by rw [turnL_length, hq]) c h
theorem impl_shape_l0 {n : Nat} {q best : List Pt} (hq : q.length = n) (hn : n ≤ 1000) (hb : best.length = 0 ∨ best.length = n) (k : Nat) (hk : 4000 < k) : impl_shape.l0 k [q, turnL q] 3 best 0 = some ((bothI q).foldl pickN best) := by
  have w1 : wrap64 (0 + 1) = 1 := (wrap64_id (by omega) (by omega)).trans (by omega)
  have w2 : wrap64 (1 + 1) = 2 := (wrap64_id (by omega) (by omega)).trans (by omega)
  have n2 : (([q, turnL q].length : Nat) : Int) = 2 := rfl
  have g0 : ([q, turnL q].getD (0 : Int).toNat []) = q := rfl
  have g1 : ([q, turnL q].getD (1 : Int).toNat []) = turnL q := rfl
  have i0 := impl_shape_l1 hq hn n 0 best (by omega) hb k (by omega)
  have i1 := impl_shape_l1 (c := turnL q) (n := n) (by rw [turnL_length, hq]) hn n 0 ((allI q 0 n).foldl pickN best) (by omega) (pickN_foldlen hb (allI_len hq)) k (by omega)
  rw [show ((0 : Nat) : Int) = 0 from rfl] at i0 i1
  rw [impl_shape.l0, n2, if_pos (by decide), if_pos (by decide), g0, i0, Option.bind_some, w1, impl_shape.l0, n2, if_pos (by decide), if_pos (by decide), g1, i1, Option.bind_some, w2, impl_shape.l0, n2, if_neg (by decide)]
  unfold bothI
  rw [List.foldl_append, hq]
def allIM (s : List Pt) (j d : Nat) : List (List Pt) := (List.range' j d).flatMap fun m => bothI (quL s m)
theorem impl_shape_l2 {s : List Pt} (h0 : 0 < s.length) (hn : s.length ≤ 1000) (k : Nat) (hk : 8000 < k) (d : Nat) : ∀ (j : Nat) (best : List Pt), j + d = 8 → (best.length = 0 ∨ best.length = s.length) →
    impl_shape.l2 k s (d + 1) best (j : Int) = some ((allIM s j d).foldl pickN best) := by
  induction d with
  | zero =>
    intro j best h hb
    simp only [impl_shape.l2]
    rw [if_neg (by omega)]; rfl
  | succ d ih =>
    intro j best h hb
    have hq : (quL s j).length = s.length := quL_length s j
    rw [impl_shape.l2, if_pos (by omega), impl_movedOn_eq (by omega) (by omega) h0 hn k (by omega), Option.bind_some]
    rw [show cornerL (mvL (j : Int) s) = quL s j from rfl, impl_turn_eq_ (by omega) (by omega), Option.bind_some, impl_shape_l0 hq hn hb k (by omega), Option.bind_some, wrap64_id (by omega) (by omega)]
    have e : allIM s j (d + 1) = bothI (quL s j) ++ allIM s (j + 1) d := by simp [allIM, List.range'_succ]
    rw [e, List.foldl_append]
    exact ih (j + 1) _ (by omega) (pickN_foldlen hb (bothI_len hq))
theorem IsMin.fold {n : Nat} : ∀ {cs : List (List Pt)} {P : List Pt → Prop} {b : List Pt}, IsMin n P b → (∀ c, P c → c.length = n) → (∀ c ∈ cs, c.length = n) → IsMin n (fun x => P x ∨ x ∈ cs) (cs.foldl pickL b)
  | [], P, b, h, _, _ => h.iff (fun x => by simp)
  | c :: cs, P, b, h, hl, hc => by
    have h1 := IsMin.pick h (hc c (by simp)) hl
    have h2 := IsMin.fold (cs := cs) h1 (fun x hx => hx.elim (hl x) (fun e => by rw [e]; exact hc c (by simp))) (fun x hx => hc x (by simp [hx]))
    rw [List.foldl_cons]
    exact h2.iff (fun x => by simp [or_assoc])
theorem mem_allS {q x : List Pt} : x ∈ allS q 0 q.length ↔ ∃ k, k < q.length ∧ (x = rotL q k ∨ x = turnL (rotL q k)) := by
  simp [allS, twoS, List.mem_flatMap, List.mem_range'_1]
theorem mem_bothI {q x : List Pt} : x ∈ bothI q ↔ ∃ k, k < q.length ∧ (x = rotL q k ∨ x = turnL (rotL q k)) := by
  unfold bothI allI
  rw [List.mem_append, List.mem_map, List.mem_map]
  constructor
  · rintro (⟨k, hk, rfl⟩ | ⟨k, hk, rfl⟩)
    · exact ⟨k, by have := List.mem_range'_1.1 hk; omega, .inl rfl⟩
    · obtain ⟨i, hi, e⟩ := rot_turn (l := q) (k := k) (by have := List.mem_range'_1.1 hk; omega)
      exact ⟨i, hi, .inr e⟩
  · rintro ⟨k, hk, rfl | rfl⟩
    · exact .inl ⟨k, List.mem_range'_1.2 (by omega), rfl⟩
    · obtain ⟨i, hi, e⟩ := turn_rot hk
      exact .inr ⟨i, List.mem_range'_1.2 (by omega), e.symm⟩
theorem mem_same (s x : List Pt) : x ∈ allSM s 0 8 ↔ x ∈ allIM s 0 8 := by
  unfold allSM allIM
  rw [List.mem_flatMap, List.mem_flatMap]
  constructor
  · rintro ⟨m, hm, h⟩
    rw [← quL_length s m] at h
    exact ⟨m, hm, mem_bothI.2 (mem_allS.1 h)⟩
  · rintro ⟨m, hm, h⟩
    refine ⟨m, hm, ?_⟩
    rw [← quL_length s m]
    exact mem_allS.2 (mem_bothI.1 h)
theorem shape_same {s : List Pt} (h0 : 0 < s.length) : (allSM s 0 8).foldl pickL (quL s 0) = (allIM s 0 8).foldl pickN [] := by
  have lS : ∀ c ∈ allSM s 0 8, c.length = s.length := by
    intro c hc
    obtain ⟨m, _, h⟩ := List.mem_flatMap.1 hc
    exact allS_len (quL_length s m) c h
  have lI : ∀ c ∈ allIM s 0 8, c.length = s.length := fun c hc => lS c ((mem_same s c).2 hc)
  have m0 : quL s 0 ∈ allSM s 0 8 := by
    refine List.mem_flatMap.2 ⟨0, List.mem_range'_1.2 (by omega), ?_⟩
    rw [← quL_length s 0]
    exact mem_allS.2 ⟨0, by rw [quL_length]; exact h0, .inl (by simp [rotL])⟩
  have h1 := (IsMin.fold (IsMin.one (quL_length s 0)) (fun c hc => by rw [hc]; exact quL_length s 0) lS).iff (Q := fun x => x ∈ allSM s 0 8) (fun x => ⟨fun h => h.elim (fun e => by rw [e]; exact m0) id, .inr⟩)
  cases hI : allIM s 0 8 with
  | nil => rw [mem_same, hI] at m0; simp at m0
  | cons c cs =>
    have hc : c.length = s.length := lI c (by rw [hI]; simp)
    have lc : ∀ x ∈ cs, x.length = s.length := fun x hx => lI x (by rw [hI]; simp [hx])
    rw [List.foldl_cons, show pickN [] c = c from rfl, pickN_fold h0 hc lc]
    have h2 := (IsMin.fold (IsMin.one hc) (fun x hx => by rw [hx]; exact hc) lc).iff (Q := fun x => x ∈ allSM s 0 8) (fun x => by rw [mem_same, hI]; simp)
    exact IsMin.unique lS h1 h2
theorem both_shape {l : List Pt} (hP : Poly l) : ∃ r : List Pt, r.length ≤ 10 ∧ ∀ k, 40000 < k → spec_l06Shape.f k l = some r ∧ impl_shape.f k l = some r := by
  have h10 := hP.n10
  have hb := bent_len l l.length
  have hn : 0 < (bent l l.length).length := List.length_pos_iff.2 (bent_ne hP)
  refine ⟨(allSM (bent l l.length) 0 8).foldl pickL (quL (bent l l.length) 0), ?_, fun k hk => ⟨?_, ?_⟩⟩
  · rw [pickL_fold (quL_length _ 0)]
    · omega
    · intro c hc
      obtain ⟨m, _, h⟩ := List.mem_flatMap.1 hc
      exact allS_len (quL_length _ m) c h
  · unfold spec_l06Shape.f
    rw [spec_straight_eq hP k (by omega), Option.bind_some, spec_move_eq (by omega) (by omega) hn (by omega) k (by omega), Option.bind_some]
    exact spec_shape_l0 hn (by omega) 8 0 (quL (bent l l.length) 0) (by omega) (quL_length _ 0) k (by omega)
  · unfold impl_shape.f
    rw [impl_straight_eq hP k (by omega), Option.bind_some, shape_same hn]
    exact impl_shape_l2 hn (by omega) k (by omega) 8 0 [] (by omega) (Or.inl rfl)
end Go.Proofs.Ytlfifpkigapabaa.G
