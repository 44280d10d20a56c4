/- When a list of points is a polygon: both functions answer alike. The bound on a list's length stands in each theorem. -/
import Derived.Test.YtlceoghkhgihdaaPe
import Derived.Test.YtlceoghkhgihdaaF24
import Derived.Test.YtlceoghkhgihdaaF26
namespace Go.Proofs.Ytlceoghkhgihdaa.G
open Go.RowKit Go.Proofs.YtlceoghkhgihdaaW.PrintWords Go.Proofs.YtlceoghkhgihdaaW.PrintLast Go.Proofs.YtlceoghkhgihdaaW.PrintMore
set_option linter.unusedSimpArgs false
set_option linter.unusedVariables false
/-- The i-th corner, around. -/
def pt (l : List Pt) (i : Nat) : Pt := l.getD (i % l.length) z26
theorem pt_at (l : List Pt) (i : Nat) (h : i < l.length) : pt l i = l[i] := by
  unfold pt; rw [Nat.mod_eq_of_lt h]; simp [List.getD_eq_getElem?_getD, List.getElem?_eq_getElem h]
theorem pt_mem (l : List Pt) (i : Nat) (h : 0 < l.length) : pt l i ∈ l := by
  unfold pt
  have h1 := Nat.mod_lt i h
  simp [List.getD_eq_getElem?_getD, List.getElem?_eq_getElem h1]
theorem rd_pt (l : List Pt) (i : Nat) (h : i < l.length) : rd_T26 l (i : Int) = pt l i := by rw [rd_at l i h, pt_at l i h]
theorem tmod_at (i n : Nat) : Int.tmod (i : Int) (n : Int) = ((i % n : Nat) : Int) := by
  rw [Int.tmod_eq_emod_of_nonneg (by omega)]; rfl
theorem rd_mod (l : List Pt) (i : Nat) (h : 0 < l.length) : rd_T26 l ((i % l.length : Nat) : Int) = pt l i := by
  rw [rd_pt l _ (Nat.mod_lt i h)]; unfold pt; rw [Nat.mod_mod]
/-- Two sides that meet in one point. -/
def adj (n i j : Nat) : Prop := j = i + 1 ∨ (i = 0 ∧ j = n - 1)
instance (n i j : Nat) : Decidable (adj n i j) := by unfold adj; exact inferInstance
def good (l : List Pt) (i j : Nat) : Prop := meetI (pt l i) (pt l (i + 1)) (pt l j) (pt l (j + 1)) = if adj l.length i j then 1 else 0
/-- A polygon. -/
structure Poly (l : List Pt) : Prop where
  n3 : 3 ≤ l.length
  n10 : l.length ≤ 10
  okp : ∀ p ∈ l, okp p = true
  ne : ∀ i, i < l.length → pt l i ≠ pt l (i + 1)
  good : ∀ i j, i < j → j < l.length → good l i j
theorem okp_smp {p : Pt} (h : okp p = true) : smp p := sm_ok h
theorem impl_meet_iff {a b c d : Pt} (ha : smp a) (hb : smp b) (hc : smp c) (hd : smp d) (n : Int) : (impl_meet.f a.f0 a.f1 b.f0 b.f1 c.f0 c.f1 d.f0 d.f1 == some n) = true ↔ meetI a b c d = n := by
  rw [impl_meet_eq ha hb hc hd, beq_iff_eq, Option.some.injEq]
theorem impl_pair_iff {l : List Pt} (hok : ∀ p ∈ l, okp p = true) {i j : Nat} (hij : i < j) (hj : j < l.length) : impl_PolygonOk.pair l (i : Int) (j : Int) = true ↔ pt l i ≠ pt l (i + 1) ∧ pt l j ≠ pt l (j + 1) ∧ good l i j := by
  have h0 : 0 < l.length := by omega
  have s : ∀ k, smp (pt l k) := fun k => okp_smp (hok _ (pt_mem l k h0))
  unfold impl_PolygonOk.pair good
  rw [rd_pt l i (by omega), rd_pt l j hj]
  have e1 : rd_T26 l ((i : Int) + 1) = pt l (i + 1) := by have := rd_pt l (i + 1) (by omega); push_cast at this; exact this
  have e2 : rd_T26 l (((j : Int) + 1) % (l.length : Int)) = pt l (j + 1) := by have := rd_mod l (j + 1) h0; push_cast at this; exact this
  rw [e1, e2, pt_beq, pt_beq, Bool.and_eq_true, Bool.and_eq_true, impl_meet_iff (s _) (s _) (s _) (s _)]
  have e3 : impl_PolygonOk.want (l.length : Int) (i : Int) (j : Int) = true ↔ adj l.length i j := by
    unfold impl_PolygonOk.want adj
    simp only [Bool.or_eq_true, Bool.and_eq_true, decide_eq_true_eq]
    omega
  simp only [e3, Bool.not_eq_true', decide_eq_false_iff_not]
theorem impl_ok_iff (l : List Pt) : impl_PolygonOk.ok l = true ↔ Poly l := by
  unfold impl_PolygonOk.ok
  simp only [Bool.and_eq_true, decide_eq_true_eq, List.all_eq_true]
  constructor
  · rintro ⟨h3, h10, hok, hall⟩
    have hp : ∀ i j, i < j → j < l.length → impl_PolygonOk.pair l (i : Int) (j : Int) = true := by
      intro i j hij hj
      unfold impl_PolygonOk.all impl_PolygonOk.row at hall
      simp only [List.all_eq_true, List.mem_range, Bool.or_eq_true, decide_eq_true_eq] at hall
      rcases hall i (by omega) j hj with h | h
      · omega
      · exact h
    refine ⟨h3, h10, hok, fun i hi => ?_, fun i j hij hj => ((impl_pair_iff hok hij hj).1 (hp i j hij hj)).2.2⟩
    by_cases h : i + 1 < l.length
    · exact ((impl_pair_iff hok (by omega : i < i + 1) h).1 (hp _ _ (by omega) h)).1
    · exact ((impl_pair_iff hok (by omega : 0 < i) hi).1 (hp _ _ (by omega) hi)).2.1
  · intro h
    refine ⟨h.n3, h.n10, h.okp, ?_⟩
    unfold impl_PolygonOk.all impl_PolygonOk.row
    simp only [List.all_eq_true, List.mem_range, Bool.or_eq_true, decide_eq_true_eq]
    intro i hi j hj
    by_cases hij : i < j
    · exact Or.inr ((impl_pair_iff h.okp hij hj).2 ⟨h.ne i hi, h.ne j hj, h.good i j hij hj⟩)
    · exact Or.inl (by omega)
theorem impl_PolygonOk_some (l : List Pt) : impl_PolygonOk.f l = some (impl_PolygonOk.ok l) := rfl
/-! the reference's loops -/
theorem or_comm4 (P Q : Prop) [Decidable P] [Decidable Q] : True := trivial
theorem sp_l23 {l : List Pt} (hok : ∀ p ∈ l, okp p = true) (hn : l.length ≤ 10) : ∀ (e i : Nat), i + e = l.length →
    (∀ k, e * 30 < k → ∃ b, spec_PolygonOk.l2 k l (l.length : Int) (l.length : Int) (i : Int) = some b ∧ (b = true ↔ ∀ x y, i ≤ x → x < y → y < l.length → good l x y)) := by
  intro e
  induction e with
  | zero =>
    intro i hi k hk
    obtain ⟨k, rfl⟩ : ∃ m, k = m + 1 := ⟨k - 1, by omega⟩
    simp only [spec_PolygonOk.l2]
    rw [if_neg (by omega)]
    exact ⟨true, rfl, by simp; intro x y h1 h2 h3; omega⟩
  | succ e ih =>
    intro i hi k hk
    obtain ⟨k, rfl⟩ : ∃ m, k = m + 1 := ⟨k - 1, by omega⟩
    simp only [spec_PolygonOk.l2]
    rw [if_pos (by omega), wrap64_id (by omega) (by omega)]
    have inner : ∀ (d j : Nat), j + d = l.length → i < j → ∀ k, e * 30 + d * 2 + 1 < k → ∃ b, spec_PolygonOk.l3 k l (l.length : Int) (i : Int) (j : Int) (l.length : Int) (i : Int) = some b ∧ (b = true ↔ (∀ y, j ≤ y → y < l.length → good l i y) ∧ ∀ x y, i + 1 ≤ x → x < y → y < l.length → good l x y) := by
      intro d
      induction d with
      | zero =>
        intro j hj hij k hk
        obtain ⟨k, rfl⟩ : ∃ m, k = m + 1 := ⟨k - 1, by omega⟩
        simp only [spec_PolygonOk.l3]
        rw [if_neg (by omega), wrap64_id (by omega) (by omega)]
        obtain ⟨b, hb, hb'⟩ := ih (i + 1) (by omega) k (by omega)
        push_cast at hb
        refine ⟨b, hb, hb'.trans ⟨fun h => ⟨fun y h1 h2 => by omega, h⟩, fun h => h.2⟩⟩
      | succ d ihd =>
        intro j hj hij k hk
        obtain ⟨k, rfl⟩ : ∃ m, k = m + 1 := ⟨k - 1, by omega⟩
        obtain ⟨k, rfl⟩ : ∃ m, k = m + 1 := ⟨k - 1, by omega⟩
        have h0 : 0 < l.length := by omega
        have hi' : i < l.length := by omega
        have hj' : j < l.length := by omega
        have s : ∀ k, smp (pt l k) := fun k => okp_smp (hok _ (pt_mem l k h0))
        have wi : wrap64 ((i : Int) + 1) = ((i + 1 : Nat) : Int) := by rw [wrap64_id (by omega) (by omega)]; rfl
        have wj : wrap64 ((j : Int) + 1) = ((j + 1 : Nat) : Int) := by rw [wrap64_id (by omega) (by omega)]; rfl
        have wn : wrap64 ((l.length : Int) - 1) = ((l.length - 1 : Nat) : Int) := by rw [wrap64_id (by omega) (by omega)]; omega
        have li := Nat.mod_lt (i + 1) h0
        have lj := Nat.mod_lt (j + 1) h0
        simp only [spec_PolygonOk.l3]
        rw [wi, wj, wn, tmod_at, tmod_at, rd_mod l (i + 1) h0, rd_mod l (j + 1) h0, rd_pt l i hi', rd_pt l j hj']
        rw [if_pos (by omega), if_pos (by omega), if_pos (by omega), if_neg (by omega), if_pos (by omega), if_pos (by omega), if_pos (by omega), if_pos (by omega), if_pos (by omega), if_pos (by omega)]
        rw [spec_l02Meet_eq (s _) (s _) (s _) (s _), Option.bind_some]
        have wm : ∀ B : Bool, (B = true ↔ adj l.length i j) → ∃ b, spec_PolygonOk.j4 (k + 1) l (l.length : Int) (i : Int) (j : Int) (meetI (pt l i) (pt l (i + 1)) (pt l j) (pt l (j + 1))) (l.length : Int) (i : Int) B = some b ∧ (b = true ↔ (∀ y, j ≤ y → y < l.length → good l i y) ∧ ∀ x y, i + 1 ≤ x → x < y → y < l.length → good l x y) := by
          intro B hB
          obtain ⟨b, hb, hb'⟩ := ihd (j + 1) (by omega) (by omega) k (by omega)
          simp only [spec_PolygonOk.j4]
          rw [wj]
          have pos : good l i j → ∃ b, spec_PolygonOk.l3 k l (l.length : Int) (i : Int) ((j + 1 : Nat) : Int) (l.length : Int) (i : Int) = some b ∧ (b = true ↔ (∀ y, j ≤ y → y < l.length → good l i y) ∧ ∀ x y, i + 1 ≤ x → x < y → y < l.length → good l x y) := by
            intro hg
            refine ⟨b, hb, hb'.trans ⟨fun h => ⟨fun y h1 h2 => ?_, h.2⟩, fun h => ⟨fun y h1 h2 => h.1 y (by omega) h2, h.2⟩⟩⟩
            by_cases hy : y = j
            · subst hy; exact hg
            · exact h.1 y (by omega) h2
          have neg : ¬ good l i j → ∃ b, (some false : Option Bool) = some b ∧ (b = true ↔ (∀ y, j ≤ y → y < l.length → good l i y) ∧ ∀ x y, i + 1 ≤ x → x < y → y < l.length → good l x y) := by
            intro hg
            exact ⟨false, rfl, by simp; intro h; exact absurd (h j (by omega) hj') hg⟩
          cases B
          · have ha : ¬ adj l.length i j := by rw [← hB]; simp
            rw [if_neg (by simp)]
            by_cases hm : meetI (pt l i) (pt l (i + 1)) (pt l j) (pt l (j + 1)) = 0
            · rw [if_pos hm]; exact pos (by unfold good; rw [if_neg ha]; exact hm)
            · rw [if_neg hm]; exact neg (by unfold good; rw [if_neg ha]; exact hm)
          · have ha : adj l.length i j := hB.1 rfl
            rw [if_pos rfl]
            by_cases hm : meetI (pt l i) (pt l (i + 1)) (pt l j) (pt l (j + 1)) = 1
            · rw [if_pos hm]; exact pos (by unfold good; rw [if_pos ha]; exact hm)
            · rw [if_neg hm]; exact neg (by unfold good; rw [if_pos ha]; exact hm)
        by_cases c1 : j = i + 1
        · rw [if_pos (by omega)]
          exact wm true (by simp [adj, c1])
        · rw [if_neg (by omega)]
          by_cases c2 : i = 0
          · rw [if_pos (by omega)]
            refine wm _ ?_
            rw [beq_iff_eq]; unfold adj; omega
          · rw [if_neg (by omega)]
            exact wm false (by simp [adj, c1, c2])
    obtain ⟨b, hb, hb'⟩ := inner e (i + 1) (by omega) (by omega) k (by omega)
    push_cast at hb
    refine ⟨b, hb, hb'.trans ⟨fun h x y h1 h2 h3 => ?_, fun h => ⟨fun y h1 h2 => h i y (by omega) (by omega) h2, fun x y h1 h2 h3 => h x y (by omega) h2 h3⟩⟩⟩
    by_cases hx : x = i
    · subst hx; exact h.1 y (by omega) h3
    · exact h.2 x y (by omega) h2 h3
theorem sp_l1 {l : List Pt} (hok : ∀ p ∈ l, okp p = true) (hn : l.length ≤ 10) : ∀ (e i : Nat), i + e = l.length →
    (∀ k, 400 + e < k → ∃ b, spec_PolygonOk.l1 k l (l.length : Int) (l.length : Int) (i : Int) = some b ∧ (b = true ↔ (∀ x, i ≤ x → x < l.length → pt l x ≠ pt l (x + 1)) ∧ ∀ x y, x < y → y < l.length → good l x y)) := by
  intro e
  induction e with
  | zero =>
    intro i hi k hk
    obtain ⟨k, rfl⟩ : ∃ m, k = m + 1 := ⟨k - 1, by omega⟩
    simp only [spec_PolygonOk.l1]
    rw [if_neg (by omega)]
    obtain ⟨b, hb, hb'⟩ := sp_l23 hok hn l.length 0 (by omega) k (by omega)
    refine ⟨b, hb, hb'.trans ⟨fun h => ⟨fun x h1 h2 => by omega, fun x y h1 h2 => h x y (by omega) h1 h2⟩, fun h x y _ h1 h2 => h.2 x y h1 h2⟩⟩
  | succ e ih =>
    intro i hi k hk
    obtain ⟨k, rfl⟩ : ∃ m, k = m + 1 := ⟨k - 1, by omega⟩
    have h0 : 0 < l.length := by omega
    have hi' : i < l.length := by omega
    have wi : wrap64 ((i : Int) + 1) = ((i + 1 : Nat) : Int) := by rw [wrap64_id (by omega) (by omega)]; rfl
    have li := Nat.mod_lt (i + 1) h0
    simp only [spec_PolygonOk.l1]
    rw [wi, tmod_at, rd_mod l (i + 1) h0, rd_pt l i hi', pt_beq]
    rw [if_pos (by omega), if_pos (by omega), if_pos (by omega), if_neg (by omega), if_pos (by omega), if_pos (by omega)]
    by_cases hp : pt l i = pt l (i + 1)
    · rw [if_pos (by simpa using hp)]
      exact ⟨false, rfl, by simp; intro h; exact absurd hp (h i (by omega) hi')⟩
    · rw [if_neg (by simpa using hp)]
      obtain ⟨b, hb, hb'⟩ := ih (i + 1) (by omega) k (by omega)
      refine ⟨b, hb, hb'.trans ⟨fun h => ⟨fun x h1 h2 => ?_, h.2⟩, fun h => ⟨fun x h1 h2 => h.1 x (by omega) h2, h.2⟩⟩⟩
      by_cases hx : x = i
      · subst hx; exact hp
      · exact h.1 x (by omega) h2
theorem sp_l0 {l : List Pt} (hn : l.length ≤ 10) : ∀ (e i : Nat), i + e = l.length → (∀ j (h : j < l.length), j < i → okp l[j] = true) →
    (∀ k, 420 + e < k → ∃ b, spec_PolygonOk.l0 k l l (l.length : Int) (i : Int) = some b ∧ (b = true ↔ (∀ p ∈ l, okp p = true) ∧ (∀ x, x < l.length → pt l x ≠ pt l (x + 1)) ∧ ∀ x y, x < y → y < l.length → good l x y)) := by
  intro e
  induction e with
  | zero =>
    intro i hi hp k hk
    obtain ⟨k, rfl⟩ : ∃ m, k = m + 1 := ⟨k - 1, by omega⟩
    simp only [spec_PolygonOk.l0]
    rw [if_neg (by omega)]
    have hok : ∀ p ∈ l, okp p = true := by
      intro p hp'
      obtain ⟨j, hj, rfl⟩ := List.mem_iff_getElem.1 hp'
      exact hp j hj (by omega)
    obtain ⟨b, hb, hb'⟩ := sp_l1 hok hn l.length 0 (by omega) k (by omega)
    refine ⟨b, hb, hb'.trans ⟨fun h => ⟨hok, fun x h1 => h.1 x (by omega) h1, h.2⟩, fun h => ⟨fun x _ h1 => h.2.1 x h1, h.2.2⟩⟩⟩
  | succ e ih =>
    intro i hi hp k hk
    obtain ⟨k, rfl⟩ : ∃ m, k = m + 1 := ⟨k - 1, by omega⟩
    have hi' : i < l.length := by omega
    simp only [spec_PolygonOk.l0]
    rw [rd_at l i hi', spec_PointOk_eq, Option.bind_some, if_pos (by omega), if_pos (by omega), if_pos (by omega), wrap64_id (by omega) (by omega)]
    by_cases h : ok l[i].f0 l[i].f1 = true
    · rw [if_pos h]
      have := ih (i + 1) (by omega) (fun j hj hji => by
        by_cases he : j = i
        · subst he; exact h
        · exact hp j hj (by omega)) k (by omega)
      push_cast at this
      exact this
    · rw [if_neg h]
      exact ⟨false, rfl, by simp; intro hq; exact absurd (hq _ (List.getElem_mem hi')) h⟩
theorem spec_PolygonOk_eq (l : List Pt) (hl : l.length ≤ 9223372036854775807) (k : Nat) (hk : 500 < k) : spec_PolygonOk.f k l = some (impl_PolygonOk.ok l) := by
  unfold spec_PolygonOk.f spec_l01In.f
  by_cases h3 : 3 ≤ l.length
  · by_cases h10 : l.length ≤ 10
    · obtain ⟨b, hb, hb'⟩ := sp_l0 h10 l.length 0 (by omega) (fun j _ h => by omega) k (by omega)
      rw [if_pos (by omega)]
      have e : (some (decide ((l.length : Int) ≤ 10))).bind (fun t101 => if t101 = true then spec_PolygonOk.l0 k l l (l.length : Int) 0 else some false) = spec_PolygonOk.l0 k l l (l.length : Int) 0 := by
        rw [Option.bind_some, if_pos (by simp; omega)]
      refine e.trans (hb.trans ?_)
      congr 1
      rw [Bool.eq_iff_iff, hb', impl_ok_iff]
      exact ⟨fun h => ⟨h3, h10, h.1, h.2.1, h.2.2⟩, fun h => ⟨h.okp, h.ne, h.good⟩⟩
    · rw [if_pos (by omega), Option.bind_some, if_neg (by simp; omega)]
      congr 1
      symm
      rw [← Bool.not_eq_true, impl_ok_iff]
      exact fun h => h10 h.n10
  · rw [if_neg (by omega), Option.bind_some, if_neg (by simp)]
    congr 1
    symm
    rw [← Bool.not_eq_true, impl_ok_iff]
    exact fun h => h3 h.n3
end Go.Proofs.Ytlceoghkhgihdaa.G
