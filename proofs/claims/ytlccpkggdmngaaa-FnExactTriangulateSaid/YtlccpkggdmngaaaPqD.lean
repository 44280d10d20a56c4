/- Diagonals: what both functions come to; the reference. The bounds stand in each theorem. -/
import Derived.Test.YtlccpkggdmngaaaPj
import Derived.Test.YtlccpkggdmngaaaPA
import Derived.Test.YtlccpkggdmngaaaPhJ
import Derived.Test.YtlccpkggdmngaaaF83
namespace Go.Proofs.Ytlccpkggdmngaaa.G
open Go.RowKit Go.Proofs.YtlccpkggdmngaaaW.PrintWords Go.Proofs.YtlccpkggdmngaaaW.PrintLast Go.Proofs.YtlccpkggdmngaaaW.PrintMore
set_option linter.unusedSimpArgs false
set_option linter.unusedVariables false
/-- The list with doubled numbers. -/
structure Few (l : List Pt) : Prop where
  n3 : 3 ≤ l.length
  n10 : l.length ≤ 10
  okp : ∀ p ∈ l, okp p = true
theorem Poly.few {l : List Pt} (h : Poly l) : Few l := ⟨h.n3, h.n10, h.okp⟩
def dblL (l : List Pt) : List Pt := l.map fun p => ⟨wrap64 (2 * p.f0), wrap64 (2 * p.f1)⟩
theorem dblL_length (l : List Pt) : (dblL l).length = l.length := by simp [dblL]
theorem dblL_smp {l : List Pt} (hok : ∀ p ∈ l, okp p = true) : ∀ p ∈ dblL l, smp p := by
  intro p hp
  obtain ⟨q, hq, rfl⟩ := List.mem_map.1 hp
  have h := okp_iff.1 (hok q hq)
  unfold smp sm
  simp only []
  rw [wrap64_id (x := 2 * q.f0) (by omega) (by omega), wrap64_id (x := 2 * q.f1) (by omega) (by omega)]
  omega
def midP (l : List Pt) (a b : Nat) : Pt := ⟨wrap64 ((pt l a).f0 + (pt l b).f0), wrap64 ((pt l a).f1 + (pt l b).f1)⟩
theorem midP_smp {l : List Pt} (hok : ∀ p ∈ l, okp p = true) (h0 : 0 < l.length) (a b : Nat) : smp (midP l a b) := by
  have h1 := pt_ok hok h0 a
  have h2 := pt_ok hok h0 b
  unfold smp sm midP
  simp only []
  rw [wrap64_id (by omega) (by omega), wrap64_id (by omega) (by omega)]
  omega
open Classical in
/-- The middle between two corners is inside. -/
noncomputable def midIn (l : List Pt) (a b : Nat) : Bool := if ∃ j, j < (dblL l).length ∧ rimP (dblL l) (midP l a b) j = true then true else par (dblL l) (midP l a b) (dblL l).length
/-- The side from corner j on holds one of two corners. -/
def nearS (n a b j : Nat) : Prop := j = a ∨ j = b ∨ (j + 1) % n = a ∨ (j + 1) % n = b
instance (n a b j : Nat) : Decidable (nearS n a b j) := by unfold nearS; exact inferInstance
def sideOk (l : List Pt) (a b j : Nat) : Prop := meetI (pt l a) (pt l b) (pt l j) (pt l (j + 1)) = if nearS l.length a b j then 1 else 0
/-- Two corners are joined by a diagonal. -/
def Diag (l : List Pt) (a b : Nat) : Prop := a ≠ b ∧ (a + 1) % l.length ≠ b ∧ (b + 1) % l.length ≠ a ∧ (∀ j, j < l.length → sideOk l a b j) ∧ midIn l a b = true
theorem pt_mod (l : List Pt) (i : Nat) : pt l (i % l.length) = pt l i := by unfold pt; rw [Nat.mod_mod]
theorem near_shared {l : List Pt} {a b j : Nat} (h : nearS l.length a b j) : shared (pt l a) (pt l b) (pt l j) (pt l (j + 1)) ≠ [] := by
  rcases h with h | h | h | h
  · subst h; exact List.ne_nil_of_mem (mem_shared_c (onP_left _ _))
  · subst h; exact List.ne_nil_of_mem (mem_shared_c (onP_right _ _))
  · rw [← pt_mod l (j + 1), h]; exact List.ne_nil_of_mem (mem_shared_d (onP_left _ _))
  · rw [← pt_mod l (j + 1), h]; exact List.ne_nil_of_mem (mem_shared_d (onP_right _ _))
theorem near_meet {l : List Pt} {a b j : Nat} (h : nearS l.length a b j) : meetI (pt l a) (pt l b) (pt l j) (pt l (j + 1)) = 1 ∨ meetI (pt l a) (pt l b) (pt l j) (pt l (j + 1)) = 3 := by
  have hs := near_shared h
  unfold meetI
  by_cases ht : two (shared (pt l a) (pt l b) (pt l j) (pt l (j + 1)))
  · rw [if_pos ht]; exact Or.inr rfl
  · rw [if_neg ht, if_neg hs]; exact Or.inl rfl
theorem double_l0 {l : List Pt} (hn : l.length ≤ 1000000) (d : Nat) : ∀ (k i : Nat), i + d = l.length → d < k → spec_l05Double.l0 k (dblL (l.take i)) l (l.length : Int) (i : Int) = some (dblL l) := by
  induction d with
  | zero =>
    intro k i hi hk
    obtain ⟨k, rfl⟩ : ∃ m, k = m + 1 := ⟨k - 1, by omega⟩
    have c1 : ((i : Int) < (l.length : Int)) = False := by rw [eq_iff_iff, iff_false]; omega
    simp only [spec_l05Double.l0, c1, if_false]
    rw [List.take_of_length_le (by omega)]
  | succ d ih =>
    intro k i hi hk
    obtain ⟨k, rfl⟩ : ∃ m, k = m + 1 := ⟨k - 1, by omega⟩
    have wi : wrap64 ((i : Int) + 1) = ((i + 1 : Nat) : Int) := by rw [wrap64_id (by omega) (by omega)]; rfl
    have hi' : i < l.length := by omega
    have c1 : ((i : Int) < (l.length : Int)) = True := by rw [eq_iff_iff, iff_true]; omega
    have c2 : ((0 : Int) ≤ (i : Int)) = True := by rw [eq_iff_iff, iff_true]; omega
    have hl : (dblL (l.take i)).length = i := by rw [dblL_length]; simp; omega
    have c3 : ((dblL (l.take i)).length < 8796093022208) = True := by rw [eq_iff_iff, iff_true]; omega
    simp only [spec_l05Double.l0, c1, c2, c3, if_true, wi, rd_at l i hi']
    have e : dblL (l.take i) ++ [⟨wrap64 (2 * l[i].f0), wrap64 (2 * l[i].f1)⟩] = dblL (l.take (i + 1)) := by
      unfold dblL; rw [List.take_succ_eq_append_getElem hi', List.map_append]; rfl
    rw [e]
    exact ih k (i + 1) (by omega) (by omega)
theorem diag_l0 {l : List Pt} (hP : Few l) {a b : Nat} (ha : a < l.length) (hb : b < l.length) (d : Nat) : ∀ (k i : Nat), i + d = l.length → 2000 + 3 * d < k →
    ∃ r, spec_l05Diagonal.l0 k l (a : Int) (b : Int) (l.length : Int) l (l.length : Int) (i : Int) (pt l a).f0 (pt l a).f1 (pt l b).f0 (pt l b).f1 = some r ∧ (r = true ↔ (∀ j, i ≤ j → j < l.length → sideOk l a b j) ∧ midIn l a b = true) := by
  have h3 := hP.n3
  have h10 := hP.n10
  have h0 : 0 < l.length := by omega
  have s : ∀ k, smp (pt l k) := fun k => okp_smp (hP.okp _ (pt_mem l k h0))
  have hd := dblL_length l
  induction d with
  | zero =>
    intro k i hi hk
    obtain ⟨k, rfl⟩ : ∃ m, k = m + 1 := ⟨k - 1, by omega⟩
    have c1 : ((i : Int) < (l.length : Int)) = False := by rw [eq_iff_iff, iff_false]; omega
    simp only [spec_l05Diagonal.l0, c1, if_false]
    have e := double_l0 (l := l) (by omega) l.length k 0 (by omega) (by omega)
    have e' : spec_l05Double.f k l = some (dblL l) := e
    have em := spec_inside_sm (dblL_smp hP.okp) (by omega) (by omega) (midP_smp hP.okp h0 a b) k (by omega)
    have em' : spec_l03Inside.f k (dblL l) (wrap64 ((pt l a).f0 + (pt l b).f0)) (wrap64 ((pt l a).f1 + (pt l b).f1)) = some (midIn l a b) := em
    rw [e', Option.bind_some, em', Option.bind_some]
    exact ⟨_, rfl, ⟨fun h => ⟨fun j h1 h2 => by omega, h⟩, fun h => h.2⟩⟩
  | succ d ih =>
    intro k i hi hk
    obtain ⟨k, rfl⟩ : ∃ m, k = m + 3 := ⟨k - 3, by omega⟩
    have wi : wrap64 ((i : Int) + 1) = ((i + 1 : Nat) : Int) := by rw [wrap64_id (by omega) (by omega)]; rfl
    have hi' : i < l.length := by omega
    have c1 : ((i : Int) < (l.length : Int)) = True := by rw [eq_iff_iff, iff_true]; omega
    have c2 : ((0 : Int) ≤ (i : Int)) = True := by rw [eq_iff_iff, iff_true]; omega
    have li := Nat.mod_lt (i + 1) h0
    have c3 : ((l.length : Int) = 0) = False := by rw [eq_iff_iff, iff_false]; omega
    have c4 : ((0 : Int) ≤ (((i + 1) % l.length : Nat) : Int)) = True := by rw [eq_iff_iff, iff_true]; omega
    have c5 : ((((i + 1) % l.length : Nat) : Int) < (l.length : Int)) = True := by rw [eq_iff_iff, iff_true]; omega
    simp only [spec_l05Diagonal.l0, c1, c2, c3, c4, c5, if_true, if_false, wi, tmod_at, rd_mod l (i + 1) h0, rd_pt l i hi']
    rw [spec_l02Meet_eq (s _) (s _) (s _) (s _), Option.bind_some]
    obtain ⟨r, hr, hr'⟩ := ih k (i + 1) (by omega) (by omega)
    have pos : sideOk l a b i → (r = true ↔ (∀ j, i ≤ j → j < l.length → sideOk l a b j) ∧ midIn l a b = true) := by
      intro hs
      refine hr'.trans ⟨fun h => ⟨fun j h1 h2 => ?_, h.2⟩, fun h => ⟨fun j h1 h2 => h.1 j (by omega) h2, h.2⟩⟩
      by_cases hj : j = i
      · subst hj; exact hs
      · exact h.1 j (by omega) h2
    have neg : ¬ sideOk l a b i → ((false : Bool) = true ↔ (∀ j, i ≤ j → j < l.length → sideOk l a b j) ∧ midIn l a b = true) := by
      intro hs
      exact ⟨fun h => by simp at h, fun h => absurd (h.1 i (by omega) hi') hs⟩
    have wm : ∀ B : Bool, (B = true ↔ nearS l.length a b i) → ∃ r, spec_l05Diagonal.j2 (k + 2) l (a : Int) (b : Int) (l.length : Int) (meetI (pt l a) (pt l b) (pt l i) (pt l (i + 1))) l (l.length : Int) (i : Int) B (pt l a).f0 (pt l a).f1 (pt l b).f0 (pt l b).f1 = some r ∧ (r = true ↔ (∀ j, i ≤ j → j < l.length → sideOk l a b j) ∧ midIn l a b = true) := by
      intro B hB
      have m2 := (spec_l05Diagonal.mono_l k)
      cases B
      · have hne : ¬ nearS l.length a b i := by rw [← hB]; simp
        simp only [spec_l05Diagonal.j2]
        rw [if_neg (by simp), wi]
        by_cases hm : meetI (pt l a) (pt l b) (pt l i) (pt l (i + 1)) = 0
        · rw [if_pos hm]
          obtain ⟨r, hr, hr'⟩ := ih (k + 1) (i + 1) (by omega) (by omega)
          refine ⟨r, hr, ?_⟩
          have hs : sideOk l a b i := by unfold sideOk; rw [if_neg hne]; exact hm
          refine hr'.trans ⟨fun h => ⟨fun j h1 h2 => ?_, h.2⟩, fun h => ⟨fun j h1 h2 => h.1 j (by omega) h2, h.2⟩⟩
          by_cases hj : j = i
          · subst hj; exact hs
          · exact h.1 j (by omega) h2
        · rw [if_neg hm]
          exact ⟨false, rfl, neg (by unfold sideOk; rw [if_neg hne]; exact hm)⟩
      · have hne : nearS l.length a b i := hB.1 rfl
        have j3t : spec_l05Diagonal.j3 (k + 1) l (a : Int) (b : Int) (l.length : Int) l (l.length : Int) (i : Int) true (pt l a).f0 (pt l a).f1 (pt l b).f0 (pt l b).f1 = some false := by simp [spec_l05Diagonal.j3]
        have j3f : spec_l05Diagonal.j3 (k + 1) l (a : Int) (b : Int) (l.length : Int) l (l.length : Int) (i : Int) false (pt l a).f0 (pt l a).f1 (pt l b).f0 (pt l b).f1 = some r := by
          simp only [spec_l05Diagonal.j3]; rw [if_neg (by simp), wi]; exact hr
        simp only [spec_l05Diagonal.j2]
        rw [if_pos trivial]
        rcases near_meet hne with hm | hm
        · rw [if_neg (by omega)]
          have e2 : (meetI (pt l a) (pt l b) (pt l i) (pt l (i + 1)) == 2) = false := by rw [hm]; rfl
          rw [e2]
          exact ⟨r, j3f, pos (by unfold sideOk; rw [if_pos hne]; exact hm)⟩
        · rw [if_pos hm]
          exact ⟨false, j3t, neg (by unfold sideOk; rw [if_pos hne, hm]; omega)⟩
    have cast : ∀ x y : Nat, ((x : Int) = (y : Int)) ↔ x = y := fun x y => by omega
    by_cases n1 : i = a
    · rw [if_pos (by omega)]; exact wm true (by simp [nearS, n1])
    · rw [if_neg (by omega)]
      by_cases n2 : i = b
      · rw [if_pos (by omega)]; exact wm true (by simp [nearS, n2])
      · rw [if_neg (by omega)]
        by_cases n3 : (i + 1) % l.length = a
        · rw [if_pos (by omega)]; exact wm true (by simp [nearS, n3])
        · rw [if_neg (by omega)]
          refine wm _ ?_
          rw [beq_iff_eq, cast]
          exact ⟨fun h => Or.inr (Or.inr (Or.inr h)), fun h => by rcases h with h | h | h | h <;> first | exact absurd h n1 | exact absurd h n2 | exact absurd h n3 | exact h⟩
theorem spec_diag_eq {l : List Pt} (hP : Few l) {a b : Nat} (ha : a < l.length) (hb : b < l.length) (k : Nat) (hk : 3000 < k) : ∃ r, spec_l05Diagonal.f k l (a : Int) (b : Int) = some r ∧ (r = true ↔ Diag l a b) := by
  have h3 := hP.n3
  have h10 := hP.n10
  have h0 : 0 < l.length := by omega
  obtain ⟨k, rfl⟩ : ∃ m, k = m + 1 := ⟨k - 1, by omega⟩
  have jt : spec_l05Diagonal.j0 (k + 1) l (a : Int) (b : Int) (l.length : Int) true = some false := by simp [spec_l05Diagonal.j0]
  have wa : wrap64 ((a : Int) + 1) = ((a + 1 : Nat) : Int) := by rw [wrap64_id (by omega) (by omega)]; rfl
  have wb : wrap64 ((b : Int) + 1) = ((b + 1 : Nat) : Int) := by rw [wrap64_id (by omega) (by omega)]; rfl
  have la := Nat.mod_lt (a + 1) h0
  have lb := Nat.mod_lt (b + 1) h0
  unfold spec_l05Diagonal.f
  rw [if_neg (by omega), wa, wb, tmod_at, tmod_at]
  by_cases n1 : (a + 1) % l.length = b
  · rw [if_pos (by omega), jt]; exact ⟨false, rfl, by simp; intro h; exact h.2.1 n1⟩
  · rw [if_neg (by omega)]
    by_cases n2 : (b + 1) % l.length = a
    · rw [if_pos (by omega), jt]; exact ⟨false, rfl, by simp; intro h; exact h.2.2.1 n2⟩
    · rw [if_neg (by omega)]
      by_cases n3 : a = b
      · have : ((a : Int) == (b : Int)) = true := by rw [beq_iff_eq]; omega
        rw [this, jt]; exact ⟨false, rfl, by simp; intro h; exact h.1 n3⟩
      · have : ((a : Int) == (b : Int)) = false := by rw [← Bool.not_eq_true, beq_iff_eq]; omega
        rw [this]
        simp only [spec_l05Diagonal.j0]
        rw [if_neg (by simp), if_pos (by omega), if_pos (by omega), if_pos (by omega), if_pos (by omega), rd_pt l a ha, rd_pt l b hb]
        obtain ⟨r, hr, hr'⟩ := diag_l0 hP ha hb l.length k 0 (by omega) (by omega)
        exact ⟨r, hr, hr'.trans ⟨fun h => ⟨n3, n1, n2, fun j hj => h.1 j (by omega) hj, h.2⟩, fun h => ⟨fun j _ hj => h.2.2.2.1 j hj, h.2.2.2.2⟩⟩⟩
end Go.Proofs.Ytlccpkggdmngaaa.G
