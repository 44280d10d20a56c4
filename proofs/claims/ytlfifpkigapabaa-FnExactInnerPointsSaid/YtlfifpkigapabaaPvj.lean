/- A polygon of the program is a closed road that does not meet itself: Pick's theorem for it. The conditions stand in each theorem. -/
import Derived.Test.YtlfifpkigapabaaPj
import Derived.Test.YtlfifpkigapabaaPhJ
import Derived.Test.YtlfifpkigapabaaPv
namespace Go.Proofs.Ytlfifpkigapabaa.G
open Go.RowKit Go.Proofs.YtlfifpkigapabaaW.PrintWords Go.Proofs.YtlfifpkigapabaaW.PrintLast Go.Proofs.YtlfifpkigapabaaW.PrintMore
set_option linter.unusedSimpArgs false
set_option linter.unusedVariables false
/-- A point, in plain numbers. -/
def vp (p : Pt) : Pick.V := ⟨p.f0, p.f1⟩
def vr (l : List Pt) (j : Nat) : Pick.V := vp (pt l j)
theorem vp_ne {a b : Pt} (h : a ≠ b) : vp a ≠ vp b := fun e => h (pt_ext (congrArg Pick.V.x e) (congrArg Pick.V.y e))
theorem vp_cross (a b c : Pt) : Pick.cross (vp a) (vp b) (vp c) = crossP a b c := rfl
theorem vp_on (a b c : Pt) : Pick.on (vp a) (vp b) (vp c) ↔ onP a b c = true := by
  rw [onP_iff, ← vp_cross]
  unfold Pick.on Pick.btw vp mn mx
  simp only []
  omega
theorem sgn_cl (n : Int) : (0 < n ∧ sgn n = 1) ∨ (n < 0 ∧ sgn n = -1) ∨ (n = 0 ∧ sgn n = 0) := by
  unfold sgn
  rcases Int.lt_trichotomy n 0 with h | h | h
  · exact Or.inr (Or.inl ⟨h, by rw [if_neg (by omega), if_pos h]⟩)
  · exact Or.inr (Or.inr ⟨h, by rw [if_neg (by omega), if_neg (by omega)]⟩)
  · exact Or.inl ⟨h, if_pos h⟩
theorem sgn_opp (m n : Int) : sgn m * sgn n < 0 ↔ Pick.opp m n := by
  unfold Pick.opp
  rcases sgn_cl m with ⟨h, e⟩ | ⟨h, e⟩ | ⟨h, e⟩ <;> rcases sgn_cl n with ⟨g, f⟩ | ⟨g, f⟩ | ⟨g, f⟩ <;> rw [e, f] <;> omega
theorem apart_of {a b c d : Pt} (h : meetI a b c d = 0) : Pick.Apart (vp a) (vp b) (vp c) (vp d) := by
  unfold meetI at h
  have ht : ¬ two (shared a b c d) := fun k => by rw [if_pos k] at h; omega
  rw [if_neg ht] at h
  have hs : shared a b c d = [] := Classical.byContradiction fun k => by rw [if_neg k] at h; omega
  rw [if_pos hs] at h
  have hc : ¬ crosses a b c d := fun k => by rw [if_pos k] at h; omega
  have none : ∀ x, x ∉ shared a b c d := fun x hx => by rw [hs] at hx; simp at hx
  refine ⟨fun k => none c (mem_shared_c ((vp_on _ _ _).mp k)), fun k => none d (mem_shared_d ((vp_on _ _ _).mp k)), fun k => none a (mem_shared_a ((vp_on _ _ _).mp k)), fun k => none b (mem_shared_b ((vp_on _ _ _).mp k)), fun k => hc ?_⟩
  exact ⟨(sgn_opp _ _).mpr k.1, (sgn_opp _ _).mpr k.2⟩
theorem pt_mod (l : List Pt) (i : Nat) : pt l i = pt l (i % l.length) := by unfold pt; rw [Nat.mod_mod]
theorem pt_mod1 (l : List Pt) (i : Nat) : pt l (i + 1) = pt l (i % l.length + 1) := by unfold pt; rw [Nat.mod_add_mod]
theorem pt_mod2 (l : List Pt) (i : Nat) : pt l (i + 2) = pt l (i % l.length + 2) := by unfold pt; rw [Nat.mod_add_mod]
theorem mod_cases {i j n : Nat} (hn : 0 < n) (h1 : i + 2 ≤ j) (h2 : j + 2 ≤ i + n) : (i % n < j % n ∧ ¬ adj n (i % n) (j % n)) ∨ (j % n < i % n ∧ ¬ adj n (j % n) (i % n)) := by
  have e1 := Nat.mod_add_div i n
  have e2 := Nat.mod_add_div j n
  have l1 := Nat.mod_lt i hn
  have l2 := Nat.mod_lt j hn
  generalize i % n = a at *
  generalize j % n = b at *
  generalize i / n = u at *
  generalize j / n = v at *
  have hv : v = u ∨ v = u + 1 := by
    rcases Nat.lt_or_ge v u with g | g
    · have := Nat.mul_le_mul_left n (show v + 1 ≤ u from g)
      rw [Nat.mul_add, Nat.mul_one] at this
      omega
    · rcases Nat.lt_or_ge (u + 1) v with g' | g'
      · have := Nat.mul_le_mul_left n (show u + 2 ≤ v from g')
        rw [Nat.mul_add] at this
        omega
      · omega
  unfold adj
  rcases hv with rfl | rfl
  · left; omega
  · right; rw [Nat.mul_add, Nat.mul_one] at e2; omega
theorem poly_road {l : List Pt} (hp : Poly l) : Pick.Road (vr l) l.length := by
  have h3 := hp.n3
  have ne : ∀ i, pt l i ≠ pt l (i + 1) := fun i => by
    rw [pt_mod, pt_mod1]
    exact hp.ne _ (Nat.mod_lt _ (by omega))
  refine ⟨h3, fun j => congrArg vp (pt_add l j), fun i => ?_, fun i j h1 h2 => ?_⟩
  · have nb := no_back hp (Nat.mod_lt i (show 0 < l.length by omega))
    rw [← pt_mod, ← pt_mod1, ← pt_mod2] at nb
    exact ⟨vp_ne (ne i), vp_ne (ne (i + 1)), fun k => Bool.noConfusion (nb.1.symm.trans ((vp_on _ _ _).mp k)), fun k => Bool.noConfusion (nb.2.symm.trans ((vp_on _ _ _).mp k))⟩
  · unfold vr
    rw [pt_mod l i, pt_mod1 l i, pt_mod l j, pt_mod1 l j]
    rcases mod_cases (show 0 < l.length by omega) h1 h2 with ⟨a, b⟩ | ⟨a, b⟩
    · have g := hp.good _ _ a (Nat.mod_lt _ (by omega))
      unfold good at g
      rw [if_neg b] at g
      exact apart_of g
    · have g := hp.good _ _ a (Nat.mod_lt _ (by omega))
      unfold good at g
      rw [if_neg b] at g
      exact (apart_of g).flip
theorem A2_eq (l : List Pt) : ∀ n, Pick.A2 (vr l) n = twS l n
  | 0 => rfl
  | n + 1 => by
    have := A2_eq l n
    unfold Pick.A2 at this ⊢
    rw [Pick.su_succ, this]
    rfl
/-- The points on the sides, counted side by side. -/
def rimN (l : List Pt) : Nat → Int
  | 0 => 0
  | i + 1 => rimN l i + (Int.gcd ((pt l (i + 1)).f0 - (pt l i).f0) ((pt l (i + 1)).f1 - (pt l i).f1) : Int)
theorem B_eq (l : List Pt) : ∀ n, Pick.B (vr l) n = rimN l n
  | 0 => rfl
  | n + 1 => by
    have := B_eq l n
    unfold Pick.B at this ⊢
    rw [Pick.su_succ, this]
    rfl
/-- Whether a side counts, by the road's count. -/
theorem tog_cr (l : List Pt) (x : Pt) (i : Nat) : Pick.cr (vr l i) (vr l (i + 1)) (vp x) = (if (pt l i).f1 < (pt l (i + 1)).f1 then 1 else -1) * (if tog l x i = true then 1 else 0) := by
  have ht : tog l x i = true ↔ ((pt l i).f1 ≤ x.f1 ∧ x.f1 < (pt l (i + 1)).f1 ∧ 0 < crossP (pt l i) (pt l (i + 1)) x) ∨ ((pt l (i + 1)).f1 ≤ x.f1 ∧ x.f1 < (pt l i).f1 ∧ crossP (pt l i) (pt l (i + 1)) x < 0) := by
    unfold tog; simp only [Bool.or_eq_true, Bool.and_eq_true, decide_eq_true_eq, and_assoc]
  have e : Pick.cr (vr l i) (vr l (i + 1)) (vp x) = if (pt l i).f1 ≤ x.f1 ∧ x.f1 < (pt l (i + 1)).f1 ∧ 0 < crossP (pt l i) (pt l (i + 1)) x then 1 else if (pt l (i + 1)).f1 ≤ x.f1 ∧ x.f1 < (pt l i).f1 ∧ crossP (pt l i) (pt l (i + 1)) x < 0 then -1 else 0 := rfl
  rw [e]
  by_cases c1 : (pt l i).f1 ≤ x.f1 ∧ x.f1 < (pt l (i + 1)).f1 ∧ 0 < crossP (pt l i) (pt l (i + 1)) x
  · rw [if_pos c1, if_pos (ht.mpr (Or.inl c1)), if_pos (by omega)]; rfl
  · rw [if_neg c1]
    by_cases c2 : (pt l (i + 1)).f1 ≤ x.f1 ∧ x.f1 < (pt l i).f1 ∧ crossP (pt l i) (pt l (i + 1)) x < 0
    · rw [if_pos c2, if_pos (ht.mpr (Or.inr c2)), if_neg (by omega)]; rfl
    · rw [if_neg c2, if_neg (fun k => (ht.mp k).elim c1 c2), Int.mul_zero]
/-- Odd or even. -/
theorem par_su (l : List Pt) (x : Pt) : ∀ i, par l x i = decide (Pick.su (fun j => Pick.cr (vr l j) (vr l (j + 1)) (vp x)) i % 2 = 1)
  | 0 => rfl
  | i + 1 => by
    have ih := par_su l x i
    have t := tog_cr l x i
    rw [Pick.su_succ, t]
    simp only [par]
    rw [ih]
    generalize Pick.su (fun j => Pick.cr (vr l j) (vr l (j + 1)) (vp x)) i = s
    by_cases h : tog l x i = true
    · rw [if_pos h, if_pos h, Bool.eq_iff_iff]
      simp only [Bool.not_eq_true', decide_eq_false_iff_not, decide_eq_true_eq]
      split <;> omega
    · rw [if_neg h, if_neg h, Int.mul_zero, Int.add_zero]
theorem off_iff {l : List Pt} (h0 : 0 < l.length) (x : Pt) : Pick.Off (vr l) (vp x) ↔ ¬ ∃ j, j < l.length ∧ rimP l x j = true := by
  unfold Pick.Off rimP
  constructor
  · rintro h ⟨j, _, hj⟩
    exact h j ((vp_on _ _ _).mpr hj)
  · intro h j hj
    refine h ⟨j % l.length, Nat.mod_lt _ h0, ?_⟩
    rw [← pt_mod, ← pt_mod1]
    exact (vp_on _ _ _).mp hj
/-- A point inside, and on no side. -/
theorem ins_iff {l : List Pt} (hp : Poly l) (x : Pt) : (Pick.Off (vr l) (vp x) ∧ Pick.W (vr l) l.length (vp x) ≠ 0) ↔ ((¬ ∃ j, j < l.length ∧ rimP l x j = true) ∧ par l x l.length = true) := by
  have h3 := hp.n3
  rw [off_iff (by omega)]
  refine and_congr_right (fun off => ?_)
  have j := Pick.W_jordan (poly_road hp) ((off_iff (by omega) x).mpr off)
  have r := Pick.R_01 (poly_road hp)
  rw [par_su, decide_eq_true_eq]
  show Pick.W (vr l) l.length (vp x) ≠ 0 ↔ Pick.W (vr l) l.length (vp x) % 2 = 1
  omega
/-- The points inside, counted over a box. -/
noncomputable def innerN (l : List Pt) (X Y : Int) (k m : Nat) : Int := Pick.bx (Pick.ins (vr l) l.length) X Y k m
/-- PICK'S THEOREM for a polygon. -/
theorem pick_poly {l : List Pt} (hp : Poly l) {X Y : Int} {k m : Nat} (hx : ∀ j, X ≤ (pt l j).f0 ∧ (pt l j).f0 < X + k) (hy : ∀ j, Y ≤ (pt l j).f1 ∧ (pt l j).f1 < Y + m) : ((twS l l.length).natAbs : Int) = 2 * innerN l X Y k m + rimN l l.length - 2 := by
  have pk := Pick.pick (poly_road hp) (X := X) (Y := Y) (k := k) (l := m) hx hy
  rw [A2_eq, B_eq] at pk
  have r := Pick.R_01 (poly_road hp)
  have h3 := hp.n3
  have b3 : ∀ n : Nat, (n : Int) ≤ rimN l n := by
    intro n
    induction n with
    | zero => exact Int.le_refl _
    | succ n ih =>
      have g : 0 < Int.gcd ((pt l (n + 1)).f0 - (pt l n).f0) ((pt l (n + 1)).f1 - (pt l n).f1) := by
        apply Nat.pos_of_ne_zero
        intro z
        rw [Int.gcd_eq_zero_iff] at z
        have ne := ((poly_road hp).bend n).ab
        exact ne (Pick.V.ext' (show (pt l n).f0 = (pt l (n + 1)).f0 by omega) (show (pt l n).f1 = (pt l (n + 1)).f1 by omega))
      have e : rimN l (n + 1) = rimN l n + (Int.gcd ((pt l (n + 1)).f0 - (pt l n).f0) ((pt l (n + 1)).f1 - (pt l n).f1) : Int) := rfl
      omega
  have b := b3 l.length
  have i0 : 0 ≤ innerN l X Y k m := by
    have nn : ∀ (f : Nat → Int) (n : Nat), (∀ t, 0 ≤ f t) → 0 ≤ Pick.su f n := by
      intro f n h
      induction n with
      | zero => exact Int.le_refl _
      | succ n ih => have := h n; rw [Pick.su_succ]; omega
    have z : ∀ q, 0 ≤ Pick.ins (vr l) l.length q := by
      intro q
      unfold Pick.ins Pick.ind
      split <;> omega
    exact nn _ _ (fun t => nn _ _ (fun u => z _))
  unfold innerN at i0 ⊢
  generalize Pick.bx (Pick.ins (vr l) l.length) X Y k m = I at *
  generalize twS l l.length = A at *
  generalize rimN l l.length = B at *
  rcases r with r | r
  · rw [r] at pk
    have e : A = 2 * I + B - 2 := by omega
    omega
  · rw [r] at pk
    have e : A = - (2 * I + B - 2) := by omega
    omega
end Go.Proofs.Ytlfifpkigapabaa.G
