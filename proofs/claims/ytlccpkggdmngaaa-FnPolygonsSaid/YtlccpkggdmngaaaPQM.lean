/- Plain laws of points and polygons. The conditions stand in each theorem. -/
import Derived.Test.YtlccpkggdmngaaaPQL
import Derived.Test.YtlccpkggdmngaaaFQE
import Derived.Test.YtlccpkggdmngaaaFQD
import Derived.Test.YtlccpkggdmngaaaFQC
import Derived.Test.YtlccpkggdmngaaaFQJ
namespace Go.Proofs.Ytlccpkggdmngaaa.G
open Go.RowKit Go.Proofs.YtlccpkggdmngaaaW.PrintWords Go.Proofs.YtlccpkggdmngaaaW.PrintLast Go.Proofs.YtlccpkggdmngaaaW.PrintMore
set_option linter.unusedSimpArgs false
set_option linter.unusedVariables false
theorem grow_eq {n : Int} (h0 : 0 ≤ n) (h1 : n ≤ 1000000) : impl_Point_100.f [] n = some [] := by
  unfold impl_Point_100.f
  rw [if_neg (by omega), wrap64_id (by omega) (by omega)]
  by_cases h : n > 0
  · rw [if_pos h, if_pos h0, if_pos (by simp; omega), Option.bind_some, if_pos (by omega)]; simp
  · rw [if_neg h]
theorem concat_two (a b : List Pt) (ha : a.length ≤ 1000) (hb : b.length ≤ 1000) (k : Nat) (hk : 20 < k) : impl_Point_59.f k [a, b] = some (a ++ b) := by
  obtain ⟨k, rfl⟩ : ∃ m, k = m + 6 := ⟨k - 6, by omega⟩
  have r0 : rd_L3 [a, b] 0 = a := rfl
  have r1 : rd_L3 [a, b] 1 = b := rfl
  have w0 : wrap64 (0 + (a.length : Int)) = (a.length : Int) := by rw [wrap64_id (by omega) (by omega)]; omega
  have w1 : wrap64 ((a.length : Int) + (b.length : Int)) = (a.length : Int) + (b.length : Int) := wrap64_id (by omega) (by omega)
  have w2 : wrap64 (0 + 1) = 1 := (wrap64_id (by omega) (by omega)).trans (by omega)
  have w3 : wrap64 (1 + 1) = 2 := (wrap64_id (by omega) (by omega)).trans (by omega)
  have n2 : (([a, b].length : Nat) : Int) = 2 := rfl
  have c1 : (0 : Int) < 2 := by decide
  have c2 : (1 : Int) < 2 := by decide
  have c3 : ¬ ((2 : Int) < 2) := by decide
  have c4 : (0 : Int) ≤ 0 := by decide
  have c5 : (0 : Int) ≤ 1 := by decide
  have c6 : ¬ ((a.length : Int) < 0) := by omega
  have c7 : ¬ ((a.length : Int) + (b.length : Int) < 0) := by omega
  have c8 : ([] : List Pt).length + a.length < 8796093022208 := by simp; omega
  have c9 : ([] ++ a).length + b.length < 8796093022208 := by simp; omega
  unfold impl_Point_59.f
  rw [n2, impl_Point_59.l0, n2, if_pos c1, if_pos c4, if_pos c1, r0, w0, if_neg c6, w2]
  rw [impl_Point_59.l0, n2, if_pos c2, if_pos c5, if_pos c2, r1, w1, if_neg c7, w3]
  rw [impl_Point_59.l0, if_neg c3, grow_eq (by omega) (by omega), Option.bind_some, n2]
  rw [impl_Point_59.l1, n2, if_pos c1, if_pos c4, if_pos c1, r0, if_pos c8, w2]
  rw [impl_Point_59.l1, n2, if_pos c2, if_pos c5, if_pos c2, r1, if_pos c9, w3]
  rw [impl_Point_59.l1, if_neg c3]
  rfl
theorem impl_rot (l : List Pt) (hl : l.length ≤ 1000) (k : Nat) (hk : 20 < k) (i : Nat) : impl_Point_59.f k [l.drop i, l.take i] = some (rotL l i) :=
  concat_two _ _ (by rw [List.length_drop]; omega) (by rw [List.length_take]; omega) k hk
def Cyc (a b : List Pt) : Prop := ∃ x y, a = x ++ y ∧ b = y ++ x
theorem Cyc.refl (a : List Pt) : Cyc a a := ⟨[], a, rfl, by simp⟩
theorem Cyc.symm {a b : List Pt} : Cyc a b → Cyc b a := fun ⟨x, y, e1, e2⟩ => ⟨y, x, e2, e1⟩
theorem Cyc.trans {a b c : List Pt} : Cyc a b → Cyc b c → Cyc a c := by
  rintro ⟨x, y, rfl, rfl⟩ ⟨z, w, e1, rfl⟩
  rcases List.append_eq_append_iff.1 e1 with ⟨t, rfl, rfl⟩ | ⟨t, rfl, rfl⟩
  · exact ⟨t, w ++ y, by simp, by simp⟩
  · exact ⟨x ++ z, t, by simp, by simp⟩
theorem Cyc.reverse {a b : List Pt} : Cyc a b → Cyc a.reverse b.reverse := by
  rintro ⟨x, y, rfl, rfl⟩
  exact ⟨y.reverse, x.reverse, by simp, by simp⟩
theorem Cyc.rot {a b : List Pt} : Cyc a b → b ≠ [] → ∃ j, j < b.length ∧ a = rotL b j := by
  rintro ⟨x, y, rfl, rfl⟩ hne
  by_cases c : x = []
  · subst c
    exact ⟨0, List.length_pos_iff.2 hne, by simp [rotL]⟩
  · have := List.length_pos_iff.2 c
    refine ⟨y.length, by simp; omega, ?_⟩
    unfold rotL
    rw [List.drop_left' rfl, List.take_left' rfl]
theorem cyc_turn (b : List Pt) : Cyc b.reverse (turnL b) := by
  match b with
  | [] => exact ⟨[], [], rfl, rfl⟩
  | a :: r => exact ⟨r.reverse, [a], by simp, by simp [turnL]⟩
def cat (F : Nat → List Pt) (a : Nat) : Nat → List Pt
  | 0 => []
  | k + 1 => cat F a k ++ F (a + k)
theorem cat_congr {F G : Nat → List Pt} {a b : Nat} : ∀ k, (∀ i, i < k → F (a + i) = G (b + i)) → cat F a k = cat G b k
  | 0, _ => rfl
  | k + 1, h => by unfold cat; rw [cat_congr k (fun i hi => h i (by omega)), h k (by omega)]
theorem cat_add (F : Nat → List Pt) (a m : Nat) : ∀ k, cat F a (m + k) = cat F a m ++ cat F (a + m) k
  | 0 => by simp [cat]
  | k + 1 => by
    have := cat_add F a m k
    rw [← Nat.add_assoc]
    show cat F a (m + k) ++ F (a + (m + k)) = cat F a m ++ (cat F (a + m) k ++ F (a + m + k))
    rw [this, List.append_assoc, Nat.add_assoc]
theorem cat_cyc {F : Nat → List Pt} {n : Nat} (per : ∀ i, F (i + n) = F i) {k : Nat} (hk : k ≤ n) : Cyc (cat F 0 n) (cat F k n) := by
  obtain ⟨m, rfl⟩ : ∃ m, n = k + m := ⟨n - k, by omega⟩
  refine ⟨cat F 0 k, cat F k m, by rw [cat_add, Nat.zero_add], ?_⟩
  rw [Nat.add_comm k m, cat_add]
  congr 1
  exact cat_congr k (fun i _ => by rw [show k + m + i = 0 + i + (k + m) by omega]; exact per _)
theorem cat_back {F : Nat → List Pt} (hr : ∀ i, (F i).reverse = F i) (m : Nat) : ∀ n, n ≤ m + 1 → cat (fun i => F (m - i)) 0 n = (cat F (m + 1 - n) n).reverse
  | 0, _ => rfl
  | n + 1, h => by
    have ih := cat_back hr m n (by omega)
    have e : cat F (m + 1 - (n + 1)) (n + 1) = F (m - n) ++ cat F (m + 1 - n) n := by
      rw [Nat.add_comm n 1, cat_add]
      have : cat F (m + 1 - (1 + n)) 1 = F (m - n) := by
        show [] ++ F (m + 1 - (1 + n) + 0) = _
        rw [List.nil_append, show m + 1 - (1 + n) + 0 = m - n by omega]
      rw [this, show m + 1 - (1 + n) + 1 = m + 1 - n by omega]
    rw [e, List.reverse_append, hr]
    show cat (fun i => F (m - i)) 0 n ++ F (m - (0 + n)) = _
    rw [ih, Nat.zero_add]
def bentAt (l : List Pt) (i : Nat) : List Pt := if strt l i then [] else [pt l i]
theorem bent_cat (l : List Pt) : ∀ i, bent l i = cat (bentAt l) 0 i
  | 0 => rfl
  | i + 1 => by
    have ih := bent_cat l i
    show (if crossP (pt l (i + l.length - 1)) (pt l i) (pt l (i + 1)) = 0 then bent l i else bent l i ++ [pt l i]) = cat (bentAt l) 0 i ++ bentAt l (0 + i)
    rw [← ih, Nat.zero_add]
    unfold bentAt
    by_cases c : crossP (pt l (i + l.length - 1)) (pt l i) (pt l (i + 1)) = 0
    · rw [if_pos c, if_pos (show strt l i from c), List.append_nil]
    · rw [if_neg c, if_neg (show ¬ strt l i from c)]
theorem strt_per {l : List Pt} (h0 : 0 < l.length) (i : Nat) : strt l (i + l.length) ↔ strt l i := by
  unfold strt
  rw [show i + l.length + l.length - 1 = i + l.length - 1 + l.length by omega, show i + l.length + 1 = i + 1 + l.length by omega, pt_add, pt_add, pt_add]
theorem bentAt_per {l : List Pt} (h0 : 0 < l.length) (i : Nat) : bentAt l (i + l.length) = bentAt l i := by
  unfold bentAt
  rw [pt_add]
  by_cases c : strt l i
  · rw [if_pos c, if_pos ((strt_per h0 i).2 c)]
  · rw [if_neg c, if_neg (fun g => c ((strt_per h0 i).1 g))]
theorem bentAt_rev (l : List Pt) (i : Nat) : (bentAt l i).reverse = bentAt l i := by unfold bentAt; split <;> rfl
theorem strt_rot {l : List Pt} (h0 : 0 < l.length) {k : Nat} (hk : k ≤ l.length) (i : Nat) : strt (rotL l k) i ↔ strt l (k + i) := by
  unfold strt
  rw [rotL_length, pt_rot l hk, pt_rot l hk, pt_rot l hk, show k + (i + l.length - 1) = k + i + l.length - 1 by omega, show k + (i + 1) = k + i + 1 by omega]
theorem bentAt_rot {l : List Pt} (h0 : 0 < l.length) {k : Nat} (hk : k ≤ l.length) (i : Nat) : bentAt (rotL l k) i = bentAt l (k + i) := by
  unfold bentAt
  rw [pt_rot l hk]
  by_cases c : strt l (k + i)
  · rw [if_pos c, if_pos ((strt_rot h0 hk i).2 c)]
  · rw [if_neg c, if_neg (fun g => c ((strt_rot h0 hk i).1 g))]
theorem bent_rot {l : List Pt} (h0 : 0 < l.length) {k : Nat} (hk : k ≤ l.length) : Cyc (bent l l.length) (bent (rotL l k) (rotL l k).length) := by
  rw [bent_cat, bent_cat, rotL_length, cat_congr (F := bentAt (rotL l k)) (G := bentAt l) (b := k) l.length (fun i _ => by rw [Nat.zero_add]; exact bentAt_rot h0 hk i)]
  exact cat_cyc (bentAt_per h0) hk
theorem bentAt_turn {l : List Pt} (h0 : 0 < l.length) (i : Nat) (hi : i < l.length) : bentAt (turnL l) i = bentAt l (2 * l.length - i) := by
  have e : strt (turnL l) i ↔ strt l (2 * l.length - i) := by
    unfold strt
    rw [turnL_length, pt_turn h0 _ (by omega), pt_turn h0 _ (by omega), pt_turn h0 _ (by omega)]
    rw [show 2 * l.length - (i + l.length - 1) = l.length - i + 1 by omega, show 2 * l.length - i + l.length - 1 = 2 * l.length - (i + 1) + l.length by omega, show 2 * l.length - i + 1 = l.length - i + 1 + l.length by omega, pt_add, pt_add]
    have : crossP (pt l (l.length - i + 1)) (pt l (2 * l.length - i)) (pt l (2 * l.length - (i + 1))) = - crossP (pt l (2 * l.length - (i + 1))) (pt l (2 * l.length - i)) (pt l (l.length - i + 1)) := by unfold crossP crossI; grind
    rw [this]; omega
  unfold bentAt
  rw [pt_turn h0 _ (by omega)]
  by_cases c : strt l (2 * l.length - i)
  · rw [if_pos c, if_pos (e.2 c)]
  · rw [if_neg c, if_neg (fun g => c (e.1 g))]
theorem bent_turn {l : List Pt} (h0 : 0 < l.length) : Cyc (bent (turnL l) (turnL l).length) (turnL (bent l l.length)) := by
  rw [bent_cat, bent_cat, turnL_length, cat_congr (F := bentAt (turnL l)) (G := fun i => bentAt l (2 * l.length - i)) (b := 0) l.length (fun i hi => by rw [Nat.zero_add]; exact bentAt_turn h0 i hi)]
  rw [cat_back (bentAt_rev l) (2 * l.length) l.length (by omega), show 2 * l.length + 1 - l.length = l.length + 1 by omega]
  rw [cat_congr (G := bentAt l) (b := 1) l.length (fun i _ => by rw [show l.length + 1 + i = 1 + i + l.length by omega]; exact bentAt_per h0 _)]
  exact (cat_cyc (bentAt_per h0) (show 1 ≤ l.length by omega)).symm.reverse.trans (cyc_turn _)
theorem bent_id {l : List Pt} (h : ∀ i, i < l.length → ¬ strt l i) : bent l l.length = l := by
  have : ∀ i, i ≤ l.length → bent l i = l.take i := by
    intro i
    induction i with
    | zero => intro _; simp [bent]
    | succ i ih =>
      intro hi
      have e : bent l (i + 1) = bent l i ++ [pt l i] := by
        show (if crossP (pt l (i + l.length - 1)) (pt l i) (pt l (i + 1)) = 0 then bent l i else bent l i ++ [pt l i]) = _
        exact if_neg (h i (by omega))
      rw [e, ih (by omega), pt_at l i (by omega), List.take_succ_eq_append_getElem (by omega)]
  rw [this _ (Nat.le_refl _), List.take_length]
theorem cross_part {a b m y : Pick.V} (hne : a ≠ b) (hm : Pick.on a b m) (hma : m ≠ a) : Pick.cross a m y = 0 ↔ Pick.cross a b y = 0 := by
  obtain ⟨L, l, hL, l0, l1, ex, ey⟩ := Pick.on_frac hne hm
  have hl : l ≠ 0 := fun g => hma (Pick.frac_zero hL ex ey g)
  have f := Pick.frac_cross ex ey y
  constructor
  · intro h
    rw [h, Int.mul_zero] at f
    rcases Int.mul_eq_zero.mp f.symm with g | g
    · exact absurd g hl
    · exact g
  · intro h
    rw [h, Int.mul_zero] at f
    rcases Int.mul_eq_zero.mp f with g | g
    · omega
    · exact g
theorem bent_drop {l : List Pt} {x : Pt} (hp : Poly (l ++ [x])) (h : strt (l ++ [x]) l.length) : bent (l ++ [x]) (l ++ [x]).length = bent l l.length := by
  have n4 := four_of hp (by simp) h
  have ln : (l ++ [x]).length = l.length + 1 := by simp
  rw [ln] at n4
  have r := poly_road hp
  have o' : Pick.on (vp (pt (l ++ [x]) (l.length + (l ++ [x]).length - 1))) (vp (pt (l ++ [x]) (l.length + 1))) (vp (pt (l ++ [x]) l.length)) := (vp_on _ _ _).mpr ((straight_prev hp (i := l.length) (by rw [ln]; omega)).1 h)
  have i0 : pt l 0 = pt (l ++ [x]) 0 := pt_init l x (by omega)
  have eA : pt (l ++ [x]) (l.length + (l ++ [x]).length - 1) = pt l (l.length - 1) := by
    rw [pt_init l x (show l.length - 1 < l.length by omega), show l.length + (l ++ [x]).length - 1 = l.length - 1 + (l ++ [x]).length by omega, pt_add]
  have eB : pt (l ++ [x]) (l.length + 1) = pt l 0 := by
    rw [i0, show l.length + 1 = 0 + (l ++ [x]).length by rw [ln]; omega, pt_add]
  have eX : pt (l ++ [x]) l.length = x := pt_last l x
  rw [eA, eB, eX] at o'
  have b1 := (r.bend (l.length - 1)).ab
  have b2 := (r.bend l.length).ab
  have xa : vp x ≠ vp (pt l (l.length - 1)) := by
    have e1 : vr (l ++ [x]) (l.length - 1) = vp (pt l (l.length - 1)) := by rw [pt_init l x (show l.length - 1 < l.length by omega)]; rfl
    have e2 : vr (l ++ [x]) (l.length - 1 + 1) = vp x := by rw [show l.length - 1 + 1 = l.length by omega]; show vp (pt _ _) = _; rw [eX]
    rw [e1, e2] at b1
    exact b1.symm
  have xb : vp x ≠ vp (pt l 0) := by
    have e1 : vr (l ++ [x]) l.length = vp x := by show vp (pt _ _) = _; rw [eX]
    have e2 : vr (l ++ [x]) (l.length + 1) = vp (pt l 0) := by show vp (pt _ _) = _; rw [eB]
    rw [e1, e2] at b2
    exact b2
  have ab : vp (pt l (l.length - 1)) ≠ vp (pt l 0) := by
    intro e
    rw [e] at o'
    have := o'.2.1; have := o'.2.2
    unfold Pick.btw at *
    exact xb (Pick.V.ext' (by omega) (by omega))
  have same : ∀ j, j < l.length → bentAt l j = bentAt (l ++ [x]) j := by
    intro j hj
    have ej := pt_init l x hj
    have e : strt l j ↔ strt (l ++ [x]) j := by
      unfold strt
      by_cases c0 : j = 0
      · subst c0
        have p1 : pt l (0 + l.length - 1) = pt l (l.length - 1) := by rw [Nat.zero_add]
        have p2 : pt (l ++ [x]) (0 + (l ++ [x]).length - 1) = x := by rw [ln, show 0 + (l.length + 1) - 1 = l.length by omega, eX]
        rw [p1, p2, ← ej, ← pt_init l x (show 0 + 1 < l.length by omega)]
        have c := cross_part (y := vp (pt l (0 + 1))) (fun e => ab e.symm) (Pick.on_swap o') xb
        rw [vp_cross, vp_cross] at c
        rw [crossP_swap (pt l (l.length - 1)), crossP_swap x]
        omega
      · have pv : pt l (j + l.length - 1) = pt (l ++ [x]) (j + (l ++ [x]).length - 1) := by
          rw [show j + l.length - 1 = j - 1 + l.length by omega, show j + (l ++ [x]).length - 1 = j - 1 + (l ++ [x]).length by omega, pt_add, pt_add]
          exact pt_init l x (by omega)
        by_cases c1 : j + 1 < l.length
        · rw [pv, ej, pt_init l x c1]
        · have hj' : j = l.length - 1 := by omega
          have p1 : pt l (j + 1) = pt l 0 := by rw [show j + 1 = 0 + l.length by omega, pt_add]
          have p2 : pt (l ++ [x]) (j + 1) = x := by rw [show j + 1 = l.length by omega, eX]
          rw [p1, p2, ← pv, ← ej]
          have c := cross_part (y := vp (pt l (j + l.length - 1))) ab o' xa
          rw [← hj'] at c
          rw [vp_cross, vp_cross] at c
          rw [crossP_cyc (pt l (j + l.length - 1)) (pt l j) (pt l 0), crossP_cyc (pt l (j + l.length - 1)) (pt l j) x]
          omega
    unfold bentAt
    rw [ej]
    by_cases c : strt l j
    · rw [if_pos c, if_pos (e.1 c)]
    · rw [if_neg c, if_neg (fun g => c (e.2 g))]
  rw [bent_cat, bent_cat, ln]
  show cat (bentAt (l ++ [x])) 0 l.length ++ bentAt (l ++ [x]) (0 + l.length) = _
  have z : bentAt (l ++ [x]) (0 + l.length) = [] := by rw [Nat.zero_add]; exact if_pos h
  rw [z, List.append_nil]
  exact cat_congr _ (fun i hi => by rw [Nat.zero_add]; exact (same i hi).symm)
def Clean (A : Int) (s : List Pt) : Prop := Poly s ∧ twS s s.length = A ∧ ∀ i, ¬ strt s i
theorem Clean.rot {A : Int} {s t : List Pt} (h : Clean A s) (c : Cyc t s) : Clean A t := by
  obtain ⟨hp, ha, hs⟩ := h
  have h3 := hp.n3
  obtain ⟨j, hj, rfl⟩ := c.rot (List.length_pos_iff.1 (by omega))
  exact ⟨poly_rot hp (by omega), by rw [twS_rot s (by omega), ha], fun i g => hs _ ((strt_rot (by omega) (by omega) i).1 g)⟩
theorem bent_clean : ∀ (n : Nat) (l : List Pt), l.length = n → Poly l → Clean (twS l l.length) (bent l l.length)
  | 0, l, hn, hp => by have := hp.n3; omega
  | n + 1, l, hn, hp => by
    have h3 := hp.n3
    by_cases c : ∃ i, i < l.length ∧ strt l i
    · obtain ⟨i, hi, hs⟩ := c
      have hl : (rotL l (i + 1)).length = n + 1 := by rw [rotL_length, hn]
      have hne : rotL l (i + 1) ≠ [] := List.length_pos_iff.1 (by omega)
      obtain ⟨l', x, e⟩ : ∃ l' x, rotL l (i + 1) = l' ++ [x] := ⟨_, _, (List.dropLast_concat_getLast hne).symm⟩
      have hp2 := poly_rot hp (show i + 1 ≤ l.length by omega)
      have hs2 : strt (rotL l (i + 1)) n := (strt_rot (by omega) (by omega) n).2 (by rw [show i + 1 + n = i + l.length by omega]; exact (strt_per (by omega) i).2 hs)
      have br := bent_rot (l := l) (by omega) (show i + 1 ≤ l.length by omega)
      have ar := twS_rot l (show i + 1 ≤ l.length by omega)
      rw [e] at hp2 hs2 br ar hl
      have ll : l'.length = n := by simpa using hl
      rw [← ll] at hs2
      obtain ⟨d1, d2⟩ := drop_road hp2 hs2
      have ih := bent_clean n l' ll d1
      rw [d2, ar, ← bent_drop hp2 hs2] at ih
      exact ih.rot br
    · have no : ∀ i, i < l.length → ¬ strt l i := fun i hi g => c ⟨i, hi, g⟩
      rw [bent_id no]
      refine ⟨hp, rfl, fun i g => ?_⟩
      have lt := Nat.mod_lt i (show 0 < l.length by omega)
      have per : ∀ q r, strt l (r + l.length * q) ↔ strt l r := by
        intro q r
        induction q with
        | zero => simp
        | succ q ih => rw [Nat.mul_succ, ← Nat.add_assoc, strt_per (by omega), ih]
      rw [← Nat.mod_add_div i l.length] at g
      exact no _ lt ((per _ _).1 g)
theorem bent_poly {l : List Pt} (hp : Poly l) : Poly (bent l l.length) ∧ twS (bent l l.length) (bent l l.length).length = twS l l.length ∧ bent (bent l l.length) (bent l l.length).length = bent l l.length := by
  obtain ⟨h1, h2, h3⟩ := bent_clean _ l rfl hp
  exact ⟨h1, h2, bent_id (fun i _ => h3 i)⟩
theorem neq_pt (p q : Pt) : ((!(p.f0 == q.f0) || (!(p.f1 == q.f1))) = true) ↔ p ≠ q := by
  constructor
  · intro h e; subst e; simp at h
  · intro h
    by_cases h0 : p.f0 = q.f0
    · by_cases h1 : p.f1 = q.f1
      · exact absurd (by cases p; cases q; simp_all) h
      · simp [h1]
    · simp [h0]
theorem drop_step {a b : List Pt} {i : Nat} (hi : i < a.length) (hj : i < b.length) : (a.drop i = b.drop i) = (a[i] = b[i] ∧ a.drop (i + 1) = b.drop (i + 1)) := by
  rw [List.drop_eq_getElem_cons hi, List.drop_eq_getElem_cons hj, List.cons.injEq]
theorem impl_equal_l0 (a b : List Pt) (hab : a.length = b.length) (hl : a.length ≤ 1000) (d : Nat) : ∀ (k i : Nat), i + d = a.length → d < k →
    impl_Point_58.l0 k a b (a.length : Int) (i : Int) = some (decide (a.drop i = b.drop i)) := by
  induction d with
  | zero =>
    intro k i h hk
    obtain ⟨k, rfl⟩ : ∃ m, k = m + 1 := ⟨k - 1, by omega⟩
    simp only [impl_Point_58.l0]
    rw [if_neg (by omega), List.drop_of_length_le (by omega), List.drop_of_length_le (by omega)]; simp
  | succ d ih =>
    intro k i h hk
    obtain ⟨k, rfl⟩ : ∃ m, k = m + 1 := ⟨k - 1, by omega⟩
    have hi : i < a.length := by omega
    have hj : i < b.length := by omega
    simp only [impl_Point_58.l0]
    rw [if_pos (by omega), if_pos (by omega), if_pos (by omega), if_pos (by omega), rd_at a i hi, rd_at b i hj, wrap64_id (by omega) (by omega)]
    have ih' := ih k (i + 1) (by omega) (by omega)
    push_cast at ih'
    by_cases e : a[i] = b[i]
    · rw [if_neg (fun hh => (neq_pt a[i] b[i]).1 hh e), ih']
      congr 1
      rw [decide_eq_decide, drop_step hi hj]
      simp [e]
    · rw [if_pos ((neq_pt a[i] b[i]).2 e)]
      congr 1
      exact (decide_eq_false (by rw [drop_step hi hj]; exact fun h => e h.1)).symm
theorem impl_equal_eq (a b : List Pt) (hl : a.length ≤ 1000) (k : Nat) (hk : 1000 < k) : impl_Point_58.f k a b = some (decide (a = b)) := by
  unfold impl_Point_58.f
  by_cases h : a.length = b.length
  · rw [if_pos (by omega)]
    have := impl_equal_l0 a b h hl a.length k 0 (by omega) (by omega)
    simpa using this
  · rw [if_neg (by omega)]
    have : ¬ a = b := fun e => h (by rw [e])
    simp [this]
theorem impl_turn_eq_ {l : List Pt} (hn : l.length ≤ 1000) (h0 : 0 < l.length) : impl_turned.f l = some (turnL l) := by
  unfold impl_turned.f
  rw [if_pos h0, if_pos (by omega)]; rfl
theorem impl_straight_l0 {l : List Pt} (hp : Poly l) (d : Nat) : ∀ (k i : Nat), i + d = l.length → d < k → impl_straightened.l0 k l (l.length : Int) (bent l i) l (l.length : Int) (i : Int) = some (bent l l.length) := by
  have h3 := hp.n3
  have h10 := hp.n10
  have h0 : 0 < l.length := by omega
  induction d with
  | zero =>
    intro k i hi hk
    obtain ⟨k, rfl⟩ : ∃ m, k = m + 1 := ⟨k - 1, by omega⟩
    obtain rfl : i = l.length := by omega
    simp only [impl_straightened.l0]; rw [if_neg (by omega)]
  | succ d ih =>
    intro k i hi hk
    obtain ⟨k, rfl⟩ : ∃ m, k = m + 1 := ⟨k - 1, by omega⟩
    have wi : wrap64 ((i : Int) + 1) = ((i + 1 : Nat) : Int) := by rw [wrap64_id (by omega) (by omega)]; rfl
    have li := Nat.mod_lt (i + 1) h0
    have lp := Nat.mod_lt (i + l.length - 1) h0
    have s : ∀ k, smp (pt l k) := fun k => okp_smp (hp.okp _ (pt_mem l k h0))
    simp only [impl_straightened.l0]
    rw [wi, prev_at l i (by omega) (by omega), tmod_at, rd_mod l (i + 1) h0, rd_mod l (i + l.length - 1) h0, rd_pt l i (by omega), if_pos (by omega), if_pos (by omega), if_pos (by omega), if_neg (by omega), if_pos (by omega), if_pos (by omega), if_pos (by omega), if_pos (by omega)]
    rw [impl_on_eq (s _).1 (s _).2 (s _).1 (s _).2 (s _).1 (s _).2, Option.bind_some]
    rw [← ih k (i + 1) (by omega) (by omega)]
    have hb := bent_len l i
    have hs := straight_prev hp (i := i) (by omega)
    have ec : onI (pt l (i + l.length - 1)).f0 (pt l (i + l.length - 1)).f1 (pt l (i + 1)).f0 (pt l (i + 1)).f1 (pt l i).f0 (pt l i).f1 = onP (pt l (i + l.length - 1)) (pt l (i + 1)) (pt l i) := rfl
    rw [ec]
    by_cases h : crossP (pt l (i + l.length - 1)) (pt l i) (pt l (i + 1)) = 0
    · simp only [bent]; rw [if_pos h, if_pos (hs.1 h)]
    · simp only [bent]; rw [if_neg h, if_neg (fun g => h (hs.2 g)), if_pos (by omega)]
theorem impl_straight_eq {l : List Pt} (hp : Poly l) (k : Nat) (hk : 11 < k) : impl_straightened.f k l = some (bent l l.length) := by
  have h10 := hp.n10
  unfold impl_straightened.f; exact impl_straight_l0 hp l.length k 0 (by omega) (by omega)
def foundP (P : Nat → Prop) [DecidablePred P] (n i : Nat) : Bool := decide (∃ j, j < n ∧ i ≤ j ∧ P j)
theorem foundP_end {P : Nat → Prop} [DecidablePred P] {n : Nat} : foundP P n n = false := decide_eq_false (fun ⟨j, h1, h2, _⟩ => by omega)
theorem foundP_hit {P : Nat → Prop} [DecidablePred P] {n i : Nat} (hi : i < n) (h : P i) : foundP P n i = true := decide_eq_true ⟨i, hi, Nat.le_refl _, h⟩
theorem foundP_miss {P : Nat → Prop} [DecidablePred P] {n i : Nat} (h : ¬ P i) : foundP P n i = foundP P n (i + 1) := by
  unfold foundP
  rw [decide_eq_decide]
  constructor
  · rintro ⟨j, h1, h2, h3⟩
    refine ⟨j, h1, ?_, h3⟩
    rcases Nat.lt_or_ge i j with h4 | h4
    · exact h4
    · exact absurd (show P i by rw [show i = j by omega]; exact h3) h
  · rintro ⟨j, h1, h2, h3⟩
    exact ⟨j, h1, by omega, h3⟩
theorem impl_same_l1 {a c : List Pt} (ha : a.length ≤ 1000) (hc : c.length ≤ 1000) (d : Nat) : ∀ (k i : Nat), i + d = c.length → d + 2000 < k →
    impl_SamePolygon.l1 k a c (i : Int) = some (foundP (fun j => a = rotL c j) c.length i) := by
  induction d with
  | zero =>
    intro k i h hk
    obtain ⟨k, rfl⟩ : ∃ m, k = m + 1 := ⟨k - 1, by omega⟩
    simp only [impl_SamePolygon.l1]
    rw [if_neg (by omega), show i = c.length by omega, foundP_end]
  | succ d ih =>
    intro k i h hk
    obtain ⟨k, rfl⟩ : ∃ m, k = m + 1 := ⟨k - 1, by omega⟩
    have hi : i < c.length := by omega
    have ih' := ih k (i + 1) (by omega) (by omega)
    push_cast at ih'
    simp only [impl_SamePolygon.l1]
    rw [if_pos (by omega), if_pos (by omega), Int.toNat_natCast, impl_rot c hc k (by omega), Option.bind_some, impl_equal_eq a _ ha k (by omega), Option.bind_some]
    by_cases e1 : a = rotL c i
    · rw [if_pos (decide_eq_true e1), foundP_hit hi e1]
    · rw [if_neg (by simpa using e1), wrap64_id (by omega) (by omega), ih', ← foundP_miss (P := fun j => a = rotL c j) (i := i) e1]
theorem impl_same_V {a b : List Pt} (ha : a.length ≤ 1000) (hb : b.length ≤ 1000) (hne : b ≠ []) (h : Cyc a b ∨ Cyc a (turnL b)) (k : Nat) (hk : 4000 < k) : impl_SamePolygon.l0 k a [b, turnL b] 3 0 = some true := by
  have w1 : wrap64 (0 + 1) = 1 := (wrap64_id (by omega) (by omega)).trans (by omega)
  have n2 : (([b, turnL b].length : Nat) : Int) = 2 := rfl
  have g0 : ([b, turnL b].getD (0 : Int).toNat []) = b := rfl
  have g1 : ([b, turnL b].getD (1 : Int).toNat []) = turnL b := rfl
  have i0 := impl_same_l1 ha hb b.length k 0 (by omega) (by omega)
  have i1 := impl_same_l1 (c := turnL b) ha (by rw [turnL_length]; omega) (turnL b).length k 0 (by omega) (by rw [turnL_length]; omega)
  rw [show ((0 : Nat) : Int) = 0 from rfl] at i0 i1
  rw [impl_SamePolygon.l0, n2, if_pos (by decide), if_pos (by decide), g0, i0, Option.bind_some, w1]
  by_cases h0 : foundP (fun j => a = rotL b j) b.length 0 = true
  · rw [if_pos h0]
  · rw [if_neg h0, impl_SamePolygon.l0, n2, if_pos (by decide), if_pos (by decide), g1, i1, Option.bind_some]
    have h1 : foundP (fun j => a = rotL (turnL b) j) (turnL b).length 0 = true := by
      rcases h with h | h
      · obtain ⟨j, hj, e⟩ := h.rot hne
        exact absurd (decide_eq_true ⟨j, hj, Nat.zero_le _, e⟩) h0
      · obtain ⟨j, hj, e⟩ := h.rot (List.length_pos_iff.1 (by rw [turnL_length]; exact List.length_pos_iff.2 hne))
        exact decide_eq_true ⟨j, hj, Nat.zero_le _, e⟩
    rw [if_pos h1]
theorem impl_SameV {l m : List Pt} (hl : Poly l) (hm : Poly m) (h : Cyc (bent l l.length) (bent m m.length) ∨ Cyc (bent l l.length) (turnL (bent m m.length))) (k : Nat) (hk : 4000 < k) : impl_SamePolygon.f k l m = some true := by
  have h10 := hl.n10
  have g10 := hm.n10
  have hb := bent_len l l.length
  have hc := bent_len m m.length
  have hn := (bent_poly hm).1.n3
  unfold impl_SamePolygon.f
  rw [impl_PolygonOk_some, Option.bind_some, if_pos ((impl_ok_iff _).2 hl), impl_PolygonOk_some, Option.bind_some, if_pos ((impl_ok_iff _).2 hm), impl_straight_eq hl k (by omega), Option.bind_some, impl_straight_eq hm k (by omega), Option.bind_some, impl_turn_eq_ (by omega) (by omega), Option.bind_some]
  exact impl_same_V (by omega) (by omega) (List.length_pos_iff.1 (by omega)) h k (by omega)
end Go.Proofs.Ytlccpkggdmngaaa.G
namespace Go.Proofs.Ytlccpkggdmngaaa.Pure
open Go.RowKit Go.Proofs.Ytlccpkggdmngaaa.G Go.Proofs.YtlccpkggdmngaaaW.PrintWords Go.Proofs.YtlccpkggdmngaaaW.PrintLast Go.Proofs.YtlccpkggdmngaaaW.PrintMore
set_option linter.unusedSimpArgs false
set_option linter.unusedVariables false
theorem okB {l : List Pt} (hp : Poly l) : impl_PolygonOk.ok l = true := (impl_ok_iff _).2 hp
theorem twiceV {l : List Pt} (hp : Poly l) (k : Nat) (hk : 100 < k) : impl_TwiceArea.f k l = some (twS l l.length) := by
  unfold impl_TwiceArea.f
  rw [impl_PolygonOk_some, Option.bind_some, if_pos (okB hp), impl_twV hp k (by omega)]; rfl
theorem turnV {l : List Pt} (hp : Poly l) : impl_TurnPolygon.f l = some (turnL l) := by
  have := hp.n3; have := hp.n10
  unfold impl_TurnPolygon.f
  rw [impl_PolygonOk_some, Option.bind_some, if_pos (okB hp), impl_turn_eq_ (by omega) (by omega)]; rfl
theorem strV {l : List Pt} (hp : Poly l) (k : Nat) (hk : 100 < k) : impl_Straightened.f k l = some (bent l l.length) := by
  unfold impl_Straightened.f
  rw [impl_PolygonOk_some, Option.bind_some, if_pos (okB hp), impl_straight_eq hp k (by omega)]; rfl
theorem sideV {l : List Pt} (hp : Poly l) (k : Nat) (hk : 100 < k) : impl_SideCount.f k l = some ((bent l l.length).length : Int) := by
  unfold impl_SideCount.f
  rw [impl_PolygonOk_some, Option.bind_some, if_pos (okB hp), impl_straight_eq hp k (by omega)]; rfl
theorem startV {l : List Pt} (hp : Poly l) (r k : Nat) (hr : r < l.length) (hk : 100 < k) : impl_StartAt.f k l (r : Int) = some (rotL l r) := by
  have := hp.n3; have := hp.n10
  unfold impl_StartAt.f impl_within.f
  rw [impl_PolygonOk_some, Option.bind_some, if_pos (okB hp), wrap64_id (by omega) (by omega), if_pos (by omega), Option.bind_some, if_pos (decide_eq_true (by omega)), if_pos (by omega), if_pos (by omega), Int.toNat_natCast, impl_rot l (by omega) k (by omega)]; rfl
theorem startN {l : List Pt} (hp : Poly l) (k : Nat) : impl_StartAt.f k l (l.length : Int) = some [] := by
  have := hp.n3; have := hp.n10
  unfold impl_StartAt.f impl_within.f
  rw [impl_PolygonOk_some, Option.bind_some, if_pos (okB hp), wrap64_id (by omega) (by omega), if_pos (by omega), Option.bind_some, if_neg (by simp; omega)]
theorem boxV_l0 {l : List Pt} (hok : ∀ p ∈ l, okp p = true) (hn : l.length ≤ 1000000) (h0 : 0 < l.length) (d : Nat) : ∀ (k i : Nat) (a b c e : Int), i + d = l.length → d < k → 0 ≤ a → 0 ≤ b → c ≤ 40 → e ≤ 40 → a ≤ 40 → b ≤ 40 → 0 ≤ c → 0 ≤ e →
    (∀ j, j < i → a ≤ (pt l j).f0 ∧ b ≤ (pt l j).f1 ∧ (pt l j).f0 ≤ c ∧ (pt l j).f1 ≤ e) →
    ∃ lx ly hx hy : Int, impl_box.l0 k l (l.length : Int) (i : Int) a b c e = some (lx, ly, hx, hy) ∧ 0 ≤ lx ∧ 0 ≤ ly ∧ hx ≤ 40 ∧ hy ≤ 40 ∧ ∀ j, j < l.length → lx ≤ (pt l j).f0 ∧ ly ≤ (pt l j).f1 ∧ (pt l j).f0 ≤ hx ∧ (pt l j).f1 ≤ hy := by
  induction d with
  | zero =>
    intro k i a b c e hi hk a0 b0 c0 e0 _ _ _ _ hj
    obtain ⟨k, rfl⟩ : ∃ m, k = m + 1 := ⟨k - 1, by omega⟩
    obtain rfl : i = l.length := by omega
    simp only [impl_box.l0]
    rw [if_neg (by omega)]
    exact ⟨a, b, c, e, rfl, a0, b0, c0, e0, hj⟩
  | succ d ih =>
    intro k i a b c e hi hk a0 b0 c0 e0 a1 b1 c1 e1 hj
    obtain ⟨k, rfl⟩ : ∃ m, k = m + 1 := ⟨k - 1, by omega⟩
    have wi : wrap64 ((i : Int) + 1) = ((i + 1 : Nat) : Int) := by rw [wrap64_id (by omega) (by omega)]; rfl
    have p := pt_ok hok h0 i
    simp only [impl_box.l0]
    rw [wi, if_pos (by omega), if_pos (by omega), if_pos (by omega), rd_pt l i (by omega)]
    refine ih k (i + 1) _ _ _ _ (by omega) (by omega) (by unfold mn; omega) (by unfold mn; omega) (by unfold mx; omega) (by unfold mx; omega) (by unfold mn; omega) (by unfold mn; omega) (by unfold mx; omega) (by unfold mx; omega) (fun j h => ?_)
    by_cases hji : j = i
    · subst hji; unfold mn mx; omega
    · have := hj j (by omega); unfold mn mx; omega
theorem boxV {l : List Pt} (hp : Poly l) : ∃ lx ly hx hy : Int, (∀ k, 100 < k → impl_BoxOf.f k l = some (lx, ly, hx, hy, true)) ∧ 0 ≤ lx ∧ 0 ≤ ly ∧ hx ≤ 40 ∧ hy ≤ 40 ∧ ∀ j, lx ≤ (pt l j).f0 ∧ ly ≤ (pt l j).f1 ∧ (pt l j).f0 ≤ hx ∧ (pt l j).f1 ≤ hy := by
  have h3 := hp.n3
  have h10 := hp.n10
  have p0 := pt_ok hp.okp (show 0 < l.length by omega) 0
  have go := fun k (hk : 100 < k) => boxV_l0 hp.okp (by omega) (by omega) l.length k 0 (pt l 0).f0 (pt l 0).f1 (pt l 0).f0 (pt l 0).f1 (by omega) (by omega) p0.1 p0.2.2.1 p0.2.1 p0.2.2.2 p0.2.1 p0.2.2.2 p0.1 p0.2.2.1 (fun j h => by omega)
  obtain ⟨lx, ly, hx, hy, eb, a1, a2, a3, a4, a5⟩ := go 101 (by omega)
  refine ⟨lx, ly, hx, hy, fun k hk => ?_, a1, a2, a3, a4, fun j => by rw [pt_mod]; exact a5 _ (Nat.mod_lt _ (by omega))⟩
  have more : ∀ d, impl_box.l0 (101 + d) l (l.length : Int) ((0 : Nat) : Int) (pt l 0).f0 (pt l 0).f1 (pt l 0).f0 (pt l 0).f1 = some (lx, ly, hx, hy) := by
    intro d
    induction d with
    | zero => exact eb
    | succ d ih => exact impl_box.mono_l (101 + d) _ _ _ _ _ _ _ _ ih
  have m := more (k - 101)
  rw [show 101 + (k - 101) = k by omega] at m
  unfold impl_BoxOf.f impl_box.f
  have r0 : rd_T27 l 0 = pt l 0 := rd_pt l 0 (by omega)
  have m' : impl_box.l0 k l (l.length : Int) 0 (pt l 0).f0 (pt l 0).f1 (pt l 0).f0 (pt l 0).f1 = some (lx, ly, hx, hy) := m
  rw [impl_PolygonOk_some, Option.bind_some, if_pos (okB hp), if_pos (by omega), r0, m']; rfl
theorem points_l0 (l : List Pt) (hn : l.length ≤ 1000) (d : Nat) : ∀ (k i : Nat), i + d = l.length → d < k → laws_points.l0 k l l (l.length : Int) (i : Int) = some true := by
  induction d with
  | zero =>
    intro k i hi hk
    obtain ⟨k, rfl⟩ : ∃ m, k = m + 1 := ⟨k - 1, by omega⟩
    simp only [laws_points.l0]
    rw [if_neg (by omega)]
  | succ d ih =>
    intro k i hi hk
    obtain ⟨k, rfl⟩ : ∃ m, k = m + 1 := ⟨k - 1, by omega⟩
    simp only [laws_points.l0]
    rw [if_pos (by omega), if_pos (by omega), if_pos (by omega), if_pos (by omega), if_neg (by simp), wrap64_id (by omega) (by omega)]
    exact ih k (i + 1) (by omega) (by omega)
theorem pointsV (l : List Pt) (hn : l.length ≤ 1000) (k : Nat) (hk : 1000 < k) : laws_points.f k l l = some true := by
  unfold laws_points.f
  rw [if_pos rfl]
  exact points_l0 l hn l.length k 0 (by omega) (by omega)
theorem insideV {l : List Pt} (hp : Poly l) (x y : Int) (hxy : ok x y = true) : ∃ b : Bool, (∀ k, 100 < k → impl_IsInside.f k l x y = some b) ∧ Pick.ins (vr l) l.length ⟨x, y⟩ + Pick.ind (¬ Pick.Off (vr l) ⟨x, y⟩) = (if b = true then 1 else 0) ∧ (¬ Pick.Off (vr l) ⟨x, y⟩ → b = true) ∧ (Pick.Off (vr l) ⟨x, y⟩ → Pick.W (vr l) l.length ⟨x, y⟩ = 0 → b = false) := by
  classical
  have h3 := hp.n3
  have s := sm_ok hxy
  have e := fun k (hk : 11 < k) => impl_isIn_eq hp (x := ⟨x, y⟩) s k hk
  have off := off_iff (l := l) (by omega) ⟨x, y⟩
  have ii := ins_iff hp ⟨x, y⟩
  have vx : vp ⟨x, y⟩ = ⟨x, y⟩ := rfl
  rw [vx] at off ii
  refine ⟨if ∃ j, j < l.length ∧ rimP l ⟨x, y⟩ j = true then true else par l ⟨x, y⟩ l.length, fun k hk => ?_, ?_⟩
  · unfold impl_IsInside.f
    rw [impl_PolygonOk_some, Option.bind_some, if_pos (okB hp), impl_PointOk_eq, Option.bind_some, if_pos hxy, e k (by omega)]; rfl
  · by_cases c : ∃ j, j < l.length ∧ rimP l ⟨x, y⟩ j = true
    · have nOff : ¬ Pick.Off (vr l) ⟨x, y⟩ := fun g => off.mp g c
      rw [if_pos c, if_pos rfl, Pick.ind_t nOff, show Pick.ins (vr l) l.length ⟨x, y⟩ = 0 from Pick.ind_f (fun g => nOff g.1)]
      exact ⟨rfl, fun _ => rfl, fun g => absurd g nOff⟩
    · have o := off.mpr c
      rw [if_neg c, Pick.ind_f (fun g => g o)]
      by_cases c2 : par l ⟨x, y⟩ l.length = true
      · have g := ii.mpr ⟨c, c2⟩
        rw [if_pos c2, show Pick.ins (vr l) l.length ⟨x, y⟩ = 1 from Pick.ind_t g]
        exact ⟨rfl, fun k => absurd o k, fun _ k => absurd k g.2⟩
      · rw [if_neg c2, show Pick.ins (vr l) l.length ⟨x, y⟩ = 0 from Pick.ind_f (fun g => c2 (ii.mp g).2)]
        exact ⟨rfl, fun k => absurd o k, fun _ _ => by simpa using c2⟩
theorem rim_in {l : List Pt} (hp : Poly l) {i : Nat} {q : Pt} (hq : Pick.on (vr l i) (vr l (i + 1)) (vp q)) (k : Nat) (hk : 100 < k) : impl_IsInside.f k l q.f0 q.f1 = some true := by
  have h3 := hp.n3
  have a := pt_ok hp.okp (show 0 < l.length by omega) i
  have b := pt_ok hp.okp (show 0 < l.length by omega) (i + 1)
  have hok : ok q.f0 q.f1 = true := by
    have h1 := hq.2.1
    have h2 := hq.2.2
    unfold Pick.btw vr vp at h1 h2
    simp only [] at h1 h2
    exact ok_iff.2 (by omega)
  obtain ⟨r, e, _, g, _⟩ := insideV hp q.f0 q.f1 hok
  rw [e k hk, g (fun o => o i hq)]
theorem onV_l0 {a b : Pt} (ha : okp a = true) (hb : okp b = true) (g : Nat) (g0 : 0 < g) (hg : g ≤ 200) (ex ey : Int) (hx : b.f0 - a.f0 = g * ex) (hy : b.f1 - a.f1 = g * ey) (d : Nat) : ∀ (k i : Nat) (xs : List Pt), 1 ≤ i → i + d = g + 1 → xs.length ≤ i → d < k → (∀ q ∈ xs, Pick.on (vp a) (vp b) (vp q)) →
    ∃ r, r.length ≤ 300 ∧ impl_PointsOn.l0 k (g : Int) xs (i : Int) a.f0 a.f1 b.f0 b.f1 = some r ∧ ∀ q ∈ r, Pick.on (vp a) (vp b) (vp q) := by
  rw [okp_iff] at ha hb
  induction d with
  | zero =>
    intro k i xs h1 hi hl hk hq
    obtain ⟨k, rfl⟩ : ∃ m, k = m + 1 := ⟨k - 1, by omega⟩
    simp only [impl_PointsOn.l0]
    rw [if_neg (by omega)]
    exact ⟨xs, by omega, rfl, hq⟩
  | succ d ih =>
    intro k i xs h1 hi hl hk hq
    obtain ⟨k, rfl⟩ : ∃ m, k = m + 1 := ⟨k - 1, by omega⟩
    have bnd : ∀ u v e : Int, v - u = g * e → 0 ≤ u → u ≤ 40 → 0 ≤ v → v ≤ 40 → -40 ≤ i * e ∧ i * e ≤ 40 ∧ -40 ≤ e ∧ e ≤ 40 := by
      intro u v e h u0 u1 v0 v1
      have i0 : (0 : Int) ≤ i := by omega
      have i1 : (i : Int) ≤ g := by omega
      rcases Int.le_total 0 e with c | c
      · have m1 := Pick.zn i0 c
        have m2 : (i : Int) * e ≤ g * e := Int.mul_le_mul_of_nonneg_right i1 c
        have m3 : 1 * e ≤ (g : Int) * e := Int.mul_le_mul_of_nonneg_right (by omega) c
        omega
      · have m1 := Pick.zp i0 c
        have m2 : (g : Int) * e ≤ i * e := Int.mul_le_mul_of_nonpos_right i1 c
        have m3 : (g : Int) * e ≤ 1 * e := Int.mul_le_mul_of_nonpos_right (by omega) c
        omega
    have bx := bnd _ _ _ hx ha.1 ha.2.1 hb.1 hb.2.1
    have b_y := bnd _ _ _ hy ha.2.2.1 ha.2.2.2 hb.2.2.1 hb.2.2.2
    have cx := Int.mul_comm ex i
    have cy := Int.mul_comm ey i
    simp only [impl_PointsOn.l0]
    rw [if_pos (by omega), if_neg (by omega), if_pos (by omega)]
    rw [wrap64_id (x := b.f0 - a.f0) (by omega) (by omega), wrap64_id (x := b.f1 - a.f1) (by omega) (by omega), hx, hy]
    rw [Int.mul_tdiv_cancel_left _ (by omega), Int.mul_tdiv_cancel_left _ (by omega)]
    rw [wrap64_id (x := ex) (by omega) (by omega), wrap64_id (x := ey) (by omega) (by omega), wrap64_id (x := ex * i) (by omega) (by omega), wrap64_id (x := ey * i) (by omega) (by omega), wrap64_id (x := a.f0 + ex * i) (by omega) (by omega), wrap64_id (x := a.f1 + ey * i) (by omega) (by omega), wrap64_id (x := (i : Int) + 1) (by omega) (by omega)]
    refine ih k (i + 1) _ (by omega) (by omega) (by simp; omega) (by omega) (fun q hm => ?_)
    rcases List.mem_append.1 hm with h | h
    · exact hq q h
    · have : q = ⟨a.f0 + ex * i, a.f1 + ey * i⟩ := by simpa using h
      subst this
      refine Pick.on_of_frac (L := g) (l := i) (by omega) (by omega) (by omega) ?_ ?_
      · show (g : Int) * (a.f0 + ex * i - a.f0) = i * (b.f0 - a.f0)
        rw [hx]; grind
      · show (g : Int) * (a.f1 + ey * i - a.f1) = i * (b.f1 - a.f1)
        rw [hy]; grind
theorem onV {l : List Pt} (hp : Poly l) (i k : Nat) (hk : 2000 < k) : ∃ r : List Pt, r.length ≤ 300 ∧ impl_PointsOn.f k (pt l i).f0 (pt l i).f1 (pt l (i + 1)).f0 (pt l (i + 1)).f1 = some r ∧ ∀ q ∈ r, Pick.on (vr l i) (vr l (i + 1)) (vp q) := by
  have h3 := hp.n3
  have h0 : 0 < l.length := by omega
  have a := pt_ok hp.okp h0 i
  have b := pt_ok hp.okp h0 (i + 1)
  have ne := (poly_road hp |>.bend i).ab
  obtain ⟨ex, hx⟩ := Int.gcd_dvd_left ((pt l (i + 1)).f0 - (pt l i).f0) ((pt l (i + 1)).f1 - (pt l i).f1)
  obtain ⟨ey, hy⟩ := Int.gcd_dvd_right ((pt l (i + 1)).f0 - (pt l i).f0) ((pt l (i + 1)).f1 - (pt l i).f1)
  have gl := gcd_leV ((pt l (i + 1)).f0 - (pt l i).f0) ((pt l (i + 1)).f1 - (pt l i).f1)
  have gp : 0 < Int.gcd ((pt l (i + 1)).f0 - (pt l i).f0) ((pt l (i + 1)).f1 - (pt l i).f1) := by
    apply Nat.pos_of_ne_zero
    intro z
    rw [Int.gcd_eq_zero_iff] at z
    exact ne (Pick.V.ext' (show (pt l i).f0 = (pt l (i + 1)).f0 by omega) (show (pt l i).f1 = (pt l (i + 1)).f1 by omega))
  unfold impl_PointsOn.f
  rw [impl_stepsV hp.okp h0 i k (by omega), Option.bind_some, if_neg (by omega)]
  generalize Int.gcd ((pt l (i + 1)).f0 - (pt l i).f0) ((pt l (i + 1)).f1 - (pt l i).f1) = g at *
  exact onV_l0 (hp.okp _ (pt_mem l i h0)) (hp.okp _ (pt_mem l (i + 1) h0)) g gp (by omega) ex ey hx hy g k 1 [⟨(pt l i).f0, (pt l i).f1⟩] (by omega) (by omega) (by simp) (by omega) (fun q hm => by
    have : q = pt l i := by simpa using hm
    subst this
    exact Pick.on_l _ _)
theorem end_j6 {l : List Pt} (hp : Poly l) {lx ly hx hy : Int} (b0 : 0 ≤ lx) (b1 : 0 ≤ ly) (b2 : hx ≤ 40) (b3 : hy ≤ 40) (hb : ∀ j, lx ≤ (pt l j).f0 ∧ ly ≤ (pt l j).f1 ∧ (pt l j).f0 ≤ hx ∧ (pt l j).f1 ≤ hy) (c y : Int) (hc : c = rimN l l.length + innerN l lx ly (hx + 1 - lx).toNat (hy + 1 - ly).toNat) (k : Nat) (hk : 2000 < k) : laws_FnPolygons.j6 k l (l.length : Int) c y false lx ly hx hy = some true := by
  obtain ⟨k, rfl⟩ : ∃ m, k = m + 1 := ⟨k - 1, by omega⟩
  have h3 := hp.n3
  have h10 := hp.n10
  have rb := rimN_bound hp.okp (show 0 < l.length by omega) l.length
  have tb := twS_bound hp.okp (show 0 < l.length by omega) l.length
  have p0 := hb 0
  have q0 := pt_ok hp.okp (show 0 < l.length by omega) 0
  have pk := pick_poly hp (X := lx) (Y := ly) (k := (hx + 1 - lx).toNat) (m := (hy + 1 - ly).toNat) (fun j => by have := hb j; omega) (fun j => by have := hb j; omega)
  simp only [laws_FnPolygons.j6]
  rw [if_neg (by simp), impl_rimV hp k (by omega), Option.bind_some, impl_inner hp (X := lx) (Y := ly) (w := (hx + 1 - lx).toNat) (h := (hy + 1 - ly).toNat) (fun j => by have := hb j; omega) (fun j => by have := hb j; omega) k (by omega), Option.bind_some]
  rw [wrap64_id (x := rimN l l.length + innerN l lx ly (hx + 1 - lx).toNat (hy + 1 - ly).toNat) (by omega) (by omega), if_pos hc, wrap64_id (x := hx + 1) (by omega) (by omega)]
  have out : impl_IsInside.f k l (hx + 1) ly = some false := by
    by_cases c : ok (hx + 1) ly = true
    · obtain ⟨r, e, _, _, g⟩ := insideV hp (hx + 1) ly c
      have ro := Pick.right_of (p := vr l) (n := l.length) (q := ⟨hx + 1, ly⟩) (fun j => by
        have := hb j
        show (pt l j).f0 < hx + 1
        omega)
      rw [e k (by omega), g ro.1 ro.2]
    · unfold impl_IsInside.f
      rw [impl_PolygonOk_some, Option.bind_some, if_pos (okB hp), impl_PointOk_eq, Option.bind_some, if_neg c]
  rw [out, Option.bind_some, if_neg (by simp), startN hp k, Option.bind_some]; rfl
noncomputable def cnt (l : List Pt) (q : Pick.V) : Int := Pick.ins (vr l) l.length q + Pick.ind (¬ Pick.Off (vr l) q)
theorem iv_front (f : Int → Int) (x : Int) (d : Nat) : Pick.iv f x (d + 1) = f x + Pick.iv f (x + 1) d := by
  rw [Nat.add_comm d 1, Pick.iv_split]
  have : Pick.iv f x 1 = f x := by
    show 0 + f (x + ((0 : Nat) : Int)) = _
    rw [Int.zero_add, show x + ((0 : Nat) : Int) = x by omega]
  rw [this]; rfl
theorem row_l3 {l : List Pt} (hp : Poly l) (n y lx ly hx hy : Int) (y0 : 0 ≤ y) (y1 : y ≤ 40) (x1 : hx ≤ 40) (d : Nat) : ∀ (k : Nat) (x c : Int), 0 ≤ x → x + d = hx + 1 → 2 * d + 200 < k → 0 ≤ c → c + d ≤ 1000000 →
    ∃ t : Int, 0 ≤ t ∧ t ≤ d ∧ t = Pick.iv (fun x => cnt l ⟨x, y⟩) x d ∧ laws_FnPolygons.l3 k l n c y x lx ly hx hy = laws_FnPolygons.l2 (k - 2 * d - 2) l n (c + t) (y + 1) lx ly hx hy := by
  induction d with
  | zero =>
    intro k x c hx0 hxd hk c0 c1
    obtain ⟨k, rfl⟩ : ∃ m, k = m + 2 := ⟨k - 2, by omega⟩
    refine ⟨0, by omega, by omega, rfl, ?_⟩
    simp only [laws_FnPolygons.l3]
    rw [if_neg (by omega)]
    simp only [laws_FnPolygons.j8]
    rw [if_neg (by simp), wrap64_id (by omega) (by omega), Int.add_zero]; rfl
  | succ d ih =>
    intro k x c hx0 hxd hk c0 c1
    obtain ⟨k, rfl⟩ : ∃ m, k = m + 2 := ⟨k - 2, by omega⟩
    obtain ⟨b, e1, e2, _, _⟩ := insideV hp x y (ok_iff.2 (by omega))
    simp only [laws_FnPolygons.l3]
    rw [if_pos (by omega)]
    simp only [laws_FnPolygons.j8]
    rw [if_pos (decide_eq_true (by omega)), e1 k (by omega), Option.bind_some, wrap64_id (x := x + 1) (by omega) (by omega)]
    have go : ∀ (c' v : Int), v = cnt l ⟨x, y⟩ → 0 ≤ v → v ≤ 1 → c' = c + v → ∃ t : Int, 0 ≤ t ∧ t ≤ ((d + 1 : Nat) : Int) ∧ t = Pick.iv (fun x => cnt l ⟨x, y⟩) x (d + 1) ∧ laws_FnPolygons.l3 k l n c' y (x + 1) lx ly hx hy = laws_FnPolygons.l2 (k + 2 - 2 * (d + 1) - 2) l n (c + t) (y + 1) lx ly hx hy := by
      intro c' v hv v0 v1 hc
      obtain ⟨t, t0, t1, t2, t3⟩ := ih k (x + 1) c' (by omega) (by omega) (by omega) (by omega) (by omega)
      refine ⟨v + t, by omega, by omega, by rw [iv_front, ← hv, ← t2], ?_⟩
      rw [t3, hc, show k + 2 - 2 * (d + 1) - 2 = k - 2 * d - 2 by omega, Int.add_assoc]
    by_cases cb : b = true
    · rw [if_pos cb] at e2
      rw [if_pos cb, wrap64_id (by omega) (by omega)]
      exact go (c + 1) 1 e2.symm (by omega) (by omega) (by omega)
    · rw [if_neg cb] at e2
      rw [if_neg cb]
      exact go c 0 e2.symm (by omega) (by omega) (by omega)
theorem rows_l2 {l : List Pt} (hp : Poly l) {lx ly hx hy : Int} (b0 : 0 ≤ lx) (b1 : 0 ≤ ly) (b2 : hx ≤ 40) (b3 : hy ≤ 40) (hb : ∀ j, lx ≤ (pt l j).f0 ∧ ly ≤ (pt l j).f1 ∧ (pt l j).f0 ≤ hx ∧ (pt l j).f1 ≤ hy) (d : Nat) : ∀ (k : Nat) (y c : Int), 0 ≤ y → y + d = hy + 1 → d * 200 + 3000 < k → 0 ≤ c → c + d * 50 ≤ 1000000 → c + Pick.bx (cnt l) lx y (hx + 1 - lx).toNat d = rimN l l.length + innerN l lx ly (hx + 1 - lx).toNat (hy + 1 - ly).toNat →
    laws_FnPolygons.l2 k l (l.length : Int) c y lx ly hx hy = some true := by
  induction d with
  | zero =>
    intro k y c hy0 hyd hk c0 c1 hc
    obtain ⟨k, rfl⟩ : ∃ m, k = m + 1 := ⟨k - 1, by omega⟩
    simp only [laws_FnPolygons.l2]
    rw [if_neg (by omega)]
    refine end_j6 hp b0 b1 b2 b3 hb c y ?_ k (by omega)
    rw [← hc]
    show c = c + 0
    omega
  | succ d ih =>
    intro k y c hy0 hyd hk c0 c1 hc
    obtain ⟨k, rfl⟩ : ∃ m, k = m + 2 := ⟨k - 2, by omega⟩
    have p0 := hb 0
    have q0 := pt_ok hp.okp (show 0 < l.length by have := hp.n3; omega) 0
    simp only [laws_FnPolygons.l2]
    rw [if_pos (by omega)]
    simp only [laws_FnPolygons.j6]
    rw [if_pos (decide_eq_true (by omega))]
    obtain ⟨t, t0, t1, t2, t3⟩ := row_l3 hp (l.length : Int) y lx ly hx hy hy0 (by omega) b2 (hx + 1 - lx).toNat k lx c b0 (by omega) (by omega) c0 (by omega)
    rw [t3]
    refine ih _ (y + 1) (c + t) (by omega) (by omega) (by omega) (by omega) (by omega) ?_
    rw [← hc]
    have f := iv_front (fun y => Pick.iv (fun x => cnt l ⟨x, y⟩) lx (hx + 1 - lx).toNat) y d
    have e1 : Pick.bx (cnt l) lx y (hx + 1 - lx).toNat (d + 1) = t + Pick.bx (cnt l) lx (y + 1) (hx + 1 - lx).toNat d := by rw [t2]; exact f
    rw [e1, Int.add_assoc]
theorem all_cnt {l : List Pt} (hp : Poly l) {lx ly hx hy : Int} (hb : ∀ j, lx ≤ (pt l j).f0 ∧ ly ≤ (pt l j).f1 ∧ (pt l j).f0 ≤ hx ∧ (pt l j).f1 ≤ hy) : Pick.bx (cnt l) lx ly (hx + 1 - lx).toNat (hy + 1 - ly).toNat = rimN l l.length + innerN l lx ly (hx + 1 - lx).toNat (hy + 1 - ly).toNat := by
  have rs := Pick.rim_sum (poly_road hp) (X := lx) (Y := ly) (k := (hx + 1 - lx).toNat) (l := (hy + 1 - ly).toNat) (fun j => by have := hb j; show lx ≤ (pt l j).f0 ∧ (pt l j).f0 < _; omega) (fun j => by have := hb j; show ly ≤ (pt l j).f1 ∧ (pt l j).f1 < _; omega)
  rw [B_eq] at rs
  have e : Pick.bx (fun q => Pick.ind (¬ Pick.Off (vr l) q)) lx ly (hx + 1 - lx).toNat (hy + 1 - ly).toNat = rimN l l.length := by
    rw [← rs]
    exact Pick.bx_congr (fun x y _ _ _ _ => (Pick.rim_one (poly_road hp) _).symm)
  have a := Pick.bx_add (Pick.ins (vr l) l.length) (fun q => Pick.ind (¬ Pick.Off (vr l) q)) lx ly (hx + 1 - lx).toNat (hy + 1 - ly).toNat
  rw [e] at a
  have a' : Pick.bx (cnt l) lx ly (hx + 1 - lx).toNat (hy + 1 - ly).toNat = Pick.bx (fun q => Pick.ins (vr l) l.length q + Pick.ind (¬ Pick.Off (vr l) q)) lx ly (hx + 1 - lx).toNat (hy + 1 - ly).toNat := rfl
  rw [a', ← a]
  unfold innerN
  omega
theorem side_l1 {l : List Pt} (hp : Poly l) {i : Nat} (n : Int) {xs : List Pt} (hl : xs.length ≤ 300) (hx : ∀ q ∈ xs, Pick.on (vr l i) (vr l (i + 1)) (vp q)) (lx ly hx' hy : Int) (d : Nat) : ∀ (k j : Nat), j + d = xs.length → d + 200 < k →
    laws_FnPolygons.l1 k l n l (l.length : Int) (i : Int) xs (xs.length : Int) (j : Int) lx ly hx' hy = laws_FnPolygons.l0 (k - d - 1) l n l (l.length : Int) (wrap64 ((i : Int) + 1)) lx ly hx' hy := by
  induction d with
  | zero =>
    intro k j hj hk
    obtain ⟨k, rfl⟩ : ∃ m, k = m + 1 := ⟨k - 1, by omega⟩
    simp only [laws_FnPolygons.l1]
    rw [if_neg (by omega)]; rfl
  | succ d ih =>
    intro k j hj hk
    obtain ⟨k, rfl⟩ : ∃ m, k = m + 1 := ⟨k - 1, by omega⟩
    have hj' : j < xs.length := by omega
    simp only [laws_FnPolygons.l1]
    rw [if_pos (by omega), if_pos (by omega), if_pos (by omega), rd_at xs j hj', rim_in hp (hx _ (List.getElem_mem hj')) k (by omega), Option.bind_some, if_pos rfl, wrap64_id (x := (j : Int) + 1) (by omega) (by omega)]
    have := ih k (j + 1) (by omega) (by omega)
    rw [show k + 1 - (d + 1) - 1 = k - d - 1 by omega]
    exact this
theorem w_succ (i : Nat) (h : i ≤ 1000000) : wrap64 ((i : Int) + 1) = ((i + 1 : Nat) : Int) := by rw [wrap64_id (by omega) (by omega)]; rfl
theorem fuel_next (k d r : Nat) (h : (d + 1) * 500 + 20000 < k + 2) (hr : r ≤ 300) : d * 500 + 20000 < k - r - 1 := by
  rw [Nat.sub_sub]
  exact Nat.lt_sub_of_add_lt (by omega)
theorem corners_l0 {l : List Pt} (hp : Poly l) {lx ly hx hy : Int} (b0 : 0 ≤ lx) (b1 : 0 ≤ ly) (b2 : hx ≤ 40) (b3 : hy ≤ 40) (hb : ∀ j, lx ≤ (pt l j).f0 ∧ ly ≤ (pt l j).f1 ∧ (pt l j).f0 ≤ hx ∧ (pt l j).f1 ≤ hy) (d : Nat) : ∀ (k i : Nat), i + d = l.length → d * 500 + 20000 < k →
    laws_FnPolygons.l0 k l (l.length : Int) l (l.length : Int) (i : Int) lx ly hx hy = some true := by
  have h3 := hp.n3
  have h10 := hp.n10
  have p0 := hb 0
  have q0 := pt_ok hp.okp (show 0 < l.length by omega) 0
  induction d with
  | zero =>
    intro k i hi hk
    obtain ⟨k, rfl⟩ : ∃ m, k = m + 1 := ⟨k - 1, by omega⟩
    simp only [laws_FnPolygons.l0]
    rw [if_neg (by omega)]
    exact rows_l2 hp b0 b1 b2 b3 hb (hy + 1 - ly).toNat k ly 0 b1 (by omega) (by omega) (by omega) (by omega) (by rw [all_cnt hp hb]; omega)
  | succ d ih =>
    intro k i hi hk
    obtain ⟨k, rfl⟩ : ∃ m, k = m + 2 := ⟨k - 2, by omega⟩
    have li := Nat.mod_lt (i + 1) (show 0 < l.length by omega)
    have pi := hb i
    simp only [laws_FnPolygons.l0]
    rw [w_succ i (by omega), tmod_at, rd_mod l (i + 1) (by omega), rd_pt l i (by omega), if_pos (by omega), if_pos (by omega), if_pos (by omega), if_neg (by omega), if_pos (by omega), if_pos (by omega)]
    rw [rim_in hp (i := i) (q := pt l i) (Pick.on_l _ _) (k + 1) (by omega), Option.bind_some, if_pos rfl, if_neg (by omega), if_neg (by omega), if_neg (by omega)]
    obtain ⟨r, r1, r2, r3⟩ := onV hp i k (by omega)
    simp only [laws_FnPolygons.j3]
    rw [if_neg (by simp; omega), r2, Option.bind_some]
    rw [show laws_FnPolygons.l1 k l (l.length : Int) l (l.length : Int) (i : Int) r (r.length : Int) 0 lx ly hx hy = laws_FnPolygons.l0 (k - r.length - 1) l (l.length : Int) l (l.length : Int) (wrap64 ((i : Int) + 1)) lx ly hx hy from side_l1 hp (l.length : Int) r1 r3 lx ly hx hy r.length k 0 (by omega) (by omega), w_succ i (by omega)]
    exact ih (k - r.length - 1) (i + 1) (by omega) (fuel_next k d r.length hk r1)
end Go.Proofs.Ytlccpkggdmngaaa.Pure
