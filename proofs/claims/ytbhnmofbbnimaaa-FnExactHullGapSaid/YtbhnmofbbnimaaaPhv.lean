/- From the two chains to the walk around the hull: each corner's follower has all other points to its left, or nearer in the same line. The bounds stand in each theorem. -/
import Derived.Test.YtbhnmofbbnimaaaPhu
namespace Go.Proofs.Ytbhnmofbbnimaaa.G
open Go.RowKit Go.Proofs.YtbhnmofbbnimaaaW.PrintWords Go.Proofs.YtbhnmofbbnimaaaW.PrintLast Go.Proofs.YtbhnmofbbnimaaaW.PrintMore
set_option linter.unusedSimpArgs false
set_option linter.unusedVariables false
/-- The square of a distance. -/
def sqP (a b : Pt) : Int := (b.f0 - a.f0) * (b.f0 - a.f0) + (b.f1 - a.f1) * (b.f1 - a.f1)
theorem lt_of_prod {A B X Y : Int} (h : A * X = B * Y) (hB : 0 < B) (hAB : B < A) (hY : 0 < Y) : X < Y := by
  rcases Int.lt_or_le X Y with g | g
  · exact g
  · have h1 : A * Y ≤ A * X := Int.mul_le_mul_of_nonneg_left g (by omega)
    have h2 : B * Y < A * Y := Int.mul_lt_mul_of_pos_right hAB hY
    omega
theorem sq_mono {a b : Int} (h0 : 0 ≤ a) (h : a < b) : a * a < b * b := by
  have h1 : a * a ≤ a * b := Int.mul_le_mul_of_nonneg_left (by omega) h0
  have h2 : a * b < b * b := Int.mul_lt_mul_of_pos_right h (by omega)
  omega
theorem sq_nn (a : Int) : 0 ≤ a * a := by
  rcases Int.le_total 0 a with h | h
  · exact Int.mul_nonneg h h
  · have := Int.mul_nonneg (show 0 ≤ -a by omega) (show 0 ≤ -a by omega)
    rw [Int.neg_mul_neg] at this; exact this
theorem between_vec {u0 u1 w0 w1 : Int} (hu : posV u0 u1) (hw : posV (w0 - u0) (w1 - u1)) (h : w0 * u1 = w1 * u0) : u0 * u0 + u1 * u1 < w0 * w0 + w1 * w1 := by
  unfold posV at hu hw
  by_cases z : w1 = 0
  · have : u1 = 0 := by omega
    subst z; subst this
    have := sq_mono (a := u0) (b := w0) (by omega) (by omega)
    omega
  · have hw1 : 0 < w1 := by omega
    have hu1 : 0 < u1 := by
      rcases hu with g | ⟨g, g'⟩
      · exact g
      · subst g
        have := Int.mul_pos hw1 g'
        simp at h; omega
    have hlt : u1 < w1 := by
      rcases hw with g | ⟨g, g'⟩
      · omega
      · have e : w1 = u1 := by omega
        subst e
        rw [Int.mul_comm w0] at h
        have := Int.eq_of_mul_eq_mul_left (by omega) h
        omega
    have q := sq_mono (Int.le_of_lt hu1) hlt
    have n0 := sq_nn w0
    have n1 := Int.mul_pos hw1 hw1
    have n2 := Int.mul_pos hu1 hu1
    refine lt_of_prod (A := w1 * w1) (B := u1 * u1) ?_ n2 q (by omega)
    have e : (w1 * u0) * (w1 * u0) = (w0 * u1) * (w0 * u1) := by rw [h]
    grind
theorem between_sq {a y b : Pt} (h1 : bef a y) (h2 : bef y b) (h : crossP a b y = 0) : sqP a y < sqP a b := by
  unfold sqP
  refine between_vec (bef_pos.1 h1) ?_ ?_
  · have := bef_pos.1 h2
    have e0 : b.f0 - a.f0 - (y.f0 - a.f0) = b.f0 - y.f0 := by omega
    have e1 : b.f1 - a.f1 - (y.f1 - a.f1) = b.f1 - y.f1 := by omega
    rw [e0, e1]; exact this
  · unfold crossP crossI at h; omega
/-- v follows u on the rim of the hull of S. -/
def Good (S : List Pt) (u v : Pt) : Prop := v ∈ S ∧ u ≠ v ∧ ∀ y ∈ S, y = u ∨ y = v ∨ 0 < crossP u v y ∨ (crossP u v y = 0 ∧ sqP u y < sqP u v)
theorem chain_tail {S : List Pt} {c b : Pt} {r : List Pt} (h : Chain S (c :: b :: r)) : Chain S (b :: r) := by
  cases h with
  | two a b ha hb hab h1 h2 => exact .one _ ha h1
  | more a b c r h0 _ _ _ _ => exact h0
theorem chain_suffix {S : List Pt} : ∀ {p : List Pt} {b : Pt} {r : List Pt}, Chain S (p ++ b :: r) → Chain S (b :: r) := by
  intro p
  induction p with
  | nil => intro b r h; exact h
  | cons c p ih =>
    intro b r h
    cases p with
    | nil => exact chain_tail h
    | cons d p => exact ih (chain_tail h)
theorem chain_pair {S : List Pt} {b a : Pt} {r : List Pt} (h : Chain S (b :: a :: r)) : a ∈ S ∧ b ∈ S ∧ bef a b ∧ ∀ y ∈ S, beq' a y → beq' y b → 0 ≤ crossP a b y := by
  cases h with
  | two a b ha hb hab h1 h2 => exact ⟨ha, hb, hab, h2⟩
  | more a b c r h0 hc hbc ht h2 => exact ⟨chain_mem h0 _ (by simp), hc, hbc, h2⟩
theorem chain_down {S : List Pt} : ∀ {r : List Pt} {b a : Pt}, Chain S (b :: a :: r) → ∀ y ∈ S, bef y a → 0 < crossP a b y := by
  intro r
  induction r with
  | nil =>
    intro b a h y hy hya
    cases h with
    | two a b ha hb hab h1 h2 => exact absurd (bef_beq' hya (h1 y hy)) (bef_irrefl y)
  | cons z r ih =>
    intro b a h y hy hya
    cases h with
    | more z a b r h0 hc hbc ht h2 =>
      obtain ⟨hz, ha, hza, cov⟩ := chain_pair h0
      refine turn_down hza hbc hya ht ?_
      rcases bef_total y z with g | g | g
      · exact Int.le_of_lt (ih h0 y hy g)
      · exact cov y hy (Or.inl g.symm) (Or.inr hya)
      · exact cov y hy (Or.inr g) (Or.inr hya)
theorem chain_up {S : List Pt} : ∀ (n : Nat) {p : List Pt} {b a : Pt} {r : List Pt}, p.length = n → Chain S (p ++ b :: a :: r) → (∃ t q, p ++ b :: a :: r = t :: q ∧ ∀ y ∈ S, beq' y t) → ∀ y ∈ S, bef b y → 0 < crossP a b y := by
  intro n
  induction n with
  | zero =>
    intro p b a r hp h ⟨t, q, ht, hl⟩ y hy hby
    have : p = [] := by simpa using hp
    subst this
    cases ht
    exact absurd (bef_beq' hby (hl y hy)) (bef_irrefl b)
  | succ n ih =>
    intro p b a r hp h ht y hy hby
    have hn : p ≠ [] := by intro e; subst e; simp at hp
    obtain ⟨p', c, rfl⟩ : ∃ m x, p = m ++ [x] := ⟨p.dropLast, p.getLast hn, (List.dropLast_concat_getLast hn).symm⟩
    have e : p' ++ [c] ++ b :: a :: r = p' ++ c :: b :: (a :: r) := by simp
    rw [e] at h ht
    have hup := ih (by simpa using hp) h ht y hy
    have hc := chain_suffix h
    obtain ⟨hb, hcS, hbc, cov⟩ := chain_pair hc
    obtain ⟨ha, _, hab, _⟩ := chain_pair (chain_tail hc)
    have ht : 0 < crossP a b c := by
      cases hc with
      | more a b c r h0 hc hbc ht h2 => exact ht
    refine turn_up hab hbc hby ht ?_
    rcases bef_total y c with g | g | g
    · exact cov y hy (Or.inr hby) (Or.inr g)
    · exact cov y hy (Or.inr hby) (Or.inl g)
    · exact Int.le_of_lt (hup g)
theorem chain_good {S p : List Pt} {b a : Pt} {r : List Pt} (h : Chain S (p ++ b :: a :: r)) (ht : ∃ t q, p ++ b :: a :: r = t :: q ∧ ∀ y ∈ S, beq' y t) : Good S a b := by
  have hs := chain_suffix h
  obtain ⟨ha, hb, hab, cov⟩ := chain_pair hs
  refine ⟨hb, fun e => bef_irrefl a (by rw [e] at hab ⊢; exact hab), fun y hy => ?_⟩
  rcases bef_total y a with g | g | g
  · exact Or.inr (Or.inr (Or.inl (chain_down hs y hy g)))
  · exact Or.inl g
  · rcases bef_total y b with k | k | k
    · have := cov y hy (Or.inr g) (Or.inr k)
      by_cases z : crossP a b y = 0
      · exact Or.inr (Or.inr (Or.inr ⟨z, between_sq g k z⟩))
      · exact Or.inr (Or.inr (Or.inl (by omega)))
    · exact Or.inr (Or.inl k)
    · exact Or.inr (Or.inr (Or.inl (chain_up p.length rfl h ht y hy k)))
/-- Each is followed by the next. -/
def Cons (S : List Pt) : List Pt → Prop
  | a :: b :: r => Good S a b ∧ Cons S (b :: r)
  | _ => True
theorem cons_glue {S : List Pt} : ∀ {p q : List Pt} {t : Pt}, Cons S (p ++ [t]) → Cons S (t :: q) → Cons S (p ++ t :: q) := by
  intro p
  induction p with
  | nil => intro q t _ h; exact h
  | cons a p ih =>
    intro q t h1 h2
    cases p with
    | nil => exact ⟨h1.1, h2⟩
    | cons b p => exact ⟨h1.1, ih h1.2 h2⟩
/-- The chain's corners, first to last, follow each other. -/
theorem chain_cons {S : List Pt} (st : List Pt) (h : Chain S st) (ht : ∃ t q, st = t :: q ∧ ∀ y ∈ S, beq' y t) : Cons S st.reverse := by
  have key : ∀ (r p : List Pt), p ++ r = st → Cons S r.reverse := by
    intro r
    induction r with
    | nil => intro p e; trivial
    | cons b r ih =>
      intro p e
      have i := ih (p ++ [b]) (by simpa using e)
      cases r with
      | nil => trivial
      | cons a r =>
        have g : Good S a b := by subst e; exact chain_good h ht
        have : (b :: a :: r).reverse = r.reverse ++ a :: [b] := by simp
        rw [this]
        exact cons_glue (by simpa using i) ⟨g, trivial⟩
  exact key st [] rfl
theorem chain_bot {S st : List Pt} (h : Chain S st) : ∃ p f, st = p ++ [f] ∧ f ∈ S ∧ (∀ y ∈ S, beq' f y) ∧ ∀ y ∈ p, bef f y := by
  induction h with
  | one a ha h1 => exact ⟨[], a, rfl, ha, h1, fun y hy => by simp at hy⟩
  | two a b ha hb hab h1 h2 => exact ⟨[b], a, rfl, ha, h1, fun y hy => by simp at hy; subst hy; exact hab⟩
  | more a b c r h0 hc hbc ht h2 ih =>
    obtain ⟨p, f, e, hf, h1, h3⟩ := ih
    refine ⟨c :: p, f, by rw [List.cons_append, ← e], hf, h1, fun y hy => ?_⟩
    rcases List.mem_cons.1 hy with g | g
    · subst g; exact beq'_bef (h1 b (chain_mem h0 b (by simp))) hbc
    · exact h3 y g
theorem chain_bef {S st : List Pt} (h : Chain S st) : ∀ c r, st = c :: r → ∀ y ∈ r, bef y c := by
  induction h with
  | one a ha h1 => intro c r e y hy; cases e; simp at hy
  | two a b ha hb hab h1 h2 => intro c r e y hy; cases e; simp at hy; subst hy; exact hab
  | more a b c r h0 hc hbc ht h2 ih =>
    intro c' r' e y hy
    cases e
    rcases List.mem_cons.1 hy with g | g
    · subst g; exact hbc
    · exact bef_trans (ih b (a :: r) rfl y g) hbc
/-! points turned round -/
def ngP (p : Pt) : Pt := ⟨-p.f0, -p.f1⟩
theorem ngP_ng (p : Pt) : ngP (ngP p) = p := by unfold ngP; exact pt_ext (by simp) (by simp)
theorem ngP_inj {p q : Pt} (h : ngP p = ngP q) : p = q := by rw [← ngP_ng p, h, ngP_ng]
theorem crossP_ng (a b c : Pt) : crossP (ngP a) (ngP b) (ngP c) = crossP a b c := by unfold crossP crossI ngP; simp only; grind
theorem sqP_ng (a b : Pt) : sqP (ngP a) (ngP b) = sqP a b := by unfold sqP ngP; simp only; grind
theorem bef_ng {a b : Pt} : bef (ngP a) (ngP b) ↔ bef b a := by unfold bef ngP; simp only; omega
theorem pushC_ng (x : Pt) : ∀ st : List Pt, pushC (ngP x) (st.map ngP) = (pushC x st).map ngP
  | [] => by simp [pushC]
  | [a] => by simp [pushC]
  | b :: a :: r => by
    simp only [List.map_cons]
    unfold pushC
    rw [crossP_ng]
    have ih := pushC_ng x (a :: r)
    simp only [List.map_cons] at ih
    by_cases h : crossP a b x ≤ 0
    · rw [if_pos h, if_pos h, ih]
    · rw [if_neg h, if_neg h]; rfl
theorem chainC_ng (l : List Pt) : chainC (l.map ngP) = (chainC l).map ngP := by
  have key : ∀ (n : Nat) (l : List Pt), l.length = n → chainC (l.map ngP) = (chainC l).map ngP := by
    intro n
    induction n with
    | zero => intro l h; have : l = [] := by simpa using h
              subst this; rfl
    | succ n ih =>
      intro l h
      have hn : l ≠ [] := by intro e; subst e; simp at h
      obtain ⟨m, x, rfl⟩ : ∃ m x, l = m ++ [x] := ⟨l.dropLast, l.getLast hn, (List.dropLast_concat_getLast hn).symm⟩
      rw [List.map_append, List.map_singleton, chainC_snoc, chainC_snoc, ih m (by simpa using h), pushC_ng]
  exact key l.length l rfl
theorem sorted_rev : ∀ {s : List Pt}, Sorted' s → Sorted' (s.reverse.map ngP) := by
  intro s
  induction s with
  | nil => intro _; trivial
  | cons a r ih =>
    intro ⟨h1, h2⟩
    rw [List.reverse_cons, List.map_append, sorted_append]
    refine ⟨ih h2, ⟨fun y hy => by simp at hy, trivial⟩, fun y hy z hz => ?_⟩
    simp at hz; subst hz
    obtain ⟨w, hw, rfl⟩ := List.mem_map.1 hy
    rw [bef_ng]; exact h1 w (by simpa using hw)
theorem good_ng {S T : List Pt} {u v : Pt} (hm : ∀ y, y ∈ T ↔ ngP y ∈ S) (h : Good S (ngP u) (ngP v)) : Good T u v := by
  refine ⟨(hm v).2 h.1, fun e => h.2.1 (by rw [e]), fun y hy => ?_⟩
  rcases h.2.2 (ngP y) ((hm y).1 hy) with g | g | g | g
  · exact Or.inl (ngP_inj g)
  · exact Or.inr (Or.inl (ngP_inj g))
  · rw [crossP_ng] at g; exact Or.inr (Or.inr (Or.inl g))
  · rw [crossP_ng, sqP_ng, sqP_ng] at g; exact Or.inr (Or.inr (Or.inr g))
theorem cons_ng {S T : List Pt} (hm : ∀ y, y ∈ T ↔ ngP y ∈ S) : ∀ l : List Pt, Cons S (l.map ngP) → Cons T l
  | [], _ => trivial
  | [a], _ => trivial
  | a :: b :: r, h => ⟨good_ng hm h.1, cons_ng hm (b :: r) h.2⟩
theorem mem_ng (s : List Pt) (y : Pt) : y ∈ s ↔ ngP y ∈ s.reverse.map ngP := by
  constructor
  · intro h; exact List.mem_map.2 ⟨y, by simpa using h, rfl⟩
  · intro h
    obtain ⟨w, hw, e⟩ := List.mem_map.1 h
    have := ngP_inj e; subst this; simpa using hw
/-- The hull by the two chains. -/
def hullC (s : List Pt) : List Pt := (chainC s).tail.reverse ++ (chainC s.reverse).tail.reverse
/-- From u on around: the corners l, then f. -/
def Path (S : List Pt) (f : Pt) : Pt → List Pt → Prop
  | u, [] => Good S u f
  | u, v :: r => Good S u v ∧ v ≠ f ∧ Path S f v r
theorem path_of_cons {S : List Pt} {f : Pt} : ∀ (l : List Pt) (u : Pt), Cons S (u :: (l ++ [f])) → (∀ v ∈ l, v ≠ f) → Path S f u l
  | [], u, h, _ => h.1
  | v :: r, u, h, hn => ⟨h.1, hn v (by simp), path_of_cons r v h.2 fun w hw => hn w (by simp [hw])⟩
theorem crossP_three (f a b c : Pt) : crossP a b c = crossP f a b + crossP f b c + crossP f c a := by unfold crossP crossI; grind
theorem flat_of_line {f t a b : Pt} (hne : f ≠ t) (h1 : crossP f t a = 0) (h2 : crossP f t b = 0) : crossP f a b = 0 := by
  have e0 : (t.f0 - f.f0) * crossP f a b = 0 := by unfold crossP crossI at *; grind
  have e1 : (t.f1 - f.f1) * crossP f a b = 0 := by unfold crossP crossI at *; grind
  rcases Int.mul_eq_zero.1 e0 with g | g
  · rcases Int.mul_eq_zero.1 e1 with k | k
    · exact absurd (pt_ext (by omega) (by omega)) hne
    · exact k
  · exact g
/-- The hull of points in their order, at least three: it starts at the first point, its corners follow each other around, and it has three corners unless all points are in a line. -/
theorem hullC_path {s : List Pt} (hs : Sorted' s) (h3 : 3 ≤ s.length) : ∃ f rest, hullC s = f :: rest ∧ f ∈ s ∧ (∀ y ∈ s, beq' f y) ∧ Path s f f rest ∧ ((∀ a ∈ s, ∀ b ∈ s, crossP f a b = 0) ↔ (hullC s).length < 3) := by
  have hne : s ≠ [] := by intro e; subst e; simp at h3
  obtain ⟨c1, t, r, hr, ht⟩ := chainC_chain s.length s rfl hne hs
  have hne' : s.reverse.map ngP ≠ [] := by simpa using hne
  obtain ⟨c2, t2, r2, hr2, ht2⟩ := chainC_chain _ (s.reverse.map ngP) rfl hne' (sorted_rev hs)
  rw [chainC_ng] at c2 hr2
  obtain ⟨f', r', hr', rfl, rfl⟩ : ∃ f' r', chainC s.reverse = f' :: r' ∧ ngP f' = t2 ∧ r'.map ngP = r2 := by
    cases h : chainC s.reverse with
    | nil => rw [h] at hr2; simp at hr2
    | cons f' r' => rw [h] at hr2; simp at hr2; exact ⟨f', r', rfl, hr2.1, hr2.2⟩
  obtain ⟨p, f, hp, hf, hfa, hpf⟩ := chain_bot c1
  have tS : t ∈ s := chain_mem c1 t (by rw [hr]; simp)
  have fS' : f' ∈ s := (mem_ng s f').2 (chain_mem c2 (ngP f') (by rw [hr2]; simp))
  have beq_ng : ∀ {a b : Pt}, beq' (ngP a) (ngP b) → beq' b a := by
    intro a b h
    rcases h with h | h
    · exact Or.inl (ngP_inj h).symm
    · exact Or.inr (bef_ng.1 h)
  have hf' : ∀ y ∈ s, beq' f' y := fun y hy => beq_ng (ht2 (ngP y) ((mem_ng s y).1 hy))
  have ff : f' = f := by
    rcases hf' f hf with g | g
    · exact g
    · exact absurd (bef_beq' g (hfa f' fS')) (bef_irrefl f')
  subst ff
  have tf : t ≠ f' := by
    intro e; subst e
    have all : ∀ y ∈ s, y = t := by
      intro y hy
      rcases ht y hy with g | g
      · exact g
      · exact absurd (bef_beq' g (hfa y hy)) (bef_irrefl y)
    match s, h3, hs, all with
    | a :: b :: r, _, hs, all =>
      have h1 := all a (by simp)
      have h2 := all b (by simp)
      have := hs.1 b (by simp)
      rw [h1, h2] at this
      exact bef_irrefl t this
  obtain ⟨q, hq⟩ : ∃ q, p = t :: q := by
    cases p with
    | nil => rw [hp] at hr; simp at hr; exact absurd hr.1.symm tf
    | cons x q => rw [hp] at hr; simp at hr; exact ⟨q, by rw [hr.1]⟩
  subst hq
  have hrq : r = q ++ [f'] := by rw [hp] at hr; simpa using hr.symm
  -- the other chain's bottom
  obtain ⟨p2, g2, hp2, hg2, hg2a, hpg2⟩ := chain_bot c2
  have : ∃ p3 g3, chainC s.reverse = p3 ++ [g3] ∧ p3.map ngP = p2 ∧ ngP g3 = g2 := by
    have hn : chainC s.reverse ≠ [] := by rw [hr']; simp
    refine ⟨(chainC s.reverse).dropLast, (chainC s.reverse).getLast hn, (List.dropLast_concat_getLast hn).symm, ?_⟩
    have e := (List.dropLast_concat_getLast hn).symm
    rw [e, List.map_append, List.map_singleton] at hp2
    have := List.append_inj' hp2 rfl
    exact ⟨this.1, by simpa using this.2⟩
  obtain ⟨p3, g3, hp3, rfl, rfl⟩ := this
  have g3S : g3 ∈ s := (mem_ng s g3).2 hg2
  have gt : g3 = t := by
    have a1 : beq' t g3 := by
      have := hg2a (ngP t) ((mem_ng s t).1 tS)
      exact beq_ng this
    rcases a1 with g | g
    · exact g.symm
    · exact absurd (bef_beq' g (ht g3 g3S)) (bef_irrefl t)
  subst gt
  obtain ⟨q3, hq3⟩ : ∃ q, p3 = f' :: q := by
    cases p3 with
    | nil => rw [hp3] at hr'; simp at hr'; exact absurd hr'.1 tf
    | cons x q => rw [hp3] at hr'; simp at hr'; exact ⟨q, by rw [hr'.1]⟩
  subst hq3
  have hr'q : r' = q3 ++ [g3] := by rw [hp3] at hr'; simpa using hr'.symm
  have hull : hullC s = f' :: (q.reverse ++ r'.reverse) := by
    unfold hullC; rw [hr, hr', hrq]; simp
  have k1 : Cons s (f' :: (q.reverse ++ [g3])) := by
    have := chain_cons (chainC s) c1 ⟨g3, r, hr, ht⟩
    rw [hp] at this; simpa using this
  have k2 : Cons s (g3 :: (q3.reverse ++ [f'])) := by
    have := chain_cons _ c2 ⟨ngP f', r'.map ngP, hr2, ht2⟩
    rw [← List.map_reverse] at this
    have := cons_ng (mem_ng s) _ this
    rw [hp3] at this; simpa using this
  refine ⟨f', q.reverse ++ r'.reverse, hull, hf, hfa, ?_, ?_⟩
  · apply path_of_cons
    · rw [hr'q]
      have := cons_glue (p := f' :: q.reverse) (t := g3) (q := q3.reverse ++ [f']) (by simpa using k1) k2
      simpa using this
    · intro v hv
      rcases List.mem_append.1 hv with h | h
      · intro e; subst e
        exact bef_irrefl v (hpf v (by simp at h; simp [h]))
      · intro e; subst e
        have := chain_bef c2 (ngP v) (r'.map ngP) hr2 (ngP v) (List.mem_map.2 ⟨v, by simpa using h, rfl⟩)
        exact bef_irrefl _ this
  · rw [hull]
    constructor
    · intro hflat
      have short : ∀ (st : List Pt), (∀ a b c r, st = c :: b :: a :: r → False) → st.length ≤ 2 := by
        intro st h
        match st, h with
        | [], _ => simp
        | [a], _ => simp
        | [b, a], _ => simp
        | c :: b :: a :: r, h => exact absurd rfl (fun e => h a b c r e)
      have cr : ∀ a ∈ s, ∀ b ∈ s, ∀ c ∈ s, crossP a b c = 0 := by
        intro a ha b hb c hc
        rw [crossP_three f', hflat a ha b hb, hflat b hb c hc, hflat c hc a ha]; rfl
      have s1 : (chainC s).length ≤ 2 := by
        refine short _ fun a b c r e => ?_
        rw [e] at c1
        have m := chain_mem c1
        cases c1 with
        | more a b c r h0 hc hbc ht h2 =>
          rw [cr a (m a (by simp)) b (m b (by simp)) c (m c (by simp))] at ht; omega
      have s2 : (chainC s.reverse).length ≤ 2 := by
        refine short _ fun a b c r e => ?_
        rw [e] at c2
        simp only [List.map_cons] at c2
        have m := chain_mem c2
        generalize ea : ngP a = A at *
        generalize eb : ngP b = B at *
        generalize ec : ngP c = C at *
        cases c2 with
        | more _ _ _ _ h0 hc hbc ht h2 =>
          rw [← ea, ← eb, ← ec, crossP_ng, cr a ((mem_ng s a).2 (by rw [ea]; exact m _ (by simp))) b ((mem_ng s b).2 (by rw [eb]; exact m _ (by simp))) c ((mem_ng s c).2 (by rw [ec]; exact m _ (by simp)))] at ht
          omega
      rw [hp] at s1; rw [hr'] at s2
      simp only [List.length_append, List.length_cons, List.length_nil, List.length_reverse] at s1 s2 ⊢; omega
    · intro hl a ha b hb
      simp at hl
      rw [hr'q] at hl
      simp at hl
      have hq0 : q = [] := by apply List.eq_nil_of_length_eq_zero; omega
      have hq1 : q3 = [] := by apply List.eq_nil_of_length_eq_zero; omega
      subst hq0; subst hq1
      rw [hp] at c1
      rw [hp3] at c2
      obtain ⟨_, _, _, cov1⟩ := chain_pair c1
      obtain ⟨_, _, _, cov2⟩ := chain_pair (r := []) (b := ngP f') (a := ngP g3) c2
      have z : ∀ y ∈ s, crossP f' g3 y = 0 := by
        intro y hy
        have a1 := cov1 y hy (hfa y hy) (ht y hy)
        have a2 := cov2 (ngP y) ((mem_ng s y).1 hy) (hg2a _ ((mem_ng s y).1 hy)) (ht2 _ ((mem_ng s y).1 hy))
        rw [crossP_ng, crossP_swap] at a2
        omega
      exact flat_of_line (Ne.symm tf) (z a ha) (z b hb)
/-! the scan for the follower -/
def scanF (u next x : Pt) : Pt := if x = u then next else if next = u ∨ crossP u next x < 0 ∨ (crossP u next x = 0 ∧ sqP u next < sqP u x) then x else next
theorem scanF_good {S : List Pt} {u v : Pt} (hg : Good S u v) : ∀ (l : List Pt) (nx : Pt), (∀ x ∈ l, x ∈ S) → (nx = u ∨ nx ∈ S) → (nx = v ∨ v ∈ l) → l.foldl (scanF u) nx = v := by
  intro l
  induction l with
  | nil => intro nx _ _ h; simpa using h
  | cons x l ih =>
    intro nx hS hn hv
    rw [List.foldl_cons]
    have hx := hS x (by simp)
    refine ih _ (fun y hy => hS y (by simp [hy])) ?_ ?_
    · unfold scanF
      split
      · exact hn
      · split
        · exact Or.inr hx
        · exact hn
    · by_cases hxv : x = v
      · subst hxv
        left
        unfold scanF
        rw [if_neg (Ne.symm hg.2.1)]
        by_cases c : nx = u
        · rw [if_pos (Or.inl c)]
        · have hnS : nx ∈ S := by rcases hn with h | h; exact absurd h c; exact h
          rcases hg.2.2 nx hnS with g | g | g | g
          · exact absurd g c
          · subst g; split <;> rfl
          · rw [if_pos (Or.inr (Or.inl (by rw [crossP_perm]; omega)))]
          · rw [if_pos (Or.inr (Or.inr ⟨by rw [crossP_perm]; omega, g.2⟩))]
      · rcases hv with h | h
        · left
          subst h
          unfold scanF
          by_cases c : x = u
          · rw [if_pos c]
          · rw [if_neg c]
            rw [if_neg]
            rintro (k | k | ⟨k, k'⟩)
            · exact hg.2.1 k.symm
            · rcases hg.2.2 x hx with g | g | g | g
              · exact c g
              · exact hxv g
              · omega
              · omega
            · rcases hg.2.2 x hx with g | g | g | g
              · exact c g
              · exact hxv g
              · omega
              · omega
        · right
          rcases List.mem_cons.1 h with g | g
          · exact absurd g.symm hxv
          · exact g
end Go.Proofs.Ytbhnmofbbnimaaa.G
