/- A chain over points in their order: its turns are strict, and every point is to its left. The bounds stand in each theorem. -/
import Derived.Test.YtbhnmofbbnimaaaPbf
namespace Go.Proofs.Ytbhnmofbbnimaaa.G
open Go.RowKit Go.Proofs.YtbhnmofbbnimaaaW.PrintWords Go.Proofs.YtbhnmofbbnimaaaW.PrintLast Go.Proofs.YtbhnmofbbnimaaaW.PrintMore
set_option linter.unusedSimpArgs false
set_option linter.unusedVariables false
def posV (x y : Int) : Prop := 0 < y ∨ (y = 0 ∧ 0 < x)
theorem bef_pos {p q : Pt} : bef p q ↔ posV (q.f0 - p.f0) (q.f1 - p.f1) := by unfold bef posV; omega
def crV (x1 y1 x2 y2 : Int) : Int := x1 * y2 - y1 * x2
theorem crV_id (x1 y1 x2 y2 x3 y3 : Int) : y2 * crV x1 y1 x3 y3 = y3 * crV x1 y1 x2 y2 + y1 * crV x2 y2 x3 y3 := by unfold crV; grind
theorem crV_trans {x1 y1 x2 y2 x3 y3 : Int} (p1 : posV x1 y1) (p2 : posV x2 y2) (p3 : posV x3 y3) (h12 : 0 ≤ crV x1 y1 x2 y2) (h23 : 0 ≤ crV x2 y2 x3 y3) : 0 ≤ crV x1 y1 x3 y3 := by
  have id := crV_id x1 y1 x2 y2 x3 y3
  have y1n : 0 ≤ y1 := by unfold posV at p1; omega
  have y3n : 0 ≤ y3 := by unfold posV at p3; omega
  rcases p2 with h | ⟨h, h'⟩
  · have e1 := Int.mul_nonneg y3n h12
    have e2 := Int.mul_nonneg y1n h23
    rcases Int.lt_or_le (crV x1 y1 x3 y3) 0 with hn | hn
    · have := Int.mul_neg_of_pos_of_neg h hn
      omega
    · exact hn
  · subst h
    unfold crV at h12 ⊢
    have : y1 = 0 := by
      rcases p1 with q | ⟨q, _⟩
      · have := Int.mul_pos q h'
        simp at h12; omega
      · exact q
    subst this
    have hx : 0 < x1 := by unfold posV at p1; omega
    have := Int.mul_nonneg (Int.le_of_lt hx) y3n
    simp; exact this
theorem crV_trans_lt {x1 y1 x2 y2 x3 y3 : Int} (p1 : posV x1 y1) (p2 : posV x2 y2) (p3 : posV x3 y3) (h12 : 0 ≤ crV x1 y1 x2 y2) (h23 : 0 ≤ crV x2 y2 x3 y3) (hs : 0 < crV x1 y1 x2 y2 ∨ 0 < crV x2 y2 x3 y3) : 0 < crV x1 y1 x3 y3 := by
  have id := crV_id x1 y1 x2 y2 x3 y3
  have y1n : 0 ≤ y1 := by unfold posV at p1; omega
  have y3n : 0 ≤ y3 := by unfold posV at p3; omega
  have hge := crV_trans p1 p2 p3 h12 h23
  rcases p2 with h | ⟨h, h'⟩
  · have e1 := Int.mul_nonneg y3n h12
    have e2 := Int.mul_nonneg y1n h23
    have hne : 0 < y3 * crV x1 y1 x2 y2 + y1 * crV x2 y2 x3 y3 := by
      rcases hs with g | g
      · have : 0 < y3 := by
          rcases p3 with q | ⟨q, q'⟩
          · exact q
          · subst q
            have := Int.mul_pos h q'
            unfold crV at h23; simp at h23; omega
        have := Int.mul_pos this g
        omega
      · rcases p1 with q | ⟨q, q'⟩
        · have := Int.mul_pos q g
          omega
        · subst q
          have : 0 < y3 := by
            rcases p3 with r | ⟨r, r'⟩
            · exact r
            · subst r
              have := Int.mul_pos h r'
              unfold crV at h23; simp at h23; omega
          have hc : 0 < crV x1 0 x2 y2 := by
            unfold crV; simp; exact Int.mul_pos q' h
          have := Int.mul_pos this hc
          omega
    rcases Int.lt_or_le 0 (crV x1 y1 x3 y3) with g | g
    · exact g
    · have : crV x1 y1 x3 y3 = 0 := by omega
      rw [this] at id; simp at id; omega
  · subst h
    have hy1 : y1 = 0 := by
      rcases p1 with q | ⟨q, _⟩
      · have := Int.mul_pos q h'
        unfold crV at h12; simp at h12; omega
      · exact q
    subst hy1
    have hx : 0 < x1 := by unfold posV at p1; omega
    have h3 : 0 < y3 := by
      rcases hs with g | g
      · unfold crV at g; simp at g
      · unfold crV at g; simp at g
        rcases p3 with r | ⟨r, r'⟩
        · exact r
        · subst r; simp at g
    have := Int.mul_pos hx h3
    unfold crV; simp; exact this
/-! the same for points -/
theorem crossP_base (a p q : Pt) : crossP a p q = crV (p.f0 - a.f0) (p.f1 - a.f1) (q.f0 - a.f0) (q.f1 - a.f1) := rfl
/-- crossP a b y by the vectors from a to b and from b to y. -/
theorem crossP_next (a b y : Pt) : crossP a b y = crV (b.f0 - a.f0) (b.f1 - a.f1) (y.f0 - b.f0) (y.f1 - b.f1) := by unfold crossP crossI crV; grind
/-- crossP a b y by the vectors from y to b and from a to b: y before b. -/
theorem crossP_prev (a b y : Pt) : crossP a b y = crV (b.f0 - y.f0) (b.f1 - y.f1) (b.f0 - a.f0) (b.f1 - a.f1) := by unfold crossP crossI crV; grind
/-- crossP a b y by the vectors from y to a and from a to b. -/
theorem crossP_prev' (a b y : Pt) : crossP a b y = crV (a.f0 - y.f0) (a.f1 - y.f1) (b.f0 - a.f0) (b.f1 - a.f1) := by unfold crossP crossI crV; grind
theorem turn_from {a p q r : Pt} (hp : bef a p) (hq : bef a q) (hr : bef a r) (h1 : 0 ≤ crossP a p q) (h2 : 0 ≤ crossP a q r) : 0 ≤ crossP a p r :=
  crV_trans (bef_pos.1 hp) (bef_pos.1 hq) (bef_pos.1 hr) h1 h2
/-- a before b, b before x, y between b and x, all to the right turn. -/
theorem turn_to {a b x y : Pt} (ha : bef a x) (hb : bef b x) (hy : bef y x) (h1 : 0 ≤ crossP b x y) (h2 : crossP a b x ≤ 0) : 0 ≤ crossP a x y := by
  rw [crossP_prev] at h1 ⊢
  refine crV_trans (bef_pos.1 hy) (bef_pos.1 hb) (bef_pos.1 ha) h1 ?_
  unfold crossP crossI at h2; unfold crV; grind
theorem turn_up {a b c y : Pt} (hab : bef a b) (hbc : bef b c) (hby : bef b y) (h1 : 0 < crossP a b c) (h2 : 0 ≤ crossP b c y) : 0 < crossP a b y := by
  rw [crossP_next] at h1 ⊢
  rw [crossP_base] at h2
  exact crV_trans_lt (bef_pos.1 hab) (bef_pos.1 hbc) (bef_pos.1 hby) (Int.le_of_lt h1) h2 (Or.inl h1)
theorem turn_down {z a b y : Pt} (hza : bef z a) (hab : bef a b) (hya : bef y a) (h1 : 0 < crossP z a b) (h2 : 0 ≤ crossP z a y) : 0 < crossP a b y := by
  rw [crossP_next] at h1
  rw [crossP_prev] at h2
  rw [crossP_prev']
  exact crV_trans_lt (bef_pos.1 hya) (bef_pos.1 hza) (bef_pos.1 hab) h2 (Int.le_of_lt h1) (Or.inr h1)
/-! the chain, last corner first -/
def pushC (x : Pt) : List Pt → List Pt
  | b :: a :: r => if crossP a b x ≤ 0 then pushC x (a :: r) else x :: b :: a :: r
  | st => x :: st
/-- A chain, last corner first, over the points S. -/
inductive Chain (S : List Pt) : List Pt → Prop
  | one (a : Pt) : a ∈ S → (∀ y ∈ S, beq' a y) → Chain S [a]
  | two (a b : Pt) : a ∈ S → b ∈ S → bef a b → (∀ y ∈ S, beq' a y) → (∀ y ∈ S, beq' a y → beq' y b → 0 ≤ crossP a b y) → Chain S [b, a]
  | more (a b c : Pt) (r : List Pt) : Chain S (b :: a :: r) → c ∈ S → bef b c → 0 < crossP a b c → (∀ y ∈ S, beq' b y → beq' y c → 0 ≤ crossP b c y) → Chain S (c :: b :: a :: r)
theorem crossP_aa (a b : Pt) : crossP a b a = 0 := by unfold crossP crossI; grind
theorem crossP_bb (a b : Pt) : crossP a b b = 0 := by unfold crossP crossI; grind
theorem chain_ne {S : List Pt} {st : List Pt} (h : Chain S st) : st ≠ [] := by cases h <;> simp
theorem chain_mem {S : List Pt} {st : List Pt} (h : Chain S st) : ∀ p ∈ st, p ∈ S := by
  induction h with
  | one a ha _ => intro p hp; simp at hp; subst hp; exact ha
  | two a b ha hb _ _ _ => intro p hp; simp at hp; rcases hp with h | h <;> subst h; exact hb; exact ha
  | more a b c r _ hc _ _ _ ih =>
    intro p hp
    rcases List.mem_cons.1 hp with h | h
    · subst h; exact hc
    · exact ih p h
theorem chain_grow {S st : List Pt} {x : Pt} (h : Chain S st) (hx : ∀ y ∈ S, bef y x) : Chain (S ++ [x]) st := by
  have mem : ∀ y, y ∈ S ++ [x] → y ∈ S ∨ y = x := fun y h => by simpa using h
  have inn : ∀ y, y ∈ S → y ∈ S ++ [x] := fun y h => by simp [h]
  have far : ∀ b ∈ S, ¬ beq' x b := by
    intro b hb h
    exact bef_irrefl x (beq'_bef h (hx b hb))
  induction h with
  | one a ha h1 =>
    refine .one a (inn a ha) fun y hy => ?_
    rcases mem y hy with h | h
    · exact h1 y h
    · subst h; exact Or.inr (hx a ha)
  | two a b ha hb hab h1 h2 =>
    refine .two a b (inn a ha) (inn b hb) hab (fun y hy => ?_) (fun y hy g1 g2 => ?_)
    · rcases mem y hy with h | h
      · exact h1 y h
      · subst h; exact Or.inr (hx a ha)
    · rcases mem y hy with h | h
      · exact h2 y h g1 g2
      · subst h; exact absurd g2 (far b hb)
  | more a b c r hc0 hc hbc ht h2 ih =>
    refine .more a b c r ih (inn c hc) hbc ht (fun y hy g1 g2 => ?_)
    rcases mem y hy with h | h
    · exact h2 y h g1 g2
    · subst h; exact absurd g2 (far c hc)
theorem virtual_step {S : List Pt} {a b x : Pt} (ha : a ∈ S) (hb : b ∈ S) (hab : bef a b) (hx : ∀ y ∈ S, bef y x) (cov : ∀ y ∈ S, beq' a y → beq' y b → 0 ≤ crossP a b y) (hv : ∀ y ∈ S, beq' b y → 0 ≤ crossP b x y) (hc : crossP a b x ≤ 0) :
    ∀ y ∈ S, beq' a y → 0 ≤ crossP a x y := by
  intro y hy h
  rcases h with h | h
  · subst h; rw [crossP_aa]; omega
  · have h1 : 0 ≤ crossP a x b := by rw [crossP_perm]; omega
    rcases bef_total y b with g | g | g
    · exact turn_from (hx a ha) hab h h1 (cov y hy (Or.inr h) (Or.inr g))
    · subst g; exact h1
    · exact turn_to (hx a ha) (hx b hb) (hx y hy) (hv y hy (Or.inr g)) hc
theorem push_one {S : List Pt} {a x : Pt} (ha : a ∈ S) (h1 : ∀ y ∈ S, beq' a y) (hx : ∀ y ∈ S, bef y x) (hv : ∀ y ∈ S, beq' a y → 0 ≤ crossP a x y) : Chain (S ++ [x]) [x, a] := by
  refine .two a x (by simp [ha]) (by simp) (hx a ha) (fun y hy => ?_) (fun y hy g1 g2 => ?_)
  · rcases List.mem_append.1 hy with h | h
    · exact h1 y h
    · simp at h; subst h; exact Or.inr (hx a ha)
  · rcases List.mem_append.1 hy with h | h
    · exact hv y h g1
    · simp at h; subst h; rw [crossP_bb]; omega
theorem push_more {S : List Pt} {a b x : Pt} {r : List Pt} (h : Chain S (b :: a :: r)) (hx : ∀ y ∈ S, bef y x) (hv : ∀ y ∈ S, beq' b y → 0 ≤ crossP b x y) (hc : 0 < crossP a b x) : Chain (S ++ [x]) (x :: b :: a :: r) := by
  have hb : b ∈ S := chain_mem h b (by simp)
  refine .more a b x r (chain_grow h hx) (by simp) (hx b hb) hc (fun y hy g1 g2 => ?_)
  rcases List.mem_append.1 hy with h' | h'
  · exact hv y h' g1
  · simp at h'; subst h'; rw [crossP_bb]; omega
theorem push_chain {S : List Pt} {x : Pt} (hx : ∀ y ∈ S, bef y x) : ∀ {st : List Pt} {t : Pt} {r : List Pt}, Chain S st → st = t :: r → (∀ y ∈ S, beq' t y → 0 ≤ crossP t x y) → Chain (S ++ [x]) (pushC x st) := by
  intro st t r h
  induction h generalizing t r with
  | one a ha h1 =>
    intro e hv
    cases e
    show Chain (S ++ [x]) (pushC x [a])
    unfold pushC
    exact push_one ha h1 hx hv
  | two a b ha hb hab h1 h2 =>
    intro e hv
    cases e
    unfold pushC
    by_cases hc : crossP a b x ≤ 0
    · rw [if_pos hc]
      unfold pushC
      exact push_one ha h1 hx (virtual_step ha hb hab hx h2 hv hc)
    · rw [if_neg hc]
      exact push_more (.two a b ha hb hab h1 h2) hx hv (by omega)
  | more a b c r' h0 hc0 hbc ht h2 ih =>
    intro e hv
    cases e
    have hb : b ∈ S := chain_mem h0 b (by simp)
    unfold pushC
    by_cases hc : crossP b c x ≤ 0
    · rw [if_pos hc]
      exact ih rfl (virtual_step hb hc0 hbc hx h2 hv hc)
    · rw [if_neg hc]
      exact push_more (.more a b c r' h0 hc0 hbc ht h2) hx hv (by omega)
theorem pushC_head (x : Pt) : ∀ st : List Pt, ∃ r, pushC x st = x :: r
  | [] => ⟨[], by simp [pushC]⟩
  | [a] => ⟨[a], by simp [pushC]⟩
  | b :: a :: r => by
    unfold pushC
    split
    · exact pushC_head x (a :: r)
    · exact ⟨_, rfl⟩
def chainC (l : List Pt) : List Pt := l.foldl (fun st x => pushC x st) []
theorem chainC_snoc (l : List Pt) (x : Pt) : chainC (l ++ [x]) = pushC x (chainC l) := by
  unfold chainC; rw [List.foldl_append]; rfl
/-- Points in their order. -/
def Sorted' : List Pt → Prop
  | [] => True
  | a :: r => (∀ y ∈ r, bef a y) ∧ Sorted' r
theorem sorted_append {l m : List Pt} : Sorted' (l ++ m) ↔ Sorted' l ∧ Sorted' m ∧ ∀ y ∈ l, ∀ z ∈ m, bef y z := by
  induction l with
  | nil => simp [Sorted']
  | cons a r ih =>
    simp only [List.cons_append, Sorted', ih]
    constructor
    · rintro ⟨h1, h2, h3, h4⟩
      refine ⟨⟨fun y hy => h1 y (by simp [hy]), h2⟩, h3, fun y hy z hz => ?_⟩
      rcases List.mem_cons.1 hy with g | g
      · subst g; exact h1 z (by simp [hz])
      · exact h4 y g z hz
    · rintro ⟨⟨h1, h2⟩, h3, h4⟩
      refine ⟨fun y hy => ?_, h2, h3, fun y hy z hz => h4 y (by simp [hy]) z hz⟩
      rcases List.mem_append.1 hy with g | g
      · exact h1 y g
      · exact h4 a (by simp) y g
/-- The chain over points in their order. -/
theorem chainC_chain : ∀ (n : Nat) (l : List Pt), l.length = n → l ≠ [] → Sorted' l → Chain l (chainC l) ∧ ∃ t r, chainC l = t :: r ∧ ∀ y ∈ l, beq' y t := by
  intro n
  induction n with
  | zero => intro l hl hn; simp at hl; exact absurd hl hn
  | succ n ih =>
    intro l hl hn hs
    obtain ⟨m, x, rfl⟩ : ∃ m x, l = m ++ [x] := ⟨l.dropLast, l.getLast hn, (List.dropLast_concat_getLast hn).symm⟩
    have hml : m.length = n := by simpa using hl
    rw [sorted_append] at hs
    have hx : ∀ y ∈ m, bef y x := fun y hy => hs.2.2 y hy x (by simp)
    rw [chainC_snoc]
    obtain ⟨r, hr⟩ := pushC_head x (chainC m)
    refine ⟨?_, x, r, hr, fun y hy => ?_⟩
    · by_cases hm : m = []
      · subst hm
        refine .one x (by simp) fun y hy => ?_
        simp at hy; subst hy; exact Or.inl rfl
      · obtain ⟨hc, t, r', ht, hlast⟩ := ih m hml hm hs.1
        refine push_chain hx hc ht fun y hy h => ?_
        have : y = t := by
          rcases h with h | h
          · exact h.symm
          · exact absurd (bef_beq' h (hlast y hy)) (bef_irrefl t)
        subst this; rw [crossP_aa]; omega
    · rcases List.mem_append.1 hy with h | h
      · exact Or.inr (hx y h)
      · simp at h; subst h; exact Or.inl rfl
end Go.Proofs.Ytbhnmofbbnimaaa.G
