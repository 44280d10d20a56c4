/- Pick's theorem for closed roads of lattice points that do not meet themselves, in plain numbers. The conditions stand in each theorem. -/
import Derived.Below
namespace Go.Proofs.Ytlccpkggdmngaaa.Pick
set_option linter.unusedSimpArgs false
set_option linter.unusedVariables false
structure V where
  x : Int
  y : Int
def cross (a b p : V) : Int := (b.x - a.x) * (p.y - a.y) - (b.y - a.y) * (p.x - a.x)
def cr (a b q : V) : Int := if a.y ≤ q.y ∧ q.y < b.y ∧ 0 < cross a b q then 1 else if b.y ≤ q.y ∧ q.y < a.y ∧ cross a b q < 0 then -1 else 0
def btw (a b p : Int) : Prop := (a ≤ p ∧ p ≤ b) ∨ (b ≤ p ∧ p ≤ a)
def on (a b p : V) : Prop := cross a b p = 0 ∧ btw a.x b.x p.x ∧ btw a.y b.y p.y
def opp (m n : Int) : Prop := (0 < m ∧ n < 0) ∨ (m < 0 ∧ 0 < n)
structure Apart (a b c d : V) : Prop where
  h1 : ¬ on a b c
  h2 : ¬ on a b d
  h3 : ¬ on c d a
  h4 : ¬ on c d b
  h5 : ¬ (opp (cross a b c) (cross a b d) ∧ opp (cross c d a) (cross c d b))
def inS (q r p : V) : Int := if q.y < p.y ∧ p.y ≤ r.y ∧ cross q r p < 0 then 1 else 0
theorem i1 (q r a b : V) : (b.y - r.y) * cross q r a + (r.y - a.y) * cross q r b + (r.y - q.y) * cross a b r = 0 := by unfold cross; grind
theorem i2 (q r a b : V) : (b.y - q.y) * cross q r a + (q.y - a.y) * cross q r b + (r.y - q.y) * cross a b q = 0 := by unfold cross; grind
theorem i3 (q r a b : V) : cross a b r - cross a b q = cross q r a - cross q r b := by unfold cross; grind
theorem lt_ge (a b : Int) : a < b ∨ b ≤ a := by omega
theorem pp {u c : Int} (hu : 0 < u) (hc : 0 < c) : 0 < u * c := Int.mul_pos hu hc
theorem pn {u c : Int} (hu : 0 < u) (hc : c < 0) : u * c < 0 := Int.mul_neg_of_pos_of_neg hu hc
theorem np {u c : Int} (hu : u < 0) (hc : 0 < c) : u * c < 0 := Int.mul_neg_of_neg_of_pos hu hc
theorem nn {u c : Int} (hu : u < 0) (hc : c < 0) : 0 < u * c := Int.mul_pos_of_neg_of_neg hu hc
theorem cross_swap (a b p : V) : cross b a p = - cross a b p := by unfold cross; grind
theorem cr_swap (a b q : V) : cr b a q = - cr a b q := by
  unfold cr
  rw [cross_swap a b q]
  split <;> split <;> (try split) <;> omega
theorem on_swap {a b p : V} (h : on b a p) : on a b p := by
  obtain ⟨h1, h2, h3⟩ := h
  unfold on btw at *
  rw [cross_swap] at h1
  omega
theorem Apart.swap {a b q r : V} (h : Apart q r a b) : Apart q r b a := by
  refine ⟨h.h2, h.h1, fun k => h.h3 (on_swap k), fun k => h.h4 (on_swap k), fun k => h.h5 ?_⟩
  obtain ⟨k1, k2⟩ := k
  unfold opp at *
  rw [cross_swap a b q, cross_swap a b r] at k2
  omega
theorem on_of {a b p : V} (h : cross a b p = 0) (h1 : a.y < b.y) (h2 : a.y ≤ p.y) (h3 : p.y ≤ b.y) : on a b p := by
  refine ⟨h, ?_, Or.inl ⟨h2, h3⟩⟩
  unfold cross at h
  unfold btw
  have e : (b.x - a.x) * (b.y - p.y) + (b.x - a.x) * (p.y - a.y) = (b.x - a.x) * (b.y - a.y) := by rw [← Int.mul_add]; congr 1; omega
  have e2 : (b.y - a.y) * (b.x - p.x) = (b.x - a.x) * (b.y - p.y) := by
    have : (b.y - a.y) * (b.x - p.x) + (b.y - a.y) * (p.x - a.x) = (b.y - a.y) * (b.x - a.x) := by rw [← Int.mul_add]; congr 1; omega
    have c := Int.mul_comm (b.y - a.y) (b.x - a.x)
    omega
  rcases Int.lt_trichotomy (b.x - a.x) 0 with k | k | k
  · refine Or.inr ⟨?_, ?_⟩
    · by_cases g : b.x - p.x ≤ 0
      · omega
      · have := pp (show 0 < b.y - a.y by omega) (show 0 < b.x - p.x by omega)
        rw [e2] at this
        have := Int.mul_nonpos_of_nonpos_of_nonneg (show b.x - a.x ≤ 0 by omega) (show 0 ≤ b.y - p.y by omega)
        omega
    · by_cases g : p.x - a.x ≤ 0
      · omega
      · have := pp (show 0 < b.y - a.y by omega) (show 0 < p.x - a.x by omega)
        have := Int.mul_nonpos_of_nonpos_of_nonneg (show b.x - a.x ≤ 0 by omega) (show 0 ≤ p.y - a.y by omega)
        omega
  · rw [k, Int.zero_mul] at h
    have : (b.y - a.y) * (p.x - a.x) = 0 := by omega
    rcases Int.mul_eq_zero.mp this with g | g <;> omega
  · refine Or.inl ⟨?_, ?_⟩
    · by_cases g : 0 ≤ p.x - a.x
      · omega
      · have := pn (show 0 < b.y - a.y by omega) (show p.x - a.x < 0 by omega)
        have := Int.mul_nonneg (show 0 ≤ b.x - a.x by omega) (show 0 ≤ p.y - a.y by omega)
        omega
    · by_cases g : 0 ≤ b.x - p.x
      · omega
      · have := pn (show 0 < b.y - a.y by omega) (show b.x - p.x < 0 by omega)
        rw [e2] at this
        have := Int.mul_nonneg (show 0 ≤ b.x - a.x by omega) (show 0 ≤ b.y - p.y by omega)
        omega
theorem zn {u c : Int} (hu : 0 ≤ u) (hc : 0 ≤ c) : 0 ≤ u * c := Int.mul_nonneg hu hc
theorem zp {u c : Int} (hu : 0 ≤ u) (hc : c ≤ 0) : u * c ≤ 0 := Int.mul_nonpos_of_nonneg_of_nonpos hu hc
theorem zq {u c : Int} (hu : u ≤ 0) (hc : 0 ≤ c) : u * c ≤ 0 := Int.mul_nonpos_of_nonpos_of_nonneg hu hc
theorem zz {u c : Int} (hu : u ≤ 0) (hc : c ≤ 0) : 0 ≤ u * c := Int.mul_nonneg_of_nonpos_of_nonpos hu hc
theorem neg_of {u c : Int} (hu : 0 < u) (h : u * c < 0) : c < 0 := by
  rcases lt_ge c 0 with k | k
  · exact k
  · have := zn (Int.le_of_lt hu) k; omega
theorem pos_of {u c : Int} (hu : 0 < u) (h : 0 < u * c) : 0 < c := by
  rcases lt_ge 0 c with k | k
  · exact k
  · have := zp (Int.le_of_lt hu) k; omega
theorem inv_up {q r a b : V} (hqr : q.y < r.y) (hab : a.y < b.y) (h : Apart q r a b) : cr a b r - cr a b q = inS q r a - inS q r b := by
  have e1 := i1 q r a b
  have e2 := i2 q r a b
  have e3 := i3 q r a b
  have F1 : ¬ (cross a b q = 0 ∧ a.y ≤ q.y ∧ q.y ≤ b.y) := fun k => h.h3 (on_of k.1 hab k.2.1 k.2.2)
  have F2 : ¬ (cross a b r = 0 ∧ a.y ≤ r.y ∧ r.y ≤ b.y) := fun k => h.h4 (on_of k.1 hab k.2.1 k.2.2)
  have F3 : ¬ (cross q r a = 0 ∧ q.y ≤ a.y ∧ a.y ≤ r.y) := fun k => h.h1 (on_of k.1 hqr k.2.1 k.2.2)
  have F4 : ¬ (cross q r b = 0 ∧ q.y ≤ b.y ∧ b.y ≤ r.y) := fun k => h.h2 (on_of k.1 hqr k.2.1 k.2.2)
  have F5 := h.h5
  unfold opp at F5
  unfold cr inS
  generalize cross q r a = ca at *
  generalize cross q r b = cb at *
  generalize cross a b q = dq at *
  generalize cross a b r = dr at *
  have hh : 0 < r.y - q.y := by omega
  by_cases a1 : a.y ≤ q.y
  · by_cases b1 : b.y ≤ q.y
    · rw [if_neg (by omega), if_neg (by omega), if_neg (by omega), if_neg (by omega), if_neg (by omega), if_neg (by omega)]
    · by_cases b2 : b.y ≤ r.y
      · -- LM
        have key : 0 < dq ↔ cb < 0 := by
          constructor
          · intro k
            rcases Int.lt_trichotomy cb 0 with c | c | c
            · exact c
            · exfalso; omega
            · exfalso
              have p1 := pp hh k
              have p2 := zn (show 0 ≤ q.y - a.y by omega) (Int.le_of_lt c)
              have p3 : ca < 0 := neg_of (show 0 < b.y - q.y by omega) (by omega)
              have p4 := zz (show b.y - r.y ≤ 0 by omega) (Int.le_of_lt p3)
              have p5 := pp (show 0 < r.y - a.y by omega) c
              have p6 : dr < 0 := neg_of hh (by omega)
              omega
          · intro c
            rcases Int.lt_trichotomy dq 0 with k | k | k
            · exfalso
              have p1 := pn hh k
              have p2 := zp (show 0 ≤ q.y - a.y by omega) (Int.le_of_lt c)
              have p3 : 0 < ca := pos_of (show 0 < b.y - q.y by omega) (by omega)
              have p4 := zq (show b.y - r.y ≤ 0 by omega) (Int.le_of_lt p3)
              have p5 := pn (show 0 < r.y - a.y by omega) c
              have p6 : 0 < dr := pos_of hh (by omega)
              omega
            · exfalso; omega
            · exact k
        rw [if_neg (by omega), if_neg (by omega), if_neg (by omega : ¬ (q.y < a.y ∧ a.y ≤ r.y ∧ ca < 0))]
        by_cases c : cb < 0
        · rw [if_pos ⟨a1, by omega, key.mpr c⟩, if_pos ⟨by omega, b2, c⟩]
        · rw [if_neg (fun g => c (key.mp g.2.2)), if_neg (by omega), if_neg (fun g => c g.2.2)]
      · -- LH
        have key : 0 < dq ↔ 0 < dr := by
          constructor
          · intro k
            rcases Int.lt_trichotomy dr 0 with c | c | c
            · exfalso
              have p1 := pp hh k
              have p2 := pn hh c
              rcases lt_ge ca 0 with g | g
              · rcases lt_ge 0 cb with f | f
                · omega
                · have := zp (show 0 ≤ b.y - r.y by omega) (Int.le_of_lt g)
                  have := zp (show 0 ≤ r.y - a.y by omega) f
                  omega
              · have := zn (show 0 ≤ b.y - q.y by omega) g
                have := zn (show 0 ≤ q.y - a.y by omega) (show 0 ≤ cb by omega)
                omega
            · exfalso; omega
            · exact c
          · intro k
            rcases Int.lt_trichotomy dq 0 with c | c | c
            · exfalso
              have p1 := pp hh k
              have p2 := pn hh c
              rcases lt_ge 0 ca with g | g
              · rcases lt_ge cb 0 with f | f
                · omega
                · have := zn (show 0 ≤ b.y - r.y by omega) (Int.le_of_lt g)
                  have := zn (show 0 ≤ r.y - a.y by omega) f
                  omega
              · have := zp (show 0 ≤ b.y - q.y by omega) g
                have := zp (show 0 ≤ q.y - a.y by omega) (show cb ≤ 0 by omega)
                omega
            · exfalso; omega
            · exact c
        rw [if_neg (by omega : ¬ (q.y < a.y ∧ a.y ≤ r.y ∧ ca < 0)), if_neg (by omega : ¬ (q.y < b.y ∧ b.y ≤ r.y ∧ cb < 0))]
        by_cases c : 0 < dq
        · rw [if_pos ⟨by omega, by omega, key.mp c⟩, if_pos ⟨by omega, by omega, c⟩]; rfl
        · rw [if_neg (fun g => c (key.mpr g.2.2)), if_neg (by omega), if_neg (fun g => c g.2.2), if_neg (by omega)]
  · by_cases a2 : a.y ≤ r.y
    · by_cases b2 : b.y ≤ r.y
      · -- MM
        have key : ca < 0 ↔ cb < 0 := by
          constructor
          · intro k
            rcases Int.lt_trichotomy cb 0 with c | c | c
            · exact c
            · exfalso; omega
            · exfalso
              have := zz (show b.y - r.y ≤ 0 by omega) (Int.le_of_lt k)
              have := pp (show 0 < r.y - a.y by omega) c
              have p1 : dr < 0 := neg_of hh (by omega)
              have := pn (show 0 < b.y - q.y by omega) k
              have := np (show q.y - a.y < 0 by omega) c
              have p2 : 0 < dq := pos_of hh (by omega)
              omega
          · intro k
            rcases Int.lt_trichotomy ca 0 with c | c | c
            · exact c
            · exfalso; omega
            · exfalso
              have := zq (show b.y - r.y ≤ 0 by omega) (Int.le_of_lt c)
              have := pn (show 0 < r.y - a.y by omega) k
              have p1 : 0 < dr := pos_of hh (by omega)
              have := pp (show 0 < b.y - q.y by omega) c
              have := nn (show q.y - a.y < 0 by omega) k
              have p2 : dq < 0 := neg_of hh (by omega)
              omega
        rw [if_neg (by omega), if_neg (by omega), if_neg (by omega : ¬ (a.y ≤ q.y ∧ q.y < b.y ∧ 0 < dq)), if_neg (by omega)]
        by_cases c : ca < 0
        · rw [if_pos ⟨by omega, a2, c⟩, if_pos ⟨by omega, b2, key.mp c⟩]; rfl
        · rw [if_neg (fun g => c g.2.2), if_neg (fun g => c (key.mpr g.2.2))]
      · -- MH
        have key : 0 < dr ↔ ca < 0 := by
          constructor
          · intro k
            rcases Int.lt_trichotomy ca 0 with c | c | c
            · exact c
            · exfalso; omega
            · exfalso
              have := pp hh k
              have := pp (show 0 < b.y - r.y by omega) c
              have p1 : cb < 0 := by
                rcases lt_ge cb 0 with g | g
                · exact g
                · have := zn (show 0 ≤ r.y - a.y by omega) g; omega
              have := pp (show 0 < b.y - q.y by omega) c
              have := nn (show q.y - a.y < 0 by omega) p1
              have p2 : dq < 0 := neg_of hh (by omega)
              omega
          · intro k
            rcases Int.lt_trichotomy dr 0 with c | c | c
            · exfalso
              have := pn hh c
              have := pn (show 0 < b.y - r.y by omega) k
              have p1 : 0 < cb := by
                rcases lt_ge 0 cb with g | g
                · exact g
                · have := zp (show 0 ≤ r.y - a.y by omega) g; omega
              have := pn (show 0 < b.y - q.y by omega) k
              have := np (show q.y - a.y < 0 by omega) p1
              have p2 : 0 < dq := pos_of hh (by omega)
              omega
            · exfalso; omega
            · exact c
        rw [if_neg (by omega : ¬ (a.y ≤ q.y ∧ q.y < b.y ∧ 0 < dq)), if_neg (by omega : ¬ (b.y ≤ q.y ∧ q.y < a.y ∧ dq < 0)), if_neg (by omega : ¬ (q.y < b.y ∧ b.y ≤ r.y ∧ cb < 0))]
        by_cases c : ca < 0
        · rw [if_pos ⟨a2, by omega, key.mpr c⟩, if_pos ⟨by omega, a2, c⟩]
        · rw [if_neg (fun g => c (key.mp g.2.2)), if_neg (by omega), if_neg (fun g => c g.2.2)]
    · rw [if_neg (by omega), if_neg (by omega), if_neg (by omega), if_neg (by omega), if_neg (by omega), if_neg (by omega)]
theorem inv_level {q r a b : V} (hqr : q.y < r.y) (hab : a.y = b.y) (h : Apart q r a b) : cr a b r - cr a b q = inS q r a - inS q r b := by
  have e1 := i1 q r a b
  have e2 := i2 q r a b
  have F3 : ¬ (cross q r a = 0 ∧ q.y ≤ a.y ∧ a.y ≤ r.y) := fun k => h.h1 (on_of k.1 hqr k.2.1 k.2.2)
  have F4 : ¬ (cross q r b = 0 ∧ q.y ≤ b.y ∧ b.y ≤ r.y) := fun k => h.h2 (on_of k.1 hqr k.2.1 k.2.2)
  have F5 := h.h5
  have F2 := h.h4
  unfold opp at F5
  have z : ∀ p, cr a b p = 0 := fun p => by unfold cr; rw [if_neg (by omega), if_neg (by omega)]
  rw [z, z]
  have ea : a.y = r.y → cross q r a = (r.y - q.y) * (r.x - a.x) := fun k => by unfold cross; rw [k]; grind
  have eb : b.y = r.y → cross q r b = (r.y - q.y) * (r.x - b.x) := fun k => by unfold cross; rw [k]; grind
  have hh : 0 < r.y - q.y := by omega
  have key : q.y < a.y → a.y ≤ r.y → (cross q r a < 0 ↔ cross q r b < 0) := by
    intro h1 h2
    unfold on at F2
    generalize cross q r a = ca at *
    generalize cross q r b = cb at *
    generalize cross a b q = dq at *
    generalize cross a b r = dr at *
    constructor
    · intro k
      rcases Int.lt_trichotomy cb 0 with c | c | c
      · exact c
      · exfalso; omega
      · exfalso
        by_cases g : a.y = r.y
        · rw [ea g] at k; rw [eb (by omega)] at c
          have g1 := neg_of hh k
          have g2 := pos_of hh c
          have : dr = 0 := by
            rw [show b.y - r.y = 0 by omega, show r.y - a.y = 0 by omega, Int.zero_mul, Int.zero_mul] at e1
            rcases Int.mul_eq_zero.mp (show (r.y - q.y) * dr = 0 by omega) with f | f <;> omega
          exact F2 ⟨this, Or.inr ⟨by omega, by omega⟩, Or.inl ⟨by omega, by omega⟩⟩
        · have := nn (show b.y - r.y < 0 by omega) k
          have := pp (show 0 < r.y - a.y by omega) c
          have p1 : dr < 0 := neg_of hh (by omega)
          have := pn (show 0 < b.y - q.y by omega) k
          have := np (show q.y - a.y < 0 by omega) c
          have p2 : 0 < dq := pos_of hh (by omega)
          omega
    · intro k
      rcases Int.lt_trichotomy ca 0 with c | c | c
      · exact c
      · exfalso; omega
      · exfalso
        by_cases g : a.y = r.y
        · rw [ea g] at c; rw [eb (by omega)] at k
          have g1 := neg_of hh k
          have g2 := pos_of hh c
          have : dr = 0 := by
            rw [show b.y - r.y = 0 by omega, show r.y - a.y = 0 by omega, Int.zero_mul, Int.zero_mul] at e1
            rcases Int.mul_eq_zero.mp (show (r.y - q.y) * dr = 0 by omega) with f | f <;> omega
          exact F2 ⟨this, Or.inl ⟨by omega, by omega⟩, Or.inl ⟨by omega, by omega⟩⟩
        · have := np (show b.y - r.y < 0 by omega) c
          have := pn (show 0 < r.y - a.y by omega) k
          have p1 : 0 < dr := pos_of hh (by omega)
          have := pp (show 0 < b.y - q.y by omega) c
          have := nn (show q.y - a.y < 0 by omega) k
          have p2 : dq < 0 := neg_of hh (by omega)
          omega
  unfold inS
  by_cases h1 : q.y < a.y ∧ a.y ≤ r.y
  · by_cases c : cross q r a < 0
    · rw [if_pos ⟨h1.1, h1.2, c⟩, if_pos ⟨by omega, by omega, (key h1.1 h1.2).mp c⟩]; rfl
    · rw [if_neg (fun g => c g.2.2), if_neg (fun g => c ((key h1.1 h1.2).mpr g.2.2))]
  · rw [if_neg (by omega), if_neg (by omega)]
theorem inv_side {q r a b : V} (hqr : q.y < r.y) (h : Apart q r a b) : cr a b r - cr a b q = inS q r a - inS q r b := by
  rcases Int.lt_trichotomy a.y b.y with k | k | k
  · exact inv_up hqr k h
  · exact inv_level hqr k h
  · have := inv_up hqr k h.swap
    rw [cr_swap a b r, cr_swap a b q] at this
    omega
theorem level_up {q r a b : V} (hqr : q.y = r.y) (hab : a.y < b.y) (h : Apart q r a b) : (0 < cross a b q ∧ a.y ≤ q.y ∧ q.y < b.y) → 0 < cross a b r := by
  rintro ⟨k, ha, hb⟩
  have e1 := i1 q r a b
  have e3 := i3 q r a b
  have F2 : ¬ (cross a b r = 0 ∧ a.y ≤ r.y ∧ r.y ≤ b.y) := fun k => h.h4 (on_of k.1 hab k.2.1 k.2.2)
  have F5 := h.h5
  unfold opp at F5
  rcases lt_ge 0 (cross a b r) with c | c
  · exact c
  · exfalso
    have hz : (r.y - q.y) * cross a b r = 0 := by rw [show r.y - q.y = 0 by omega, Int.zero_mul]
    rcases Int.lt_trichotomy (cross q r a) 0 with g | g | g
    · have p1 := pn (show 0 < b.y - r.y by omega) g
      have p2 : 0 < cross q r b := by
        rcases lt_ge 0 (cross q r b) with f | f
        · exact f
        · have := zp (show 0 ≤ r.y - a.y by omega) f; omega
      rcases Int.lt_or_eq_of_le c with c' | c'
      · exact F5 ⟨by omega, by omega⟩
      · exact F2 ⟨c', by omega, by omega⟩
    · rw [g, Int.mul_zero] at e1
      have p2 : 0 < cross q r b := by omega
      have p3 : r.y - a.y = 0 := by
        rcases Int.mul_eq_zero.mp (show (r.y - a.y) * cross q r b = 0 by omega) with f | f <;> omega
      have kq : cross a b q = (b.y - a.y) * (a.x - q.x) := by unfold cross; rw [show q.y = a.y by omega]; grind
      have kr : cross a b r = (b.y - a.y) * (a.x - r.x) := by unfold cross; rw [show r.y = a.y by omega]; grind
      rw [kq] at k
      have k1 := pos_of (by omega) k
      have k2 : a.x - r.x ≤ 0 := by
        rcases lt_ge 0 (a.x - r.x) with f | f
        · have := pp (show 0 < b.y - a.y by omega) f; omega
        · exact f
      exact h.h1 ⟨g, Or.inl ⟨by omega, by omega⟩, Or.inl ⟨by omega, by omega⟩⟩
    · have p1 := pp (show 0 < b.y - r.y by omega) g
      have p2 := zn (show 0 ≤ r.y - a.y by omega) (show 0 ≤ cross q r b by omega)
      omega
theorem cross_neg (a b : V) : cross a b a = 0 ∧ cross a b b = 0 := by unfold cross; constructor <;> grind
theorem Apart.turn {a b q r : V} (h : Apart q r a b) : Apart r q a b := by
  refine ⟨fun k => h.h1 (on_swap k), fun k => h.h2 (on_swap k), h.h4, h.h3, fun k => h.h5 ?_⟩
  obtain ⟨k1, k2⟩ := k
  unfold opp at *
  rw [cross_swap q r a, cross_swap q r b] at k1
  omega
theorem inv_flat {q r a b : V} (hqr : q.y = r.y) (h : Apart q r a b) : cr a b r = cr a b q := by
  have up : ∀ {c d : V}, c.y < d.y → Apart q r c d → cr c d r = cr c d q := by
    intro c d hcd hA
    have k1 := level_up hqr hcd hA
    have k2 := level_up hqr.symm hcd hA.turn
    unfold cr
    rw [if_neg (by omega : ¬ (d.y ≤ r.y ∧ r.y < c.y ∧ cross c d r < 0)), if_neg (by omega : ¬ (d.y ≤ q.y ∧ q.y < c.y ∧ cross c d q < 0))]
    by_cases g : c.y ≤ q.y ∧ q.y < d.y
    · by_cases f : 0 < cross c d q
      · rw [if_pos ⟨by omega, by omega, k1 ⟨f, g.1, g.2⟩⟩, if_pos ⟨g.1, g.2, f⟩]
      · rw [if_neg (fun x => f (k2 ⟨x.2.2, by omega, by omega⟩)), if_neg (fun x => f x.2.2)]
    · rw [if_neg (by omega), if_neg (by omega)]
  rcases Int.lt_trichotomy a.y b.y with k | k | k
  · exact up k h
  · unfold cr; rw [if_neg (by omega), if_neg (by omega), if_neg (by omega), if_neg (by omega)]
  · have := up k h.swap
    rw [cr_swap a b r, cr_swap a b q] at this
    omega
def sw (q r p : V) : Int := if q.y < p.y ∧ p.y ≤ r.y ∧ cross q r p < 0 then 1 else if r.y < p.y ∧ p.y ≤ q.y ∧ 0 < cross q r p then -1 else 0
theorem inv_any {q r a b : V} (h : Apart q r a b) : cr a b r - cr a b q = sw q r a - sw q r b := by
  rcases Int.lt_trichotomy q.y r.y with k | k | k
  · have e : ∀ p, sw q r p = inS q r p := fun p => by
      unfold sw inS
      by_cases c : q.y < p.y ∧ p.y ≤ r.y ∧ cross q r p < 0
      · rw [if_pos c, if_pos c]
      · rw [if_neg c, if_neg c, if_neg (by omega)]
    rw [e, e]; exact inv_side k h
  · have e : ∀ p, sw q r p = 0 := fun p => by unfold sw; rw [if_neg (by omega), if_neg (by omega)]
    rw [e, e, inv_flat k h]; omega
  · have e : ∀ p, sw q r p = - inS r q p := fun p => by
      unfold sw inS
      rw [if_neg (by omega : ¬ (q.y < p.y ∧ p.y ≤ r.y ∧ cross q r p < 0)), cross_swap q r p]
      by_cases c : r.y < p.y ∧ p.y ≤ q.y ∧ 0 < cross q r p
      · rw [if_pos c, if_pos (by omega)]
      · rw [if_neg c, if_neg (by omega)]; rfl
    have := inv_side k h.turn
    rw [e, e]; omega
def el (b c : V) : Int := if c.y < b.y ∨ (c.y = b.y ∧ b.x < c.x) then 1 else 0
structure Bend (a b c : V) : Prop where
  ab : a ≠ b
  bc : b ≠ c
  h1 : ¬ on a b c
  h2 : ¬ on b c a
theorem cyc (a b c : V) : cross b c a = cross a b c := by unfold cross; grind
theorem V.ext' {a b : V} (h1 : a.x = b.x) (h2 : a.y = b.y) : a = b := by cases a; cases b; simp_all
def wedge (a b c : V) : Int := sw b c a - cr a b c + el b c
theorem sg_mul {u v x : Int} (h : x = u * v) : (0 < x → (0 < u ∧ 0 < v) ∨ (u < 0 ∧ v < 0)) ∧ (x < 0 → (0 < u ∧ v < 0) ∨ (u < 0 ∧ 0 < v)) ∧ (x = 0 → u = 0 ∨ v = 0) := by
  subst h
  rcases Int.lt_trichotomy u 0 with a | a | a <;> rcases Int.lt_trichotomy v 0 with b | b | b
  · have := nn a b; omega
  · subst b; rw [Int.mul_zero]; omega
  · have := np a b; omega
  · subst a; rw [Int.zero_mul]; omega
  · subst a; rw [Int.zero_mul]; omega
  · subst a; rw [Int.zero_mul]; omega
  · have := pn a b; omega
  · subst b; rw [Int.mul_zero]; omega
  · have := pp a b; omega
theorem el_straight {a b c : V} (h : Bend a b c) (z : cross a b c = 0) : el a b = el b c := by
  have t1 : a.y = b.y → cross a b c = (b.x - a.x) * (c.y - a.y) := fun k => by unfold cross; rw [k]; grind
  have n1 : a.y = b.y → a.x ≠ b.x := fun k g => h.ab (V.ext' g k)
  have z2 : cross b c a = 0 := (cyc a b c).trans z
  have z3 : cross c b a = 0 := by rw [cross_swap, z2]; rfl
  have z4 : cross b a c = 0 := by rw [cross_swap, z]; rfl
  unfold el
  rcases Int.lt_trichotomy a.y b.y with k | k | k
  · have g : b.y < c.y := by
      rcases lt_ge b.y c.y with g | g
      · exact g
      · exfalso
        rcases lt_ge c.y a.y with f | f
        · exact h.h2 (on_swap (on_of z3 (by omega) (by omega) (by omega)))
        · exact h.h1 (on_of z k f g)
    rw [if_neg (by omega), if_neg (by omega)]
  · have g : c.y = b.y := by
      rcases (sg_mul (t1 k)).2.2 z with f | f
      · exact absurd (by omega) (n1 k)
      · omega
    have o1 : ¬ btw a.x b.x c.x := fun f => h.h1 ⟨z, f, Or.inl ⟨by omega, by omega⟩⟩
    have o2 : ¬ btw b.x c.x a.x := fun f => h.h2 ⟨z2, f, Or.inl ⟨by omega, by omega⟩⟩
    have := n1 k
    unfold btw at o1 o2
    by_cases f : a.x < b.x
    · rw [if_pos (by omega), if_pos (by omega)]
    · rw [if_neg (by omega), if_neg (by omega)]
  · have g : c.y < b.y := by
      rcases lt_ge c.y b.y with g | g
      · exact g
      · exfalso
        rcases lt_ge a.y c.y with f | f
        · exact h.h2 (on_of z2 (by omega) (by omega) (by omega))
        · exact h.h1 (on_swap (on_of z4 k g f))
    rw [if_pos (by omega), if_pos (by omega)]
set_option maxHeartbeats 4000000 in
theorem wedge_eq {a b c : V} (h : Bend a b c) : sw a b c - cr b c a + el a b = wedge a b c := by
  have t1 : a.y = b.y → cross a b c = (b.x - a.x) * (c.y - a.y) := fun k => by unfold cross; rw [k]; grind
  have t2 : b.y = c.y → cross a b c = (c.x - b.x) * (a.y - b.y) := fun k => by unfold cross; rw [k]; grind
  have n1 : a.y = b.y → a.x ≠ b.x := fun k g => h.ab (V.ext' g k)
  have n2 : b.y = c.y → b.x ≠ c.x := fun k g => h.bc (V.ext' g k)
  have e0 := fun z => el_straight h z
  unfold wedge
  unfold sw cr
  rw [cyc a b c]
  generalize cross a b c = X at *
  rcases Int.lt_trichotomy X 0 with x | x | x
  · unfold el
    clear e0
    rcases Int.lt_trichotomy a.y b.y with k1 | k1 | k1 <;> rcases Int.lt_trichotomy b.y c.y with k2 | k2 | k2 <;> rcases Int.lt_trichotomy a.y c.y with k3 | k3 | k3 <;> (try omega)
    all_goals (try (have g1 := (sg_mul (t1 k1)).2.1 x)) <;> (try (have g2 := (sg_mul (t2 k2)).2.1 x)) <;> (try omega) <;> (repeat (first | rw [if_pos (by omega)] | rw [if_neg (by omega)])) <;> omega
  · rw [if_neg (by omega), if_neg (by omega), if_neg (by omega), if_neg (by omega), if_neg (by omega), if_neg (by omega), if_neg (by omega), if_neg (by omega), e0 x]
  · unfold el
    clear e0
    rcases Int.lt_trichotomy a.y b.y with k1 | k1 | k1 <;> rcases Int.lt_trichotomy b.y c.y with k2 | k2 | k2 <;> rcases Int.lt_trichotomy a.y c.y with k3 | k3 | k3 <;> (try omega)
    all_goals (try (have g1 := (sg_mul (t1 k1)).1 x)) <;> (try (have g2 := (sg_mul (t2 k2)).1 x)) <;> (try omega) <;> (repeat (first | rw [if_pos (by omega)] | rw [if_neg (by omega)])) <;> omega
def su (f : Nat → Int) : Nat → Int
  | 0 => 0
  | k + 1 => su f k + f k
theorem su_congr {f g : Nat → Int} : ∀ k, (∀ t, t < k → f t = g t) → su f k = su g k
  | 0, _ => rfl
  | k + 1, h => by unfold su; rw [su_congr k (fun t ht => h t (by omega)), h k (by omega)]
theorem su_sub (f g : Nat → Int) : ∀ k, su f k - su g k = su (fun t => f t - g t) k
  | 0 => rfl
  | k + 1 => by have := su_sub f g k; unfold su; omega
theorem su_tele (f : Nat → Int) : ∀ k, su (fun t => f t - f (t + 1)) k = f 0 - f k
  | 0 => by unfold su; omega
  | k + 1 => by have := su_tele f k; unfold su; omega
theorem su_front (f : Nat → Int) : ∀ k, su f (k + 1) = f 0 + su (fun t => f (t + 1)) k
  | 0 => by simp [su]
  | k + 1 => by
    have := su_front f k
    rw [show su f (k + 1 + 1) = su f (k + 1) + f (k + 1) from rfl, this]
    rw [show su (fun t => f (t + 1)) (k + 1) = su (fun t => f (t + 1)) k + f (k + 1) from rfl]
    omega
theorem su_turn {f : Nat → Int} {n : Nat} (hp : ∀ j, f (j + n) = f j) : ∀ i, su (fun t => f (i + t)) n = su f n
  | 0 => su_congr n (fun t _ => by simp)
  | i + 1 => by
    have h := su_turn hp i
    have h1 := su_front (fun t => f (i + t)) n
    have h2 : su (fun t => f (i + t)) (n + 1) = su (fun t => f (i + t)) n + f (i + n) := rfl
    have h3 : su (fun t => f (i + (t + 1))) n = su (fun t => f (i + 1 + t)) n := su_congr n (fun t _ => by congr 1; omega)
    have h4 := hp i
    simp only [Nat.add_zero] at h1
    omega
structure Road (p : Nat → V) (n : Nat) : Prop where
  n3 : 3 ≤ n
  per : ∀ j, p (j + n) = p j
  bend : ∀ i, Bend (p i) (p (i + 1)) (p (i + 2))
  far : ∀ i j, i + 2 ≤ j → j + 2 ≤ i + n → Apart (p i) (p (i + 1)) (p j) (p (j + 1))
def W (p : Nat → V) (n : Nat) (q : V) : Int := su (fun j => cr (p j) (p (j + 1)) q) n
theorem per1 {p : Nat → V} {n : Nat} (h : ∀ j, p (j + n) = p j) (j : Nat) : p (j + n + 1) = p (j + 1) := by
  rw [show j + n + 1 = (j + 1) + n by omega]; exact h _
theorem W_turn {p : Nat → V} {n : Nat} (h : ∀ j, p (j + n) = p j) (q : V) (i : Nat) : W p n q = su (fun t => cr (p (i + t)) (p (i + t + 1)) q) n := by
  unfold W
  exact (su_turn (f := fun j => cr (p j) (p (j + 1)) q) (n := n) (fun j => by show cr _ _ _ = cr _ _ _; rw [h, per1 h]) i).symm
theorem cr_ends (a b : V) : cr a b a = 0 ∧ cr a b b = 0 := by
  obtain ⟨h1, h2⟩ := cross_neg a b
  unfold cr
  rw [h1, h2]
  constructor <;> rw [if_neg (by omega), if_neg (by omega)]
theorem W_step {p : Nat → V} {n : Nat} (h : Road p n) (i : Nat) : W p n (p (i + 2)) - W p n (p (i + 1)) = wedge (p (i + 1)) (p (i + 2)) (p (i + 3)) - wedge (p i) (p (i + 1)) (p (i + 2)) := by
  obtain ⟨m, rfl⟩ : ∃ m, n = m + 3 := ⟨n - 3, by have := h.n3; omega⟩
  rw [W_turn h.per (p (i + 2)) i, W_turn h.per (p (i + 1)) i, su_sub, su_front, su_front, su_front]
  have far : su (fun t => (fun t => (fun t => (fun t => cr (p (i + t)) (p (i + t + 1)) (p (i + 2)) - cr (p (i + t)) (p (i + t + 1)) (p (i + 1))) (t + 1)) (t + 1)) (t + 1)) m = sw (p (i + 1)) (p (i + 2)) (p (i + 3)) - sw (p (i + 1)) (p (i + 2)) (p i) := by
    have e := su_tele (fun t => sw (p (i + 1)) (p (i + 2)) (p (i + 3 + t))) m
    have e2 : p (i + 3 + m) = p i := by rw [show i + 3 + m = i + (m + 3) by omega]; exact h.per i
    simp only [e2, Nat.add_zero] at e
    rw [← e]
    refine su_congr m (fun t ht => ?_)
    have ha := h.far (i + 1) (i + 3 + t) (by omega) (by omega)
    have := inv_any ha
    show cr (p (i + (t + 1 + 1 + 1))) (p (i + (t + 1 + 1 + 1) + 1)) (p (i + 2)) - cr (p (i + (t + 1 + 1 + 1))) (p (i + (t + 1 + 1 + 1) + 1)) (p (i + 1)) = _
    rw [show i + (t + 1 + 1 + 1) = i + 3 + t by omega, show i + 1 + 1 = i + 2 by omega] at *
    exact this
  have g0 := (cr_ends (p i) (p (i + 1))).2
  have g1 := cr_ends (p (i + 1)) (p (i + 2))
  have g2 := (cr_ends (p (i + 2)) (p (i + 3))).1
  have w1 := wedge_eq (h.bend (i + 1))
  have w0 : wedge (p i) (p (i + 1)) (p (i + 2)) = sw (p (i + 1)) (p (i + 2)) (p i) - cr (p i) (p (i + 1)) (p (i + 2)) + el (p (i + 1)) (p (i + 2)) := rfl
  rw [show i + 1 + 1 = i + 2 by omega, show i + 1 + 2 = i + 3 by omega] at w1
  simp only [Nat.add_zero, Nat.zero_add] at far ⊢
  rw [far]
  rw [show i + (1 + 1) = i + 2 by omega, show i + 2 + 1 = i + 3 by omega, show i + 1 + 1 = i + 2 by omega]
  obtain ⟨g1a, g1b⟩ := g1
  omega
def R (p : Nat → V) (n : Nat) : Int := W p n (p 1) - wedge (p 0) (p 1) (p 2)
theorem W_corner {p : Nat → V} {n : Nat} (h : Road p n) : ∀ i, W p n (p (i + 1)) = R p n + wedge (p i) (p (i + 1)) (p (i + 2))
  | 0 => by show W p n (p 1) = R p n + wedge (p 0) (p 1) (p 2); unfold R; omega
  | i + 1 => by
    have h1 := W_corner h i
    have h2 := W_step h i
    rw [show i + 1 + 1 = i + 2 by omega, show i + 1 + 2 = i + 3 by omega]
    omega
set_option maxHeartbeats 4000000 in
theorem wedge_01 {a b c : V} (h : Bend a b c) : wedge a b c = 0 ∨ wedge a b c = 1 := by
  have t1 : a.y = b.y → cross a b c = (b.x - a.x) * (c.y - a.y) := fun k => by unfold cross; rw [k]; grind
  have t2 : b.y = c.y → cross a b c = (c.x - b.x) * (a.y - b.y) := fun k => by unfold cross; rw [k]; grind
  unfold wedge
  unfold sw cr el
  rw [cyc a b c]
  generalize cross a b c = X at *
  rcases Int.lt_trichotomy X 0 with x | x | x
  · rcases Int.lt_trichotomy a.y b.y with k1 | k1 | k1 <;> rcases Int.lt_trichotomy b.y c.y with k2 | k2 | k2 <;> rcases Int.lt_trichotomy a.y c.y with k3 | k3 | k3 <;> (try omega)
    all_goals (try (have g1 := (sg_mul (t1 k1)).2.1 x)) <;> (try (have g2 := (sg_mul (t2 k2)).2.1 x)) <;> (try omega) <;> (repeat (first | rw [if_pos (by omega)] | rw [if_neg (by omega)])) <;> first | omega | (split <;> omega)
  · rw [if_neg (by omega), if_neg (by omega), if_neg (by omega), if_neg (by omega)]
    split <;> omega
  · rcases Int.lt_trichotomy a.y b.y with k1 | k1 | k1 <;> rcases Int.lt_trichotomy b.y c.y with k2 | k2 | k2 <;> rcases Int.lt_trichotomy a.y c.y with k3 | k3 | k3 <;> (try omega)
    all_goals (try (have g1 := (sg_mul (t1 k1)).1 x)) <;> (try (have g2 := (sg_mul (t2 k2)).1 x)) <;> (try omega) <;> (repeat (first | rw [if_pos (by omega)] | rw [if_neg (by omega)])) <;> first | omega | (split <;> omega)
def ng (a : V) : V := ⟨-a.x, -a.y⟩
theorem cross_ng (a b c : V) : cross (ng a) (ng b) (ng c) = cross a b c := by unfold cross ng; grind
theorem on_ng {a b p : V} (h : on (ng a) (ng b) (ng p)) : on a b p := by
  obtain ⟨h1, h2, h3⟩ := h
  rw [cross_ng] at h1
  unfold btw ng at h2 h3
  simp only at h2 h3
  exact ⟨h1, by unfold btw; omega, by unfold btw; omega⟩
theorem ng_inj {a b : V} (h : ng a = ng b) : a = b := by
  unfold ng at h
  injection h with h1 h2
  exact V.ext' (by omega) (by omega)
theorem Bend.ng {a b c : V} (h : Bend a b c) : Bend (ng a) (ng b) (ng c) :=
  ⟨fun e => h.ab (ng_inj e), fun e => h.bc (ng_inj e), fun e => h.h1 (on_ng e), fun e => h.h2 (on_ng e)⟩
theorem Apart.ng {a b c d : V} (h : Apart a b c d) : Apart (ng a) (ng b) (ng c) (ng d) := by
  refine ⟨fun e => h.h1 (on_ng e), fun e => h.h2 (on_ng e), fun e => h.h3 (on_ng e), fun e => h.h4 (on_ng e), fun e => h.h5 ?_⟩
  rw [cross_ng, cross_ng, cross_ng, cross_ng] at e
  exact e
def th (q p : V) : Int := if q.y < p.y ∨ (p.y = q.y ∧ p.x < q.x) then 1 else 0
theorem cr_both {a b q : V} (h : ¬ on a b q) : cr a b q - cr (ng a) (ng b) (ng q) = th q b - th q a := by
  have t1 : a.y = q.y → cross a b q = (b.y - a.y) * (a.x - q.x) := fun k => by unfold cross; rw [← k]; grind
  have t2 : b.y = q.y → cross a b q = (b.y - a.y) * (b.x - q.x) := fun k => by unfold cross; rw [← k]; grind
  have F1 : ¬ (cross a b q = 0 ∧ a.y < b.y ∧ a.y ≤ q.y ∧ q.y ≤ b.y) := fun k => h (on_of k.1 k.2.1 k.2.2.1 k.2.2.2)
  have F2 : ¬ (cross a b q = 0 ∧ b.y < a.y ∧ b.y ≤ q.y ∧ q.y ≤ a.y) := fun k => h (on_swap (on_of (by rw [cross_swap, k.1]; rfl) k.2.1 k.2.2.1 k.2.2.2))
  have F3 : a.y = q.y → b.y = q.y → ¬ btw a.x b.x q.x := fun k1 k2 f => h ⟨by rw [t1 k1, show b.y - a.y = 0 by omega, Int.zero_mul], f, Or.inl ⟨by omega, by omega⟩⟩
  unfold btw at F3
  have n1 : (ng a).y = - a.y := rfl
  have n2 : (ng b).y = - b.y := rfl
  have n3 : (ng q).y = - q.y := rfl
  unfold cr th
  rw [cross_ng, n1, n2, n3]
  generalize cross a b q = X at *
  rcases Int.lt_trichotomy X 0 with x | x | x
  · rcases Int.lt_trichotomy a.y q.y with k1 | k1 | k1 <;> rcases Int.lt_trichotomy b.y q.y with k2 | k2 | k2
    all_goals (try (have g1 := (sg_mul (t1 k1)).2.1 x)) <;> (try (have g2 := (sg_mul (t2 k2)).2.1 x)) <;> (try omega) <;> (repeat (first | rw [if_pos (by omega)] | rw [if_neg (by omega)])) <;> omega
  · rcases Int.lt_trichotomy a.y q.y with k1 | k1 | k1 <;> rcases Int.lt_trichotomy b.y q.y with k2 | k2 | k2
    all_goals (try (have g1 := (sg_mul (t1 k1)).2.2 x)) <;> (try (have g2 := (sg_mul (t2 k2)).2.2 x)) <;> (try (have g3 := F3 k1 k2)) <;> (try omega) <;> (repeat (first | rw [if_pos (by omega)] | rw [if_neg (by omega)])) <;> first | omega | (split <;> split <;> omega)
  · rcases Int.lt_trichotomy a.y q.y with k1 | k1 | k1 <;> rcases Int.lt_trichotomy b.y q.y with k2 | k2 | k2
    all_goals (try (have g1 := (sg_mul (t1 k1)).1 x)) <;> (try (have g2 := (sg_mul (t2 k2)).1 x)) <;> (try omega) <;> (repeat (first | rw [if_pos (by omega)] | rw [if_neg (by omega)])) <;> omega
set_option maxHeartbeats 8000000 in
theorem wedge_both {a b c : V} (h : Bend a b c) : wedge a b c - wedge (ng a) (ng b) (ng c) = th b a - th b c := by
  have t1 : a.y = b.y → cross a b c = (b.x - a.x) * (c.y - a.y) := fun k => by unfold cross; rw [k]; grind
  have t2 : b.y = c.y → cross a b c = (c.x - b.x) * (a.y - b.y) := fun k => by unfold cross; rw [k]; grind
  have n1 : a.y = b.y → a.x ≠ b.x := fun k g => h.ab (V.ext' g k)
  have n2 : b.y = c.y → b.x ≠ c.x := fun k g => h.bc (V.ext' g k)
  have e0 := fun z => el_straight h z
  have m1 : (ng a).y = - a.y := rfl
  have m2 : (ng b).y = - b.y := rfl
  have m3 : (ng c).y = - c.y := rfl
  have m4 : (ng a).x = - a.x := rfl
  have m5 : (ng b).x = - b.x := rfl
  have m6 : (ng c).x = - c.x := rfl
  unfold wedge
  unfold sw cr th
  rw [cross_ng, cross_ng, cyc a b c, m1, m2, m3]
  unfold el at *
  rw [m2, m3, m5, m6]
  generalize cross a b c = X at *
  rcases Int.lt_trichotomy X 0 with x | x | x
  · clear e0
    rcases Int.lt_trichotomy a.y b.y with k1 | k1 | k1 <;> rcases Int.lt_trichotomy b.y c.y with k2 | k2 | k2 <;> rcases Int.lt_trichotomy a.y c.y with k3 | k3 | k3 <;> (try omega)
    all_goals (try (have g1 := (sg_mul (t1 k1)).2.1 x)) <;> (try (have g2 := (sg_mul (t2 k2)).2.1 x)) <;> (try omega) <;> (repeat (first | rw [if_pos (by omega)] | rw [if_neg (by omega)])) <;> omega
  · have e := e0 x
    clear e0
    subst x
    simp only [Int.lt_irrefl, and_false, if_false]
    rcases Int.lt_trichotomy a.y b.y with k1 | k1 | k1 <;> rcases Int.lt_trichotomy b.y c.y with k2 | k2 | k2 <;> rcases Int.lt_trichotomy a.y c.y with k3 | k3 | k3 <;> (try omega)
    all_goals (try (have g1 := (sg_mul (t1 k1)).2.2 rfl)) <;> (try (have g2 := (sg_mul (t2 k2)).2.2 rfl)) <;> (try (have g3 := n1 k1)) <;> (try (have g4 := n2 k2)) <;> (try omega) <;> (repeat' split at e) <;> (repeat' split) <;> omega
  · clear e0
    rcases Int.lt_trichotomy a.y b.y with k1 | k1 | k1 <;> rcases Int.lt_trichotomy b.y c.y with k2 | k2 | k2 <;> rcases Int.lt_trichotomy a.y c.y with k3 | k3 | k3 <;> (try omega)
    all_goals (try (have g1 := (sg_mul (t1 k1)).1 x)) <;> (try (have g2 := (sg_mul (t2 k2)).1 x)) <;> (try omega) <;> (repeat (first | rw [if_pos (by omega)] | rw [if_neg (by omega)])) <;> omega
set_option maxHeartbeats 4000000 in
theorem wedge_form {a b c : V} (h : Bend a b c) : wedge a b c = if 0 < cross a b c then (if el b c = 1 ∧ el b a = 0 then 1 else 0) else if cross a b c < 0 then (if el b c = 0 ∧ el b a = 1 then 0 else 1) else el b c := by
  have t1 : a.y = b.y → cross a b c = (b.x - a.x) * (c.y - a.y) := fun k => by unfold cross; rw [k]; grind
  have t2 : b.y = c.y → cross a b c = (c.x - b.x) * (a.y - b.y) := fun k => by unfold cross; rw [k]; grind
  have n1 : a.y = b.y → a.x ≠ b.x := fun k g => h.ab (V.ext' g k)
  have n2 : b.y = c.y → b.x ≠ c.x := fun k g => h.bc (V.ext' g k)
  have d1 : ∀ u v, el u v = 1 ↔ (v.y < u.y ∨ (v.y = u.y ∧ u.x < v.x)) := fun u v => by unfold el; split <;> simp_all
  have d0 : ∀ u v, el u v = 0 ↔ ¬ (v.y < u.y ∨ (v.y = u.y ∧ u.x < v.x)) := fun u v => by unfold el; split <;> simp_all
  simp only [d1, d0]
  unfold wedge
  unfold sw cr el
  rw [cyc a b c]
  generalize cross a b c = X at *
  rcases Int.lt_trichotomy X 0 with x | x | x
  · rw [if_neg (by omega : ¬ 0 < X), if_pos x]
    rcases Int.lt_trichotomy a.y b.y with k1 | k1 | k1 <;> rcases Int.lt_trichotomy b.y c.y with k2 | k2 | k2 <;> rcases Int.lt_trichotomy a.y c.y with k3 | k3 | k3 <;> (try omega)
    all_goals (try (have g1 := (sg_mul (t1 k1)).2.1 x)) <;> (try (have g2 := (sg_mul (t2 k2)).2.1 x)) <;> (try (have g3 := n1 k1)) <;> (try (have g4 := n2 k2)) <;> (try omega) <;> (repeat (first | rw [if_pos (by omega)] | rw [if_neg (by omega)])) <;> omega
  · subst x
    simp only [Int.lt_irrefl, and_false, if_false]
    omega
  · rw [if_pos x]
    rcases Int.lt_trichotomy a.y b.y with k1 | k1 | k1 <;> rcases Int.lt_trichotomy b.y c.y with k2 | k2 | k2 <;> rcases Int.lt_trichotomy a.y c.y with k3 | k3 | k3 <;> (try omega)
    all_goals (try (have g1 := (sg_mul (t1 k1)).1 x)) <;> (try (have g2 := (sg_mul (t2 k2)).1 x)) <;> (try (have g3 := n1 k1)) <;> (try (have g4 := n2 k2)) <;> (try omega) <;> (repeat (first | rw [if_pos (by omega)] | rw [if_neg (by omega)])) <;> omega
theorem on_frac {b c q : V} (hne : b ≠ c) (h : on b c q) : ∃ L l : Int, 0 < L ∧ 0 ≤ l ∧ l ≤ L ∧ L * (q.x - b.x) = l * (c.x - b.x) ∧ L * (q.y - b.y) = l * (c.y - b.y) := by
  obtain ⟨h1, h2, h3⟩ := h
  unfold cross at h1
  unfold btw at h2 h3
  have c1 := Int.mul_comm (c.x - b.x) (q.y - b.y)
  have c2 := Int.mul_comm (c.y - b.y) (q.x - b.x)
  have c3 := Int.mul_comm (c.y - b.y) (q.y - b.y)
  have c4 := Int.mul_comm (c.x - b.x) (q.x - b.x)
  have c5 := Int.mul_comm (c.x - b.x) (q.y - b.y)
  rcases Int.lt_trichotomy b.y c.y with k | k | k
  · exact ⟨c.y - b.y, q.y - b.y, by omega, by omega, by omega, by omega, c3⟩
  · have hx : b.x ≠ c.x := fun g => hne (V.ext' g k)
    have hq : q.y = b.y := by omega
    rcases Int.lt_trichotomy b.x c.x with g | g | g
    · exact ⟨c.x - b.x, q.x - b.x, by omega, by omega, by omega, c4, by rw [hq, k]; simp⟩
    · exact absurd g hx
    · refine ⟨b.x - c.x, b.x - q.x, by omega, by omega, by omega, ?_, by rw [hq, k]; simp⟩
      rw [show b.x - c.x = -(c.x - b.x) by omega, show b.x - q.x = -(q.x - b.x) by omega, Int.neg_mul, Int.neg_mul, c4]
  · refine ⟨b.y - c.y, b.y - q.y, by omega, by omega, by omega, ?_, ?_⟩
    · rw [show b.y - c.y = -(c.y - b.y) by omega, show b.y - q.y = -(q.y - b.y) by omega, Int.neg_mul, Int.neg_mul]; omega
    · rw [show b.y - c.y = -(c.y - b.y) by omega, show b.y - q.y = -(q.y - b.y) by omega, Int.neg_mul, Int.neg_mul, c3]
theorem frac_cross {b c q : V} {L l : Int} (hx : L * (q.x - b.x) = l * (c.x - b.x)) (hy : L * (q.y - b.y) = l * (c.y - b.y)) (x : V) : L * cross b q x = l * cross b c x := by
  unfold cross
  grind
theorem frac_cross2 {b c q : V} {L l : Int} (hx : L * (q.x - b.x) = l * (c.x - b.x)) (hy : L * (q.y - b.y) = l * (c.y - b.y)) (x y : V) : L * cross x y q = (L - l) * cross x y b + l * cross x y c := by
  unfold cross
  grind
theorem frac_zero {b c q : V} {L l : Int} (hL : 0 < L) (hx : L * (q.x - b.x) = l * (c.x - b.x)) (hy : L * (q.y - b.y) = l * (c.y - b.y)) (h : l = 0) : q = b := by
  subst h
  rw [Int.zero_mul] at hx hy
  rcases Int.mul_eq_zero.mp hx with f | f
  · omega
  · rcases Int.mul_eq_zero.mp hy with g | g
    · omega
    · exact V.ext' (by omega) (by omega)
theorem frac_one {b c q : V} {L l : Int} (hL : 0 < L) (hx : L * (q.x - b.x) = l * (c.x - b.x)) (hy : L * (q.y - b.y) = l * (c.y - b.y)) (h : l = L) : q = c := by
  subst h
  have e1 := Int.eq_of_mul_eq_mul_left (by omega) hx
  have e2 := Int.eq_of_mul_eq_mul_left (by omega) hy
  exact V.ext' (by omega) (by omega)
theorem Apart.none {b c x y q : V} (h : Apart b c x y) (hbc : b ≠ c) (hxy : x ≠ y) (h1 : on b c q) (h2 : on x y q) : False := by
  obtain ⟨L, l, hL, l0, l1, ex, ey⟩ := on_frac hbc h1
  obtain ⟨M, m, hM, m0, m1, fx, fy⟩ := on_frac hxy h2
  have lz : l ≠ 0 := fun k => h.h3 (frac_zero hL ex ey k ▸ h2)
  have lo : l ≠ L := fun k => h.h4 (frac_one hL ex ey k ▸ h2)
  have mz : m ≠ 0 := fun k => h.h1 (frac_zero hM fx fy k ▸ h1)
  have mo : m ≠ M := fun k => h.h2 (frac_one hM fx fy k ▸ h1)
  have e1 := frac_cross2 ex ey x y
  have e2 := frac_cross2 fx fy b c
  rw [h2.1, Int.mul_zero] at e1
  rw [h1.1, Int.mul_zero] at e2
  have e3 := i3 b c x y
  have F5 := h.h5
  unfold opp at F5
  have s1 : (0 < cross x y b ∧ cross x y c < 0) ∨ (cross x y b < 0 ∧ 0 < cross x y c) ∨ (cross x y b = 0 ∧ cross x y c = 0) := by
    have hl : 0 < l := by omega
    have hr : 0 < L - l := by omega
    rcases Int.lt_trichotomy (cross x y b) 0 with a | a | a <;> rcases Int.lt_trichotomy (cross x y c) 0 with d | d | d
    · have := pn hr a; have := pn hl d; omega
    · have := pn hr a; rw [d, Int.mul_zero] at e1; omega
    · omega
    · have := pn hl d; rw [a, Int.mul_zero] at e1; omega
    · omega
    · have := pp hl d; rw [a, Int.mul_zero] at e1; omega
    · omega
    · have := pp hr a; rw [d, Int.mul_zero] at e1; omega
    · have := pp hr a; have := pp hl d; omega
  have s2 : (0 < cross b c x ∧ cross b c y < 0) ∨ (cross b c x < 0 ∧ 0 < cross b c y) ∨ (cross b c x = 0 ∧ cross b c y = 0) := by
    have hl : 0 < m := by omega
    have hr : 0 < M - m := by omega
    rcases Int.lt_trichotomy (cross b c x) 0 with a | a | a <;> rcases Int.lt_trichotomy (cross b c y) 0 with d | d | d
    · have := pn hr a; have := pn hl d; omega
    · have := pn hr a; rw [d, Int.mul_zero] at e2; omega
    · omega
    · have := pn hl d; rw [a, Int.mul_zero] at e2; omega
    · omega
    · have := pp hl d; rw [a, Int.mul_zero] at e2; omega
    · omega
    · have := pp hr a; rw [d, Int.mul_zero] at e2; omega
    · have := pp hr a; have := pp hl d; omega
  have z : (cross x y b = 0 ∧ cross x y c = 0) ∧ (cross b c x = 0 ∧ cross b c y = 0) := by omega
  obtain ⟨⟨z1, z2⟩, z3, z4⟩ := z
  have N1 : ¬ (btw b.x c.x x.x ∧ btw b.y c.y x.y) := fun k => h.h1 ⟨z3, k.1, k.2⟩
  have N2 : ¬ (btw b.x c.x y.x ∧ btw b.y c.y y.y) := fun k => h.h2 ⟨z4, k.1, k.2⟩
  have N3 : ¬ (btw x.x y.x b.x ∧ btw x.y y.y b.y) := fun k => h.h3 ⟨z1, k.1, k.2⟩
  have N4 : ¬ (btw x.x y.x c.x ∧ btw x.y y.y c.y) := fun k => h.h4 ⟨z2, k.1, k.2⟩
  by_cases k : b.y = c.y
  · -- level
    have hq : q.y = b.y := by have := h1.2.2; unfold btw at this; omega
    have hx : b.x ≠ c.x := fun g => hbc (V.ext' g k)
    have ly : x.y = b.y ∧ y.y = b.y := by
      have g1 : cross b c x = (c.x - b.x) * (x.y - b.y) := by unfold cross; rw [k]; grind
      have g2 : cross b c y = (c.x - b.x) * (y.y - b.y) := by unfold cross; rw [k]; grind
      rw [g1] at z3; rw [g2] at z4
      rcases Int.mul_eq_zero.mp z3 with f | f <;> rcases Int.mul_eq_zero.mp z4 with g | g <;> omega
    have b1 := h1.2.1
    have b2 := h2.2.1
    unfold btw at *
    omega
  · have ky : x.y ≠ y.y := by
      intro g
      have g1 : cross x y b = (y.x - x.x) * (b.y - x.y) := by unfold cross; rw [g]; grind
      have g2 : cross x y c = (y.x - x.x) * (c.y - x.y) := by unfold cross; rw [g]; grind
      have hx : x.x ≠ y.x := fun f => hxy (V.ext' f g)
      rw [g1] at z1; rw [g2] at z2
      rcases Int.mul_eq_zero.mp z1 with f | f <;> rcases Int.mul_eq_zero.mp z2 with f' | f' <;> omega
    have oo : ∀ {a d p : V}, cross a d p = 0 → a.y ≠ d.y → btw a.y d.y p.y → on a d p := by
      intro a d p g1 g2 g3
      unfold btw at g3
      rcases Int.lt_or_gt_of_ne g2 with f | f
      · exact on_of g1 f (by omega) (by omega)
      · exact on_swap (on_of (by rw [cross_swap, g1]; rfl) f (by omega) (by omega))
    have M1 : ¬ btw b.y c.y x.y := fun g => h.h1 (oo z3 k g)
    have M2 : ¬ btw b.y c.y y.y := fun g => h.h2 (oo z4 k g)
    have M3 : ¬ btw x.y y.y b.y := fun g => h.h3 (oo z1 ky g)
    have M4 : ¬ btw x.y y.y c.y := fun g => h.h4 (oo z2 ky g)
    have b1 := h1.2.2
    have b2 := h2.2.2
    unfold btw at *
    omega
theorem on_trans {b c q x : V} (h1 : on b c q) (h2 : on b q x) : on b c x := by
  obtain ⟨a1, a2, a3⟩ := h1
  obtain ⟨b1, b2, b3⟩ := h2
  refine ⟨?_, by unfold btw at *; omega, by unfold btw at *; omega⟩
  by_cases e : b = q
  · subst e
    have : x = b := V.ext' (by unfold btw at b2; omega) (by unfold btw at b3; omega)
    subst this; exact a1
  · obtain ⟨L, l, hL, _, _, ex, ey⟩ := on_frac e ⟨b1, b2, b3⟩
    have e1 := frac_cross2 ex ey b c
    rw [a1, Int.mul_zero, (cross_neg b c).1, Int.mul_zero] at e1
    rcases Int.mul_eq_zero.mp (show L * cross b c x = 0 by omega) with f | f <;> omega
theorem Apart.sub {b c x y q : V} (h : Apart b c x y) (hbc : b ≠ c) (hxy : x ≠ y) (h1 : on b c q) : Apart b q x y := by
  obtain ⟨L, l, hL, l0, l1, ex, ey⟩ := on_frac hbc h1
  refine ⟨fun k => h.h1 (on_trans h1 k), fun k => h.h2 (on_trans h1 k), h.h3, fun k => h.none hbc hxy h1 k, fun k => h.h5 ?_⟩
  obtain ⟨k1, k2⟩ := k
  have e1 := frac_cross ex ey x
  have e2 := frac_cross ex ey y
  have e3 := frac_cross2 ex ey x y
  unfold opp at *
  have hl : 0 < l := by
    rcases Int.lt_or_eq_of_le l0 with g | g
    · exact g
    · exfalso
      rw [← g, Int.zero_mul] at e1
      rcases Int.mul_eq_zero.mp e1 with f | f <;> omega
  constructor
  · rcases k1 with ⟨u, v⟩ | ⟨u, v⟩
    · have := pp hL u; have := pn hL v
      exact Or.inl ⟨pos_of hl (by omega), neg_of hl (by omega)⟩
    · have := pn hL u; have := pp hL v
      exact Or.inr ⟨neg_of hl (by omega), pos_of hl (by omega)⟩
  · rcases k2 with ⟨u, v⟩ | ⟨u, v⟩
    · have := pn hL v
      have := zn (show 0 ≤ L - l by omega) (Int.le_of_lt u)
      exact Or.inl ⟨u, neg_of hl (by omega)⟩
    · have := pp hL v
      have := zp (show 0 ≤ L - l by omega) (Int.le_of_lt u)
      exact Or.inr ⟨u, pos_of hl (by omega)⟩
theorem Road.ng {p : Nat → V} {n : Nat} (h : Road p n) : Road (fun j => ng (p j)) n :=
  ⟨h.n3, fun j => by show Pick.ng _ = Pick.ng _; rw [h.per], fun i => (h.bend i).ng, fun i j h1 h2 => (h.far i j h1 h2).ng⟩
def Wn (p : Nat → V) (n : Nat) (q : V) : Int := W (fun j => ng (p j)) n (ng q)
theorem su_zero {f : Nat → Int} : ∀ k, (∀ t, t < k → f t = 0) → su f k = 0
  | 0, _ => rfl
  | k + 1, h => by unfold su; rw [su_zero k (fun t ht => h t (by omega)), h k (by omega)]; rfl
theorem W_top {p : Nat → V} {n : Nat} {q : V} (h : ∀ j, (p j).y ≤ q.y) : W p n q = 0 := by
  unfold W
  refine su_zero n (fun t _ => ?_)
  have h1 := h t
  have h2 := h (t + 1)
  unfold cr
  rw [if_neg (by omega), if_neg (by omega)]
theorem per_mod {p : Nat → V} {n : Nat} (h : ∀ j, p (j + n) = p j) : ∀ k j, p (j + n * k) = p j
  | 0, j => by simp
  | k + 1, j => by rw [Nat.mul_succ, ← Nat.add_assoc, h, per_mod h k j]
theorem top_ex {p : Nat → V} {n : Nat} (hn : 0 < n) (h : ∀ j, p (j + n) = p j) : ∃ i, ∀ j, (p j).y ≤ (p (i + 1)).y := by
  have fin : ∀ k, 0 < k → ∃ i, i < k ∧ ∀ j, j < k → (p j).y ≤ (p i).y := by
    intro k hk
    induction k with
    | zero => omega
    | succ k ih =>
      rcases Nat.eq_zero_or_pos k with z | z
      · subst z; exact ⟨0, by omega, fun j hj => by obtain rfl : j = 0 := by omega
                                                    exact Int.le_refl _⟩
      · obtain ⟨i, hi, hm⟩ := ih z
        by_cases c : (p i).y ≤ (p k).y
        · exact ⟨k, by omega, fun j hj => by
            by_cases e : j = k
            · subst e; exact Int.le_refl _
            · exact Int.le_trans (hm j (by omega)) c⟩
        · exact ⟨i, by omega, fun j hj => by
            by_cases e : j = k
            · subst e; omega
            · exact hm j (by omega)⟩
  obtain ⟨i, hi, hm⟩ := fin n hn
  refine ⟨i + n - 1, fun j => ?_⟩
  rw [show i + n - 1 + 1 = i + n by omega, h]
  have := hm (j % n) (Nat.mod_lt _ hn)
  have e := per_mod h (j / n) (j % n)
  rw [show j % n + n * (j / n) = j from Nat.mod_add_div j n] at e
  rw [e]; exact this
theorem R_01 {p : Nat → V} {n : Nat} (h : Road p n) : R p n = 0 ∨ R p n = -1 := by
  obtain ⟨i, hi⟩ := top_ex (by have := h.n3; omega) h.per
  have h1 := W_corner h i
  rw [W_top hi] at h1
  have h2 := wedge_01 (h.bend i)
  omega
theorem W_both {p : Nat → V} {n : Nat} (h : Road p n) (i : Nat) (off : ∀ j, i + 2 ≤ j → j + 1 ≤ i + n → ¬ on (p j) (p (j + 1)) (p (i + 1))) : W p n (p (i + 1)) - Wn p n (p (i + 1)) = th (p (i + 1)) (p i) - th (p (i + 1)) (p (i + 2)) := by
  obtain ⟨m, rfl⟩ : ∃ m, n = m + 3 := ⟨n - 3, by have := h.n3; omega⟩
  unfold Wn
  rw [W_turn h.per (p (i + 1)) i, W_turn h.ng.per (ng (p (i + 1))) i, su_sub, su_front, su_front]
  have far : su (fun t => (fun t => (fun t => cr (p (i + t)) (p (i + t + 1)) (p (i + 1)) - cr (ng (p (i + t))) (ng (p (i + t + 1))) (ng (p (i + 1)))) (t + 1)) (t + 1)) (m + 1) = th (p (i + 1)) (p i) - th (p (i + 1)) (p (i + 2)) := by
    have e := su_tele (fun t => - th (p (i + 1)) (p (i + 2 + t))) (m + 1)
    have e2 : p (i + 2 + (m + 1)) = p i := by rw [show i + 2 + (m + 1) = i + (m + 3) by omega]; exact h.per i
    simp only [e2, Nat.add_zero] at e
    have e3 : th (p (i + 1)) (p i) - th (p (i + 1)) (p (i + 2)) = - th (p (i + 1)) (p (i + 2)) - - th (p (i + 1)) (p i) := by omega
    rw [e3, ← e]
    refine su_congr (m + 1) (fun t ht => ?_)
    have := cr_both (off (i + 2 + t) (by omega) (by omega))
    show cr (p (i + (t + 1 + 1))) (p (i + (t + 1 + 1) + 1)) (p (i + 1)) - cr (ng (p (i + (t + 1 + 1)))) (ng (p (i + (t + 1 + 1) + 1))) (ng (p (i + 1))) = _
    rw [show i + (t + 1 + 1) = i + 2 + t by omega, show i + 2 + (t + 1) = i + 2 + t + 1 by omega]
    omega
  have g0 := (cr_ends (p i) (p (i + 1))).2
  have g1 := (cr_ends (p (i + 1)) (p (i + 2))).1
  have k0 := (cr_ends (ng (p i)) (ng (p (i + 1)))).2
  have k1 := (cr_ends (ng (p (i + 1))) (ng (p (i + 2)))).1
  rw [far]
  simp only [Nat.add_zero, Nat.zero_add]
  rw [show i + 1 + 1 = i + 2 by omega]
  omega
theorem Road.off {p : Nat → V} {n : Nat} (h : Road p n) (i : Nat) : ∀ j, i + 2 ≤ j → j + 1 ≤ i + n → ¬ on (p j) (p (j + 1)) (p (i + 1)) := by
  intro j h1 h2 k
  by_cases c : j = i + 2
  · subst c
    exact (h.bend (i + 1)).h2 k
  · exact (h.far (i + 1) j (by omega) (by omega)).h3 k
theorem R_both {p : Nat → V} {n : Nat} (h : Road p n) : R (fun j => ng (p j)) n = R p n := by
  have h1 := W_both h 0 (h.off 0)
  have h2 := W_corner h 0
  have h3 := W_corner h.ng 0
  have h4 := wedge_both (h.bend 0)
  simp only [Nat.zero_add] at h1 h2 h3 h4
  unfold Wn at h1
  omega
theorem Wn_corner {p : Nat → V} {n : Nat} (h : Road p n) (i : Nat) : Wn p n (p (i + 1)) = R p n + wedge (ng (p i)) (ng (p (i + 1))) (ng (p (i + 2))) := by
  have := W_corner h.ng i
  rw [R_both h] at this
  exact this
theorem cross_zero_swap {a b c : V} (h : cross a b c = 0) : cross a c b = 0 := by
  have : cross a c b = - cross a b c := by unfold cross; grind
  omega
theorem el_part {b c q : V} (hne : b ≠ c) (h : on b c q) (hq : q ≠ b) : el b q = el b c := by
  obtain ⟨L, l, hL, l0, l1, ex, ey⟩ := on_frac hne h
  have hl : 0 < l := by
    rcases Int.lt_or_eq_of_le l0 with g | g
    · exact g
    · exact absurd (frac_zero hL ex ey g.symm) hq
  have s : ∀ {u v : Int}, L * u = l * v → (0 < u ↔ 0 < v) ∧ (u < 0 ↔ v < 0) := by
    intro u v e
    refine ⟨⟨fun k => ?_, fun k => ?_⟩, ⟨fun k => ?_, fun k => ?_⟩⟩
    · have := pp hL k; exact pos_of hl (by omega)
    · have := pp hl k; exact pos_of hL (by omega)
    · have := pn hL k; exact neg_of hl (by omega)
    · have := pn hl k; exact neg_of hL (by omega)
  have sx := s ex
  have sy := s ey
  unfold el
  by_cases g : c.y < b.y ∨ (c.y = b.y ∧ b.x < c.x)
  · rw [if_pos g, if_pos (by omega)]
  · rw [if_neg g, if_neg (by omega)]
theorem Bend.part {a b c q : V} (h : Bend a b c) (hq : on b c q) (hqb : q ≠ b) : Bend a b q := by
  obtain ⟨L, l, hL, l0, l1, ex, ey⟩ := on_frac h.bc hq
  have hl : 0 < l := by
    rcases Int.lt_or_eq_of_le l0 with g | g
    · exact g
    · exact absurd (frac_zero hL ex ey g.symm) hqb
  refine ⟨h.ab, fun e => hqb e.symm, fun k => ?_, fun k => h.h2 (on_trans hq k)⟩
  have e1 := frac_cross2 ex ey a b
  rw [k.1, Int.mul_zero, (cross_neg a b).2, Int.mul_zero, Int.zero_add] at e1
  have z : cross a b c = 0 := by rcases Int.mul_eq_zero.mp e1.symm with f | f <;> omega
  have e2 := el_straight h z
  have e3 := el_part h.bc hq hqb
  have e4 := el_part (b := b) (c := a) (fun e => h.ab e.symm) (on_swap k) hqb
  have e5 : el a b = 1 - el b a := by
    have n1 : a.y = b.y → a.x ≠ b.x := fun k g => h.ab (V.ext' g k)
    unfold el
    by_cases g : b.y < a.y ∨ (b.y = a.y ∧ a.x < b.x)
    · rw [if_pos g, if_neg (by omega)]; rfl
    · rw [if_neg g, if_pos (by omega)]; rfl
  have e6 : el b a = 0 ∨ el b a = 1 := by unfold el; split <;> omega
  omega
theorem wedge_part {a b c q : V} (h : Bend a b c) (hq : on b c q) (hqb : q ≠ b) : wedge a b q = wedge a b c := by
  obtain ⟨L, l, hL, l0, l1, ex, ey⟩ := on_frac h.bc hq
  have hl : 0 < l := by
    rcases Int.lt_or_eq_of_le l0 with g | g
    · exact g
    · exact absurd (frac_zero hL ex ey g.symm) hqb
  have e1 := frac_cross2 ex ey a b
  rw [(cross_neg a b).2, Int.mul_zero, Int.zero_add] at e1
  rw [wedge_form h, wedge_form (h.part hq hqb), el_part h.bc hq hqb]
  rcases Int.lt_trichotomy (cross a b c) 0 with k | k | k
  · have := pn hl k
    have k2 : cross a b q < 0 := neg_of hL (by omega)
    rw [if_neg (by omega : ¬ 0 < cross a b q), if_neg (by omega : ¬ 0 < cross a b c), if_pos k2, if_pos k]
  · rw [k, Int.mul_zero] at e1
    have k2 : cross a b q = 0 := by rcases Int.mul_eq_zero.mp e1 with f | f <;> omega
    rw [k, k2]
  · have := pp hl k
    have k2 : 0 < cross a b q := pos_of hL (by omega)
    rw [if_pos k2, if_pos k]
theorem Bend.apart {b c d q : V} (h : Bend b c d) (hq : on b c q) (hqb : q ≠ b) (hqc : q ≠ c) : Apart b q c d := by
  obtain ⟨L, l, hL, l0, l1, ex, ey⟩ := on_frac h.ab hq
  have hl : l ≠ L := fun k => hqc (frac_one hL ex ey k)
  refine ⟨fun k => hqc ?_, fun k => h.h1 (on_trans hq k), h.h2, fun k => ?_, fun k => ?_⟩
  · have a1 := hq.2; have a2 := k.2
    unfold btw at a1 a2
    exact V.ext' (by omega) (by omega)
  · have e1 := frac_cross2 ex ey c d
    rw [k.1, Int.mul_zero, (cross_neg c d).1, Int.mul_zero, Int.add_zero] at e1
    have z0 : cross c d b = 0 := by rcases Int.mul_eq_zero.mp e1.symm with f | f <;> omega
    have z : cross b c d = 0 := by have := cyc b c d; omega
    have e2 := el_straight h z
    have e3 := el_part (b := c) (c := b) (fun e => h.ab e.symm) (on_swap hq) hqc
    have e4 := el_part (b := c) (c := d) h.bc k hqc
    have e5 : el b c = 1 - el c b := by
      have n1 : b.y = c.y → b.x ≠ c.x := fun k g => h.ab (V.ext' g k)
      unfold el
      by_cases g : c.y < b.y ∨ (c.y = b.y ∧ b.x < c.x)
      · rw [if_pos g, if_neg (by omega)]; rfl
      · rw [if_neg g, if_pos (by omega)]; rfl
    have e6 : el c b = 0 ∨ el c b = 1 := by unfold el; split <;> omega
    omega
  · have z := cross_zero_swap hq.1
    unfold opp at k
    omega
theorem W_side {p : Nat → V} {n : Nat} (h : Road p n) (i : Nat) {q : V} (hq : on (p (i + 1)) (p (i + 2)) q) (hqb : q ≠ p (i + 1)) (hqc : q ≠ p (i + 2)) : W p n q = R p n + el (p (i + 1)) (p (i + 2)) := by
  have hc := W_corner h i
  obtain ⟨m, rfl⟩ : ∃ m, n = m + 3 := ⟨n - 3, by have := h.n3; omega⟩
  have hd : W p (m + 3) q - W p (m + 3) (p (i + 1)) = cr (p i) (p (i + 1)) q - sw (p (i + 1)) q (p i) := by
    rw [W_turn h.per q i, W_turn h.per (p (i + 1)) i, su_sub, su_front, su_front]
    have far : su (fun t => (fun t => (fun t => cr (p (i + t)) (p (i + t + 1)) q - cr (p (i + t)) (p (i + t + 1)) (p (i + 1))) (t + 1)) (t + 1)) (m + 1) = - sw (p (i + 1)) q (p i) := by
      have e := su_tele (fun t => sw (p (i + 1)) q (p (i + 2 + t))) (m + 1)
      have e2 : p (i + 2 + (m + 1)) = p i := by rw [show i + 2 + (m + 1) = i + (m + 3) by omega]; exact h.per i
      have e3 : sw (p (i + 1)) q (p (i + 2)) = 0 := by
        unfold sw; rw [cross_zero_swap hq.1]; rw [if_neg (by omega), if_neg (by omega)]
      simp only [e2, Nat.add_zero, e3] at e
      rw [show - sw (p (i + 1)) q (p i) = 0 - sw (p (i + 1)) q (p i) by omega, ← e]
      refine su_congr (m + 1) (fun t ht => ?_)
      have ha : Apart (p (i + 1)) q (p (i + 2 + t)) (p (i + 2 + t + 1)) := by
        by_cases c : t = 0
        · subst c; exact (h.bend (i + 1)).apart hq hqb hqc
        · exact (h.far (i + 1) (i + 2 + t) (by omega) (by omega)).sub (h.bend (i + 1)).ab (h.bend (i + 2 + t)).ab hq
      have := inv_any ha
      show cr (p (i + (t + 1 + 1))) (p (i + (t + 1 + 1) + 1)) q - cr (p (i + (t + 1 + 1))) (p (i + (t + 1 + 1) + 1)) (p (i + 1)) = _
      rw [show i + (t + 1 + 1) = i + 2 + t by omega, show i + 2 + (t + 1) = i + 2 + t + 1 by omega]
      exact this
    have g0 := (cr_ends (p i) (p (i + 1))).2
    have g1 := (cr_ends (p (i + 1)) (p (i + 2))).1
    have g2 : cr (p (i + 1)) (p (i + 2)) q = 0 := by unfold cr; rw [hq.1]; rw [if_neg (by omega), if_neg (by omega)]
    rw [far]
    simp only [Nat.add_zero, Nat.zero_add]
    rw [show i + 1 + 1 = i + 2 by omega]
    omega
  have w1 : wedge (p i) (p (i + 1)) q = sw (p (i + 1)) q (p i) - cr (p i) (p (i + 1)) q + el (p (i + 1)) q := rfl
  have w2 := wedge_part (h.bend i) hq hqb
  have w3 : el (p (i + 1)) q = el (p (i + 1)) (p (i + 2)) := el_part (h.bend (i + 1)).ab hq hqb
  omega
def Off (p : Nat → V) (q : V) : Prop := ∀ j, ¬ on (p j) (p (j + 1)) q
theorem su_add (f g : Nat → Int) : ∀ k, su (fun t => f t + g t) k = su f k + su g k
  | 0 => rfl
  | k + 1 => by have := su_add f g k; unfold su; omega
theorem W_off {p : Nat → V} {n : Nat} (h : Road p n) {q : V} (hq : Off p q) : W p n q = Wn p n q := by
  have e : W p n q - Wn p n q = 0 := by
    unfold Wn W
    rw [su_sub]
    have e := su_tele (fun t => - th q (p t)) n
    have e2 : p n = p 0 := by have := h.per 0; rw [Nat.zero_add] at this; exact this
    simp only [e2] at e
    rw [Int.sub_self] at e
    rw [← e]
    refine su_congr n (fun t _ => ?_)
    have := cr_both (hq t)
    show cr (p t) (p (t + 1)) q - cr (ng (p t)) (ng (p (t + 1))) (ng q) = _
    omega
  omega
theorem level_open {b c q x : V} (hne : b.y ≠ c.y) (hx : on b c x) (hxb : x ≠ b) (hxc : x ≠ c) (hy : q.y = x.y) (hlt : q.x < x.x) : cr b c q = 1 - 2 * el b c := by
  obtain ⟨L, l, hL, l0, l1, ex, ey⟩ := on_frac (fun e => hne (by rw [e])) hx
  have hl : 0 < l := by
    rcases Int.lt_or_eq_of_le l0 with g | g
    · exact g
    · exact absurd (frac_zero hL ex ey g.symm) hxb
  have hl2 : l < L := by
    rcases Int.lt_or_eq_of_le l1 with g | g
    · exact g
    · exact absurd (frac_one hL ex ey g) hxc
  have k1 : cross b c q = (c.y - b.y) * (x.x - q.x) := by
    have := hx.1
    have e : cross b c q - cross b c x = (c.y - b.y) * (x.x - q.x) := by unfold cross; rw [hy]; grind
    omega
  have ey2 : L * (c.y - x.y) = (L - l) * (c.y - b.y) := by
    have : L * (c.y - x.y) = L * (c.y - b.y) - L * (x.y - b.y) := by rw [← Int.mul_sub]; congr 1; omega
    rw [this, ey, ← Int.sub_mul]
  unfold cr el
  rcases Int.lt_or_gt_of_ne hne with g | g
  · have a1 := pp hl (show 0 < c.y - b.y by omega)
    have a2 : 0 < x.y - b.y := pos_of hL (by omega)
    have a3 := pp (show 0 < L - l by omega) (show 0 < c.y - b.y by omega)
    have a4 : 0 < c.y - x.y := pos_of hL (by omega)
    have a5 := pp (show 0 < c.y - b.y by omega) (show 0 < x.x - q.x by omega)
    rw [if_pos ⟨by omega, by omega, by omega⟩, if_neg (by omega)]; rfl
  · have a1 := pn hl (show c.y - b.y < 0 by omega)
    have a2 : x.y - b.y < 0 := neg_of hL (by omega)
    have a3 := pn (show 0 < L - l by omega) (show c.y - b.y < 0 by omega)
    have a4 : c.y - x.y < 0 := neg_of hL (by omega)
    have a5 := np (show c.y - b.y < 0 by omega) (show 0 < x.x - q.x by omega)
    rw [if_neg (by omega), if_pos ⟨by omega, by omega, by omega⟩, if_pos (by omega)]; rfl
theorem level_end {b c q : V} (hy : q.y = b.y) (hlt : q.x < b.x) (off : ¬ on b c q) : cr b c q = if b.y < c.y then 1 else 0 := by
  have k1 : cross b c q = (c.y - b.y) * (b.x - q.x) := by unfold cross; rw [hy]; grind
  unfold cr
  by_cases g : b.y < c.y
  · have a5 := pp (show 0 < c.y - b.y by omega) (show 0 < b.x - q.x by omega)
    rw [if_pos ⟨by omega, by omega, by omega⟩, if_pos g]
  · rw [if_neg (by omega), if_neg (by omega), if_neg g]
theorem level_end2 {a b q : V} (hy : q.y = b.y) (hlt : q.x < b.x) (off : ¬ on a b q) : cr a b q = if b.y < a.y then -1 else 0 := by
  have h := level_end (b := b) (c := a) hy hlt (fun k => off (on_swap k))
  rw [cr_swap a b q] at h
  by_cases g : b.y < a.y
  · rw [if_pos g] at *; omega
  · rw [if_neg g] at *; omega
theorem corner_count {a b c q : V} (h : Bend a b c) (hy : q.y = b.y) (hlt : q.x < b.x) (o1 : ¬ on a b q) (o2 : ¬ on b c q) (la : a.y = b.y → b.x < a.x) (lc : c.y = b.y → b.x < c.x) :
    wedge a b c + cr a b q + cr b c q = 0 ∨ wedge a b c + cr a b q + cr b c q = 1 := by
  rw [level_end hy hlt o2, level_end2 hy hlt o1]
  have w := wedge_01 h
  have f := wedge_form h
  have ec : el b c = if b.y < c.y then 0 else 1 := by
    unfold el
    by_cases g : b.y < c.y
    · rw [if_pos g, if_neg (by omega)]
    · rw [if_neg g, if_pos (by omega)]
  have ea : el b a = if b.y < a.y then 0 else 1 := by
    unfold el
    by_cases g : b.y < a.y
    · rw [if_pos g, if_neg (by omega)]
    · rw [if_neg g, if_pos (by omega)]
  rw [ec, ea] at f
  by_cases g1 : b.y < c.y <;> by_cases g2 : b.y < a.y
  · rw [if_pos g1, if_pos g2]; omega
  · rw [if_pos g1, if_neg g2] at *
    simp at f
    omega
  · rw [if_neg g1, if_pos g2] at *
    simp at f
    omega
  · rw [if_neg g1, if_neg g2]; omega
theorem least {P : Nat → Prop} (h : ∃ d, P d) : ∃ d, P d ∧ ∀ e, e < d → ¬ P e := by
  obtain ⟨d, hd⟩ := h
  induction d using Nat.strongRecOn with
  | _ d ih =>
    by_cases c : ∃ e, e < d ∧ P e
    · obtain ⟨e, he, hp⟩ := c
      exact ih e he hp
    · exact ⟨d, hd, fun e he hp => c ⟨e, he, hp⟩⟩
theorem Bend.back {a b c : V} (h : Bend a b c) : Bend c b a := ⟨fun e => h.bc e.symm, fun e => h.ab e.symm, fun k => h.h2 (on_swap k), fun k => h.h1 (on_swap k)⟩
theorem Bend.not_next {b c d q : V} (h : Bend b c d) (hq : on b c q) (hqb : q ≠ b) (hqc : q ≠ c) : ¬ on c d q := (h.apart hq hqb hqc).h4
theorem Bend.not_prev {a b c q : V} (h : Bend a b c) (hq : on b c q) (hqb : q ≠ b) (hqc : q ≠ c) : ¬ on a b q := fun k => h.back.not_next (on_swap hq) hqc hqb (on_swap k)
theorem level_cross {a b q x : V} (hx : on a b x) (hy : q.y = x.y) : cross a b q = (b.y - a.y) * (x.x - q.x) := by
  have := hx.1
  have e : cross a b q - cross a b x = (b.y - a.y) * (x.x - q.x) := by unfold cross; rw [hy]; grind
  omega
def Whole (p : Nat → V) (q : V) : Prop := ∀ j, (p j).y ≠ (p (j + 1)).y → btw (p j).y (p (j + 1)).y q.y → ∃ x : V, x.y = q.y ∧ on (p j) (p (j + 1)) x
theorem near_apart {p : Nat → V} {q x : V} (Z : Whole p q) (hq : Off p q) (hy : x.y = q.y) (hlt : q.x < x.x) (near : ∀ z : V, z.y = q.y → q.x < z.x → z.x < x.x → Off p z) (j : Nat) (hj : ¬ on (p j) (p (j + 1)) x) : Apart q x (p j) (p (j + 1)) := by
  have ends : ∀ z : V, on (p j) (p (j + 1)) z → ¬ on q x z := by
    intro z hz k
    have k2 := k.2
    unfold btw at k2
    have zy : z.y = q.y := by omega
    have z1 : z ≠ q := fun e => hq j (e ▸ hz)
    have z2 : z ≠ x := fun e => hj (e ▸ hz)
    have z3 : z.x ≠ q.x := fun e => z1 (V.ext' e zy)
    have z4 : z.x ≠ x.x := fun e => z2 (V.ext' e (by omega))
    exact near z zy (by omega) (by omega) j hz
  have ea : on (p j) (p (j + 1)) (p j) := ⟨(cross_neg _ _).1, Or.elim (Int.le_total (p j).x (p (j + 1)).x) (fun h => Or.inl ⟨Int.le_refl _, h⟩) (fun h => Or.inr ⟨h, Int.le_refl _⟩), Or.elim (Int.le_total (p j).y (p (j + 1)).y) (fun h => Or.inl ⟨Int.le_refl _, h⟩) (fun h => Or.inr ⟨h, Int.le_refl _⟩)⟩
  have eb : on (p j) (p (j + 1)) (p (j + 1)) := ⟨(cross_neg _ _).2, Or.elim (Int.le_total (p j).x (p (j + 1)).x) (fun h => Or.inl ⟨h, Int.le_refl _⟩) (fun h => Or.inr ⟨Int.le_refl _, h⟩), Or.elim (Int.le_total (p j).y (p (j + 1)).y) (fun h => Or.inl ⟨h, Int.le_refl _⟩) (fun h => Or.inr ⟨Int.le_refl _, h⟩)⟩
  refine ⟨ends _ ea, ends _ eb, hq j, hj, fun k => ?_⟩
  obtain ⟨k1, k2⟩ := k
  have c1 : ∀ z : V, cross q x z = (x.x - q.x) * (z.y - q.y) := fun z => by unfold cross; rw [hy]; grind
  rw [c1, c1] at k1
  have hd : 0 < x.x - q.x := by omega
  have s1 : ((p j).y < q.y ∧ q.y < (p (j + 1)).y) ∨ ((p (j + 1)).y < q.y ∧ q.y < (p j).y) := by
    unfold opp at k1
    rcases k1 with ⟨u, v⟩ | ⟨u, v⟩
    · have := pos_of hd u; have := neg_of hd v; omega
    · have := neg_of hd u; have := pos_of hd v; omega
  obtain ⟨z, zy, hz⟩ := Z j (by omega) (by unfold btw; omega)
  have e1 := level_cross hz (q := q) (by omega)
  have e2 := level_cross hz (q := x) (by omega)
  rw [e1, e2] at k2
  have zin : q.x < z.x ∧ z.x < x.x := by
    unfold opp at k2
    rcases s1 with s | s
    · have hb : 0 < (p (j + 1)).y - (p j).y := by omega
      rcases k2 with ⟨u, v⟩ | ⟨u, v⟩
      · have := pos_of hb u; have := neg_of hb v; omega
      · have := neg_of hb u; have := pos_of hb v; omega
    · have hb : 0 < (p j).y - (p (j + 1)).y := by omega
      have t : ∀ w : Int, ((p (j + 1)).y - (p j).y) * w = - (((p j).y - (p (j + 1)).y) * w) := fun w => by rw [← Int.neg_mul]; congr 1; omega
      rw [t, t] at k2
      rcases k2 with ⟨u, v⟩ | ⟨u, v⟩
      · have := neg_of hb (show ((p j).y - (p (j + 1)).y) * (z.x - q.x) < 0 by omega); have := pos_of hb (show 0 < ((p j).y - (p (j + 1)).y) * (z.x - x.x) by omega); omega
      · have := pos_of hb (show 0 < ((p j).y - (p (j + 1)).y) * (z.x - q.x) by omega); have := neg_of hb (show ((p j).y - (p (j + 1)).y) * (z.x - x.x) < 0 by omega); omega
  exact near z zy zin.1 zin.2 j hz
theorem cr_far {a b q z : V} (hz : on a b z) (hy : z.y = q.y) (hl : z.x ≤ q.x) : cr a b q = 0 := by
  have e := level_cross hz (q := q) (by omega)
  unfold cr
  rcases Int.lt_trichotomy a.y b.y with k | k | k
  · have := zp (show 0 ≤ b.y - a.y by omega) (show z.x - q.x ≤ 0 by omega)
    rw [if_neg (by omega), if_neg (by omega)]
  · rw [if_neg (by omega), if_neg (by omega)]
  · have := zz (show b.y - a.y ≤ 0 by omega) (show z.x - q.x ≤ 0 by omega)
    rw [if_neg (by omega), if_neg (by omega)]
theorem cr_band {a b q : V} (h : cr a b q ≠ 0) : a.y ≠ b.y ∧ btw a.y b.y q.y := by
  unfold cr at h
  unfold btw
  by_cases c : a.y ≤ q.y ∧ q.y < b.y ∧ 0 < cross a b q
  · omega
  · rw [if_neg c] at h
    by_cases d : b.y ≤ q.y ∧ q.y < a.y ∧ cross a b q < 0
    · omega
    · rw [if_neg d] at h; exact absurd rfl h
theorem on_l (a b : V) : on a b a := ⟨(cross_neg _ _).1, Or.elim (Int.le_total a.x b.x) (fun h => Or.inl ⟨Int.le_refl _, h⟩) (fun h => Or.inr ⟨h, Int.le_refl _⟩), Or.elim (Int.le_total a.y b.y) (fun h => Or.inl ⟨Int.le_refl _, h⟩) (fun h => Or.inr ⟨h, Int.le_refl _⟩)⟩
theorem on_r (a b : V) : on a b b := on_swap (on_l b a)
theorem level_on {a b q : V} (h1 : a.y = b.y) (h2 : q.y = a.y) (h3 : btw a.x b.x q.x) : on a b q := ⟨by unfold cross; rw [h2, h1]; grind, h3, Or.inl ⟨by omega, by omega⟩⟩
theorem W_level {p : Nat → V} {n : Nat} (h : Road p n) {q : V} (Z : Whole p q) (hq : Off p q) : W p n q = R p n ∨ W p n q = R p n + 1 := by
  by_cases c : ∃ d : Nat, 0 < d ∧ ¬ Off p ⟨q.x + d, q.y⟩
  · obtain ⟨d, ⟨d0, hd⟩, hmin⟩ := least c
    obtain ⟨x, hx⟩ : ∃ x : V, x = ⟨q.x + d, q.y⟩ := ⟨_, rfl⟩
    rw [← hx] at hd
    have hy : x.y = q.y := by rw [hx]
    have hlt : q.x < x.x := by rw [hx]; show q.x < q.x + d; omega
    have near : ∀ z : V, z.y = q.y → q.x < z.x → z.x < x.x → Off p z := by
      intro z zy z1 z2
      rw [hx] at z2
      have z2' : z.x < q.x + d := z2
      have e : z = ⟨q.x + (z.x - q.x).toNat, q.y⟩ := V.ext' (by show z.x = q.x + ((z.x - q.x).toNat : Int); omega) zy
      have := hmin (z.x - q.x).toNat (by omega)
      rw [e]
      exact Classical.byContradiction fun k => this ⟨by omega, k⟩
    have same : ∀ j, ¬ on (p j) (p (j + 1)) x → cr (p j) (p (j + 1)) q - cr (p j) (p (j + 1)) x = 0 := by
      intro j hj
      have := inv_flat (by omega) (near_apart Z hq hy hlt near j hj)
      omega
    have corner : ∀ i, x = p (i + 1) → W p n q = R p n ∨ W p n q = R p n + 1 := by
      intro i hi
      obtain ⟨m, rfl⟩ : ∃ m, n = m + 3 := ⟨n - 3, by have := h.n3; omega⟩
      have e : W p (m + 3) q - W p (m + 3) x = cr (p i) (p (i + 1)) q + cr (p (i + 1)) (p (i + 2)) q := by
        rw [W_turn h.per q i, W_turn h.per x i, su_sub, su_front, su_front]
        rw [su_zero (m + 1) (fun t ht => by
          have := same (i + 2 + t) (by rw [hi]; exact h.off i (i + 2 + t) (by omega) (by omega))
          show cr (p (i + (t + 1 + 1))) (p (i + (t + 1 + 1) + 1)) q - cr (p (i + (t + 1 + 1))) (p (i + (t + 1 + 1) + 1)) x = 0
          rw [show i + (t + 1 + 1) = i + 2 + t by omega]
          exact this)]
        have g0 := (cr_ends (p i) (p (i + 1))).2
        have g1 := (cr_ends (p (i + 1)) (p (i + 2))).1
        rw [hi]
        simp only [Nat.add_zero, Nat.zero_add]
        rw [show i + 1 + 1 = i + 2 by omega]
        omega
      have hc := W_corner h i
      rw [hi] at e hy hlt
      have k := corner_count (h.bend i) (q := q) (by omega) hlt (hq i) (hq (i + 1)) (fun la => ?_) (fun lc => ?_)
      · omega
      · rcases Int.lt_trichotomy (p i).x (p (i + 1)).x with g | g | g
        · exfalso
          by_cases f : (p i).x ≤ q.x
          · exact hq i (level_on la (by omega) (Or.inl ⟨f, by omega⟩))
          · exact near (p i) (by omega) (by omega) (by rw [hi]; exact g) i (on_l _ _)
        · exact absurd (V.ext' g la) (h.bend i).ab
        · exact g
      · rcases Int.lt_trichotomy (p (i + 2)).x (p (i + 1)).x with g | g | g
        · exfalso
          by_cases f : (p (i + 2)).x ≤ q.x
          · exact hq (i + 1) (level_on lc.symm (by omega) (Or.inr ⟨f, by omega⟩))
          · exact near (p (i + 2)) (by omega) (by omega) (by rw [hi]; exact g) (i + 1) (on_r _ _)
        · exact absurd (V.ext' g.symm lc.symm) (h.bend i).bc
        · exact g
    obtain ⟨j, hj⟩ : ∃ j, on (p j) (p (j + 1)) x := Classical.byContradiction fun k => hd (fun j hj => k ⟨j, hj⟩)
    have n3 := h.n3
    obtain ⟨i, hi⟩ : ∃ i, i + 1 = j + n := ⟨j + n - 1, by omega⟩
    have p1 : p (i + 1) = p j := by rw [hi]; exact h.per j
    have p2 : p (i + 2) = p (j + 1) := by rw [show i + 2 = j + n + 1 by omega]; exact per1 h.per j
    rw [← p1, ← p2] at hj
    by_cases x1 : x = p (i + 1)
    · exact corner i x1
    by_cases x2 : x = p (i + 2)
    · exact corner (i + 1) x2
    have hs := W_side h i hj x1 x2
    have ne : (p (i + 1)).y ≠ (p (i + 2)).y := by
      intro k
      have b1 := hj.2.1
      have b2 := hj.2.2
      have n1 : x.x ≠ (p (i + 1)).x := fun e => x1 (V.ext' e (by unfold btw at b2; omega))
      have n2 : x.x ≠ (p (i + 2)).x := fun e => x2 (V.ext' e (by unfold btw at b2; omega))
      unfold btw at b1 b2
      rcases b1 with ⟨u, v⟩ | ⟨u, v⟩
      · by_cases f : (p (i + 1)).x ≤ q.x
        · exact hq (i + 1) (level_on k (by omega) (Or.inl ⟨f, by show q.x ≤ (p (i + 2)).x; omega⟩))
        · exact near (p (i + 1)) (by omega) (by omega) (by omega) (i + 1) (on_l _ _)
      · by_cases f : (p (i + 2)).x ≤ q.x
        · exact hq (i + 1) (level_on k (by omega) (Or.inr ⟨f, by show q.x ≤ (p (i + 1)).x; omega⟩))
        · exact near (p (i + 2)) (by omega) (by omega) (by omega) (i + 1) (on_r _ _)
    have lo := level_open ne hj x1 x2 (by omega) hlt
    have e01 : el (p (i + 1)) (p (i + 2)) = 0 ∨ el (p (i + 1)) (p (i + 2)) = 1 := by unfold el; split <;> omega
    have e : W p n q - W p n x = cr (p (i + 1)) (p (i + 2)) q := by
      obtain ⟨m, rfl⟩ : ∃ m, n = m + 1 := ⟨n - 1, by omega⟩
      rw [W_turn h.per q (i + 1), W_turn h.per x (i + 1), su_sub, su_front]
      rw [su_zero m (fun t ht => by
        have := same (i + 2 + t) (by
          by_cases t0 : t = 0
          · subst t0; exact (h.bend (i + 1)).not_next hj x1 x2
          · by_cases t1 : i + 2 + t = i + (m + 1)
            · rw [t1, h.per i, per1 h.per i]; exact (h.bend i).not_prev hj x1 x2
            · exact fun k => (h.far (i + 1) (i + 2 + t) (by omega) (by omega)).none (h.bend (i + 1)).ab (h.bend (i + 2 + t)).ab hj k)
        show cr (p (i + 1 + (t + 1))) (p (i + 1 + (t + 1) + 1)) q - cr (p (i + 1 + (t + 1))) (p (i + 1 + (t + 1) + 1)) x = 0
        rw [show i + 1 + (t + 1) = i + 2 + t by omega]
        exact this)]
      have g2 : cr (p (i + 1)) (p (i + 2)) x = 0 := by unfold cr; rw [hj.1]; rw [if_neg (by omega), if_neg (by omega)]
      simp only [Nat.add_zero]
      rw [show i + 1 + 1 = i + 2 by omega]
      omega
    omega
  · have z : W p n q = 0 := by
      unfold W
      refine su_zero n (fun t _ => ?_)
      by_cases k : cr (p t) (p (t + 1)) q = 0
      · exact k
      · obtain ⟨k1, k2⟩ := cr_band k
        obtain ⟨z, zy, hz⟩ := Z t k1 k2
        by_cases g : z.x ≤ q.x
        · exact cr_far hz zy g
        · exfalso
          refine c ⟨(z.x - q.x).toNat, by omega, fun o => ?_⟩
          have e : z = ⟨q.x + (z.x - q.x).toNat, q.y⟩ := V.ext' (by show z.x = q.x + ((z.x - q.x).toNat : Int); omega) zy
          rw [← e] at o
          exact o t hz
    have := R_01 h
    omega
def sc (D : Int) (a : V) : V := ⟨D * a.x, D * a.y⟩
theorem cross_sc (D : Int) (a b c : V) : cross (sc D a) (sc D b) (sc D c) = D * D * cross a b c := by unfold cross sc; grind
theorem lt_sc {D : Int} (h : 0 < D) (u v : Int) : D * u < D * v ↔ u < v := ⟨fun k => by
  rcases lt_ge u v with f | f
  · exact f
  · have := Int.mul_le_mul_of_nonneg_left f (Int.le_of_lt h); omega, fun k => Int.mul_lt_mul_of_pos_left k h⟩
theorem le_sc {D : Int} (h : 0 < D) (u v : Int) : D * u ≤ D * v ↔ u ≤ v := by
  have := lt_sc h v u
  omega
theorem pos_sc {D : Int} (h : 0 < D) (c : Int) : 0 < D * D * c ↔ 0 < c := ⟨fun k => pos_of (pp h h) k, fun k => pp (pp h h) k⟩
theorem neg_sc {D : Int} (h : 0 < D) (c : Int) : D * D * c < 0 ↔ c < 0 := ⟨fun k => neg_of (pp h h) k, fun k => pn (pp h h) k⟩
theorem zero_sc {D : Int} (h : 0 < D) (c : Int) : D * D * c = 0 ↔ c = 0 := by
  have := pos_sc h c; have := neg_sc h c; omega
theorem cr_sc {D : Int} (h : 0 < D) (a b q : V) : cr (sc D a) (sc D b) (sc D q) = cr a b q := by
  unfold cr
  rw [cross_sc]
  have e : ∀ u v : V, (sc D u).y ≤ (sc D v).y ↔ u.y ≤ v.y := fun u v => le_sc h _ _
  have e2 : ∀ u v : V, (sc D u).y < (sc D v).y ↔ u.y < v.y := fun u v => lt_sc h _ _
  simp only [e, e2, pos_sc h, neg_sc h]
theorem sw_sc {D : Int} (h : 0 < D) (a b q : V) : sw (sc D a) (sc D b) (sc D q) = sw a b q := by
  unfold sw
  rw [cross_sc]
  have e : ∀ u v : V, (sc D u).y ≤ (sc D v).y ↔ u.y ≤ v.y := fun u v => le_sc h _ _
  have e2 : ∀ u v : V, (sc D u).y < (sc D v).y ↔ u.y < v.y := fun u v => lt_sc h _ _
  simp only [e, e2, pos_sc h, neg_sc h]
theorem eq_sc {D : Int} (h : 0 < D) (u v : Int) : D * u = D * v ↔ u = v := by
  have := le_sc h u v; have := le_sc h v u; omega
theorem el_sc {D : Int} (h : 0 < D) (b c : V) : el (sc D b) (sc D c) = el b c := by
  unfold el
  have e : ∀ u v : V, (sc D u).y = (sc D v).y ↔ u.y = v.y := fun u v => eq_sc h _ _
  have e2 : ∀ u v : V, (sc D u).y < (sc D v).y ↔ u.y < v.y := fun u v => lt_sc h _ _
  have e3 : ∀ u v : V, (sc D u).x < (sc D v).x ↔ u.x < v.x := fun u v => lt_sc h _ _
  simp only [e, e2, e3]
theorem wedge_sc {D : Int} (h : 0 < D) (a b c : V) : wedge (sc D a) (sc D b) (sc D c) = wedge a b c := by
  unfold wedge
  rw [sw_sc h, cr_sc h, el_sc h]
theorem on_sc {D : Int} (h : 0 < D) (a b q : V) : on (sc D a) (sc D b) (sc D q) ↔ on a b q := by
  unfold on btw
  rw [cross_sc, zero_sc h]
  have e : ∀ u v : V, (sc D u).y ≤ (sc D v).y ↔ u.y ≤ v.y := fun u v => le_sc h _ _
  have e3 : ∀ u v : V, (sc D u).x ≤ (sc D v).x ↔ u.x ≤ v.x := fun u v => le_sc h _ _
  simp only [e, e3]
theorem sc_inj {D : Int} (h : 0 < D) {a b : V} (k : sc D a = sc D b) : a = b := by
  unfold sc at k
  injection k with k1 k2
  exact V.ext' ((eq_sc h _ _).mp k1) ((eq_sc h _ _).mp k2)
theorem Road.sc {p : Nat → V} {n : Nat} (h : Road p n) {D : Int} (hD : 0 < D) : Road (fun j => sc D (p j)) n := by
  refine ⟨h.n3, fun j => by show Pick.sc D _ = Pick.sc D _; rw [h.per], fun i => ?_, fun i j h1 h2 => ?_⟩
  · have b := h.bend i
    exact ⟨fun e => b.ab (sc_inj hD e), fun e => b.bc (sc_inj hD e), fun e => b.h1 ((on_sc hD _ _ _).mp e), fun e => b.h2 ((on_sc hD _ _ _).mp e)⟩
  · have b := h.far i j h1 h2
    refine ⟨fun e => b.h1 ((on_sc hD _ _ _).mp e), fun e => b.h2 ((on_sc hD _ _ _).mp e), fun e => b.h3 ((on_sc hD _ _ _).mp e), fun e => b.h4 ((on_sc hD _ _ _).mp e), fun e => b.h5 ?_⟩
    unfold opp at *
    rw [cross_sc, cross_sc, cross_sc, cross_sc] at e
    simp only [pos_sc hD, neg_sc hD] at e
    exact e
theorem W_sc {D : Int} (h : 0 < D) (p : Nat → V) (n : Nat) (q : V) : W (fun j => sc D (p j)) n (sc D q) = W p n q := by
  unfold W
  exact su_congr n (fun t _ => cr_sc h _ _ _)
theorem R_sc {D : Int} (h : 0 < D) (p : Nat → V) (n : Nat) : R (fun j => sc D (p j)) n = R p n := by
  unfold R
  rw [W_sc h, wedge_sc h]
theorem heights (p : Nat → V) : ∀ n, ∃ D : Int, 0 < D ∧ ∀ j, j < n → (p j).y ≠ (p (j + 1)).y → ((p (j + 1)).y - (p j).y) ∣ D
  | 0 => ⟨1, by omega, fun j hj => by omega⟩
  | n + 1 => by
    obtain ⟨D, hD, hd⟩ := heights p n
    by_cases c : (p n).y = (p (n + 1)).y
    · refine ⟨D, hD, fun j hj hne => ?_⟩
      by_cases e : j = n
      · subst e; exact absurd c hne
      · exact hd j (by omega) hne
    · have hs : 0 < ((p (n + 1)).y - (p n).y) * ((p (n + 1)).y - (p n).y) := by
        rcases Int.lt_or_gt_of_ne c with k | k
        · exact pp (by omega) (by omega)
        · exact nn (by omega) (by omega)
      refine ⟨D * (((p (n + 1)).y - (p n).y) * ((p (n + 1)).y - (p n).y)), pp hD hs, fun j hj hne => ?_⟩
      by_cases e : j = n
      · subst e; exact Int.dvd_mul_of_dvd_right (Int.dvd_mul_right _ _)
      · exact Int.dvd_mul_of_dvd_left (hd j (by omega) hne)
theorem Road.mod {p : Nat → V} {n : Nat} (h : Road p n) (j : Nat) : p j = p (j % n) ∧ p (j + 1) = p (j % n + 1) := by
  have e := per_mod h.per (j / n) (j % n)
  have e2 := per_mod h.per (j / n) (j % n + 1)
  rw [show j % n + n * (j / n) = j from Nat.mod_add_div j n] at e
  rw [show j % n + 1 + n * (j / n) = j + 1 by have := Nat.mod_add_div j n; omega] at e2
  exact ⟨e, e2⟩
theorem W_jordan {p : Nat → V} {n : Nat} (h : Road p n) {q : V} (hq : Off p q) : W p n q = R p n ∨ W p n q = R p n + 1 := by
  obtain ⟨D, hD, hd⟩ := heights p n
  have hn : 0 < n := by have := h.n3; omega
  have Z : Whole (fun j => sc D (p j)) (sc D q) := by
    intro j hne hb
    obtain ⟨m1, m2⟩ := h.mod j
    have hne' : (p j).y ≠ (p (j + 1)).y := fun e => hne (by show D * (p j).y = D * (p (j + 1)).y; rw [e])
    have dv := hd (j % n) (Nat.mod_lt _ hn) (by rw [← m1, ← m2]; exact hne')
    rw [← m1, ← m2] at dv
    obtain ⟨k, hk⟩ := dv
    have ey : ∀ a b : V, D * (b.x - a.x) = D * b.x - D * a.x := fun a b => Int.mul_sub _ _ _
    have key : D * (q.y - (p j).y) = ((p (j + 1)).y - (p j).y) * (k * (q.y - (p j).y)) := by rw [← Int.mul_assoc, ← hk]
    refine ⟨⟨D * (p j).x + k * (q.y - (p j).y) * ((p (j + 1)).x - (p j).x), D * q.y⟩, rfl, ?_⟩
    have z : cross (sc D (p j)) (sc D (p (j + 1))) ⟨D * (p j).x + k * (q.y - (p j).y) * ((p (j + 1)).x - (p j).x), D * q.y⟩ = 0 := by
      have e : cross (sc D (p j)) (sc D (p (j + 1))) ⟨D * (p j).x + k * (q.y - (p j).y) * ((p (j + 1)).x - (p j).x), D * q.y⟩ = D * ((p (j + 1)).x - (p j).x) * (D * (q.y - (p j).y) - ((p (j + 1)).y - (p j).y) * (k * (q.y - (p j).y))) := by unfold cross sc; grind
      rw [e, key, Int.sub_self, Int.mul_zero]
    have hb' : btw (D * (p j).y) (D * (p (j + 1)).y) (D * q.y) := hb
    have hn' : D * (p j).y ≠ D * (p (j + 1)).y := hne
    unfold btw at hb'
    rcases Int.lt_or_gt_of_ne hn' with g | g
    · exact on_of z g (show D * (p j).y ≤ D * q.y by omega) (show D * q.y ≤ D * (p (j + 1)).y by omega)
    · exact on_swap (on_of (by rw [cross_swap, z]; rfl) g (show D * (p (j + 1)).y ≤ D * q.y by omega) (show D * q.y ≤ D * (p j).y by omega))
  have := W_level (h.sc hD) Z (fun j k => hq j ((on_sc hD _ _ _).mp k))
  rw [W_sc hD, R_sc hD] at this
  exact this
theorem sw_el {q r p : V} (h : ¬ on q r p) : sw q r p = el p q - el p r - cr q r p := by
  have t1 : q.y = p.y → cross q r p = (r.y - q.y) * (q.x - p.x) := fun k => by unfold cross; rw [← k]; grind
  have t2 : r.y = p.y → cross q r p = (r.y - q.y) * (r.x - p.x) := fun k => by unfold cross; rw [← k]; grind
  have F1 : ¬ (cross q r p = 0 ∧ q.y < r.y ∧ q.y ≤ p.y ∧ p.y ≤ r.y) := fun k => h (on_of k.1 k.2.1 k.2.2.1 k.2.2.2)
  have F2 : ¬ (cross q r p = 0 ∧ r.y < q.y ∧ r.y ≤ p.y ∧ p.y ≤ q.y) := fun k => h (on_swap (on_of (by rw [cross_swap, k.1]; rfl) k.2.1 k.2.2.1 k.2.2.2))
  have F3 : q.y = p.y → r.y = p.y → ¬ btw q.x r.x p.x := fun k1 k2 f => h ⟨by rw [t1 k1, show r.y - q.y = 0 by omega, Int.zero_mul], f, Or.inl ⟨by omega, by omega⟩⟩
  unfold btw at F3
  unfold sw cr el
  generalize cross q r p = X at *
  rcases Int.lt_trichotomy X 0 with x | x | x
  · rcases Int.lt_trichotomy q.y p.y with k1 | k1 | k1 <;> rcases Int.lt_trichotomy r.y p.y with k2 | k2 | k2
    all_goals (try (have g1 := (sg_mul (t1 k1)).2.1 x)) <;> (try (have g2 := (sg_mul (t2 k2)).2.1 x)) <;> (try omega) <;> (repeat (first | rw [if_pos (by omega)] | rw [if_neg (by omega)])) <;> omega
  · rcases Int.lt_trichotomy q.y p.y with k1 | k1 | k1 <;> rcases Int.lt_trichotomy r.y p.y with k2 | k2 | k2
    all_goals (try (have g1 := (sg_mul (t1 k1)).2.2 x)) <;> (try (have g2 := (sg_mul (t2 k2)).2.2 x)) <;> (try (have g3 := F3 k1 k2)) <;> (try omega) <;> (repeat (first | rw [if_pos (by omega)] | rw [if_neg (by omega)])) <;> first | omega | (split <;> split <;> omega)
  · rcases Int.lt_trichotomy q.y p.y with k1 | k1 | k1 <;> rcases Int.lt_trichotomy r.y p.y with k2 | k2 | k2
    all_goals (try (have g1 := (sg_mul (t1 k1)).1 x)) <;> (try (have g2 := (sg_mul (t2 k2)).1 x)) <;> (try omega) <;> (repeat (first | rw [if_pos (by omega)] | rw [if_neg (by omega)])) <;> omega
theorem Apart.flip {a b c d : V} (h : Apart a b c d) : Apart c d a b := ⟨h.h3, h.h4, h.h1, h.h2, fun k => h.h5 ⟨k.2, k.1⟩⟩
theorem el_anti {a b : V} (h : a ≠ b) : el a b = 1 - el b a := by
  have n1 : a.y = b.y → a.x ≠ b.x := fun k g => h (V.ext' g k)
  unfold el
  by_cases g : b.y < a.y ∨ (b.y = a.y ∧ a.x < b.x)
  · rw [if_pos g, if_neg (by omega)]; rfl
  · rw [if_neg g, if_pos (by omega)]; rfl
def tn (a b x : V) : Int := 2 * cr a b x + el a x - el b x
theorem cell {a b c d : V} (h : Apart a b c d) : tn a b c + tn c d b - tn a b d - tn c d a = 0 := by
  have e := inv_any h.flip
  have s1 := sw_el h.h3
  have s2 := sw_el h.h4
  have n1 := el_anti (a := a) (b := c) (fun k => h.h3 (by rw [k]; exact on_l _ _))
  have n2 := el_anti (a := b) (b := c) (fun k => h.h4 (by rw [k]; exact on_l _ _))
  have n3 := el_anti (a := a) (b := d) (fun k => h.h3 (by rw [k]; exact on_r _ _))
  have n4 := el_anti (a := b) (b := d) (fun k => h.h4 (by rw [k]; exact on_r _ _))
  unfold tn
  omega
theorem th_el (q p : V) : th q p = el p q := by unfold th el; split <;> split <;> omega
def tau (a b c : V) : Int := tn b c a + tn a b c
theorem tau_wedge {a b c : V} (h : Bend a b c) : tau a b c = 1 - wedge a b c - wedge (ng a) (ng b) (ng c) := by
  have e := wedge_both h
  have s := sw_el h.h2
  have w : wedge a b c = sw b c a - cr a b c + el b c := rfl
  have t1 := th_el b a
  have t2 := th_el b c
  have n1 := el_anti h.ab
  have n2 := el_anti h.bc
  have n3 := el_anti (a := a) (b := c) (fun k => h.h2 (by rw [k]; exact on_r _ _))
  unfold tau tn
  omega
theorem Road.ne {p : Nat → V} {n : Nat} (h : Road p n) (i : Nat) : ∀ j, i + 2 ≤ j → j + 1 ≤ i + n → p j ≠ p (i + 1) := fun j h1 h2 k => h.off i j h1 h2 (by rw [← k]; exact on_l _ _)
def hh (p : Nat → V) (i j : Nat) : Int := tn (p i) (p (i + 1)) (p j)
theorem hh_cell {p : Nat → V} {n : Nat} (h : Road p n) {i j : Nat} (h1 : i + 2 ≤ j) (h2 : j + 2 ≤ i + n) : hh p i j - hh p i (j + 1) = hh p j i - hh p j (i + 1) := by
  have := cell (h.far i j h1 h2)
  unfold hh
  omega
def ta (p : Nat → V) (i : Nat) : Int := tau (p i) (p (i + 1)) (p (i + 2))
theorem ta_hh (p : Nat → V) (i : Nat) : ta p i = hh p (i + 1) i + hh p i (i + 2) := rfl
theorem hopf {p : Nat → V} {n : Nat} (h : Road p n) : ∀ m, m + 2 ≤ n → su (ta p) m = su (fun j => hh p (j + 1) 0) m + su (fun i => hh p i (m + 1)) m
  | 0, _ => rfl
  | m + 1, hm => by
    have ih := hopf h m (by omega)
    have e1 : su (fun i => hh p i (m + 1) - hh p i (m + 1 + 1)) m = hh p (m + 1) 0 - hh p (m + 1) m := by
      rw [← su_tele (fun i => hh p (m + 1) i) m]
      exact su_congr m (fun i hi => hh_cell h (by omega) (by omega))
    have e2 := su_sub (fun i => hh p i (m + 1)) (fun i => hh p i (m + 1 + 1)) m
    have e3 := ta_hh p m
    have e4 : su (ta p) (m + 1) = su (ta p) m + ta p m := rfl
    have e5 : su (fun j => hh p (j + 1) 0) (m + 1) = su (fun j => hh p (j + 1) 0) m + hh p (m + 1) 0 := rfl
    have e6 : su (fun i => hh p i (m + 1 + 1)) (m + 1) = su (fun i => hh p i (m + 1 + 1)) m + hh p m (m + 1 + 1) := rfl
    rw [show m + 2 = m + 1 + 1 by omega] at e3
    rw [e4, e5, e6, ih]
    have e2' : su (fun i => hh p i (m + 1)) m - su (fun i => hh p i (m + 1 + 1)) m = hh p (m + 1) 0 - hh p (m + 1) m := by rw [e2]; exact e1
    omega
theorem round {p : Nat → V} {n : Nat} (h : Road p n) (i : Nat) : su (fun t => hh p (i + 2 + t) (i + 1)) (n - 2) = 2 * R p n + 1 - ta p i := by
  obtain ⟨m, rfl⟩ : ∃ m, n = m + 3 := ⟨n - 3, by have := h.n3; omega⟩
  have w := W_corner h i
  rw [W_turn h.per _ i, su_front, su_front] at w
  have g0 := (cr_ends (p i) (p (i + 1))).2
  have g1 := (cr_ends (p (i + 1)) (p (i + 2))).1
  simp only [Nat.add_zero, Nat.zero_add] at w
  rw [show i + 1 + 1 = i + 2 by omega] at w
  rw [g0, g1] at w
  have e2 : p (i + 2 + (m + 1)) = p i := by rw [show i + 2 + (m + 1) = i + (m + 3) by omega]; exact h.per i
  have e : su (fun t => hh p (i + 2 + t) (i + 1)) (m + 1) = su (fun t => cr (p (i + (t + 1 + 1))) (p (i + (t + 1 + 1) + 1)) (p (i + 1))) (m + 1) + su (fun t => cr (p (i + (t + 1 + 1))) (p (i + (t + 1 + 1) + 1)) (p (i + 1))) (m + 1) + (el (p (i + 2)) (p (i + 1)) - el (p i) (p (i + 1))) := by
    have tl := su_tele (fun t => el (p (i + 2 + t)) (p (i + 1))) (m + 1)
    simp only [e2, Nat.add_zero] at tl
    rw [← tl, ← su_add, ← su_add]
    refine su_congr (m + 1) (fun t _ => ?_)
    show tn _ _ _ = _
    unfold tn
    rw [show i + (t + 1 + 1) = i + 2 + t by omega, show i + 2 + (t + 1) = i + 2 + t + 1 by omega]
    omega
  show su (fun t => hh p (i + 2 + t) (i + 1)) (m + 1) = _
  have tw := tau_wedge (h.bend i)
  have wb := wedge_both (h.bend i)
  have n1 := el_anti (h.bend i).ab
  have n2 := el_anti (h.bend i).bc
  have t1 := th_el (p (i + 1)) (p i)
  have t2 := th_el (p (i + 1)) (p (i + 2))
  have t3 : ta p i = tau (p i) (p (i + 1)) (p (i + 2)) := rfl
  rw [e]
  omega
def fst (a b : V) : Prop := b.y < a.y ∨ (b.y = a.y ∧ a.x ≤ b.x)
theorem first_ex {p : Nat → V} {n : Nat} (hn : 0 < n) (h : ∀ j, p (j + n) = p j) : ∃ i, ∀ j, fst (p i) (p j) := by
  have fin : ∀ k, 0 < k → ∃ i, i < k ∧ ∀ j, j < k → fst (p i) (p j) := by
    intro k hk
    unfold fst
    induction k with
    | zero => omega
    | succ k ih =>
      rcases Nat.eq_zero_or_pos k with z | z
      · subst z; exact ⟨0, by omega, fun j hj => by obtain rfl : j = 0 := by omega
                                                    omega⟩
      · obtain ⟨i, hi, hm⟩ := ih z
        by_cases c : (p i).y < (p k).y ∨ ((p i).y = (p k).y ∧ (p k).x ≤ (p i).x)
        · exact ⟨k, by omega, fun j hj => by
            by_cases e : j = k
            · subst e; omega
            · have := hm j (by omega); omega⟩
        · exact ⟨i, by omega, fun j hj => by
            by_cases e : j = k
            · subst e; omega
            · exact hm j (by omega)⟩
  obtain ⟨i, _, hm⟩ := fin n hn
  refine ⟨i, fun j => ?_⟩
  have := hm (j % n) (Nat.mod_lt _ hn)
  have e := per_mod h (j / n) (j % n)
  rw [show j % n + n * (j / n) = j from Nat.mod_add_div j n] at e
  rw [e]; exact this
theorem Road.shift {p : Nat → V} {n : Nat} (h : Road p n) (k : Nat) : Road (fun j => p (k + j)) n :=
  ⟨h.n3, fun j => by show p _ = p _; rw [← Nat.add_assoc, h.per], fun i => h.bend (k + i), fun i j h1 h2 => h.far (k + i) (k + j) (by omega) (by omega)⟩
theorem W_shift {p : Nat → V} {n : Nat} (h : Road p n) (k : Nat) (q : V) : W (fun j => p (k + j)) n q = W p n q := (W_turn h.per q k).symm
theorem R_shift {p : Nat → V} {n : Nat} (h : Road p n) (k : Nat) : R (fun j => p (k + j)) n = R p n := by
  have h1 := W_corner h k
  have h2 := W_corner (h.shift k) 0
  rw [W_shift h] at h2
  simp only [Nat.zero_add, Nat.add_zero] at h2
  rw [h1] at h2
  omega
theorem hh_per {p : Nat → V} {n : Nat} (h : Road p n) (i j : Nat) : hh p (i + n) j = hh p i j ∧ hh p i (j + n) = hh p i j := by
  unfold hh
  rw [h.per, per1 h.per, h.per]
  exact ⟨rfl, rfl⟩
theorem su_succ (f : Nat → Int) (k : Nat) : su f (k + 1) = su f k + f k := rfl
theorem turn_first {p : Nat → V} {n : Nat} (h : Road p n) (top : ∀ j, fst (p 0) (p j)) : su (ta p) n = 2 * (2 * R p n + 1) := by
  obtain ⟨m, rfl⟩ : ∃ m, n = m + 3 := ⟨n - 3, by have := h.n3; omega⟩
  have z : ∀ j, 1 ≤ j → j < m + 3 → el (p j) (p 0) = 0 := by
    intro j h1 h2
    have t := top j
    have ne : p j ≠ p 0 := by
      have e := h.per 0
      rw [Nat.zero_add] at e
      by_cases c : j = m + 2
      · have := (h.bend (m + 2)).ab
        rw [show m + 2 + 1 = m + 3 by omega, e] at this
        rw [c]; exact this
      · have := h.ne (m + 2) (j + (m + 3)) (by omega) (by omega)
        rw [h.per] at this
        rw [show m + 2 + 1 = m + 3 by omega, e] at this
        exact this
    unfold fst at t
    unfold el
    rw [if_neg]
    intro g
    exact ne (V.ext' (by omega) (by omega))
  have zero : su (fun j => hh p (j + 1) 0) (m + 1) = 0 := by
    refine su_zero _ (fun t ht => ?_)
    have e1 := z (t + 1) (by omega) (by omega)
    have e2 := z (t + 2) (by omega) (by omega)
    have t1 := top (t + 1)
    have t2 := top (t + 2)
    unfold fst at t1 t2
    show tn (p (t + 1)) (p (t + 2)) (p 0) = 0
    unfold tn cr
    rw [e1, e2, if_neg (by omega), if_neg (by omega)]
    rfl
  have hp := hopf h (m + 1) (by omega)
  have r1 := round h (m + 1)
  have r2 := round h (m + 2)
  rw [zero] at hp
  have c1 : su (fun t => hh p (m + 1 + 2 + t) (m + 1 + 1)) (m + 3 - 2) = su (fun i => hh p i (m + 1 + 1)) (m + 1) := by
    rw [show m + 3 - 2 = m + 1 by omega]
    refine su_congr _ (fun t _ => ?_)
    show hh p (m + 1 + 2 + t) (m + 1 + 1) = hh p t (m + 1 + 1)
    rw [show m + 1 + 2 + t = t + (m + 3) by omega]
    exact (hh_per h t (m + 1 + 1)).1
  have c2 : su (fun t => hh p (m + 2 + 2 + t) (m + 2 + 1)) (m + 3 - 2) = su (fun j => hh p (j + 1) 0) (m + 1) := by
    rw [show m + 3 - 2 = m + 1 by omega]
    refine su_congr _ (fun t _ => ?_)
    show hh p (m + 2 + 2 + t) (m + 2 + 1) = hh p (t + 1) 0
    have e1 : m + 2 + 2 + t = (t + 1) + (m + 3) := by omega
    have e2 : m + 2 + 1 = 0 + (m + 3) := by omega
    have e3 : ∀ a b c d : Nat, a = b → c = d → hh p a c = hh p b d := fun a b c d g1 g2 => by rw [g1, g2]
    exact (e3 _ _ _ _ e1 e2).trans ((hh_per h (t + 1) _).1.trans (hh_per h (t + 1) 0).2)
  rw [c1] at r1
  rw [c2, zero] at r2
  rw [su_succ, su_succ]
  omega
theorem turning {p : Nat → V} {n : Nat} (h : Road p n) : su (ta p) n = 2 * (2 * R p n + 1) := by
  obtain ⟨k, hk⟩ := first_ex (by have := h.n3; omega) h.per
  have t := turn_first (h.shift k) (fun j => hk (k + j))
  rw [R_shift h] at t
  rw [← t, ← su_turn (f := ta p) (n := n) (fun j => by
    show tau _ _ _ = tau _ _ _
    rw [h.per, per1 h.per, show j + n + 2 = (j + 2) + n by omega, h.per]) k]
  rfl
theorem su_split (f : Nat → Int) (m : Nat) : ∀ k, su f (m + k) = su f m + su (fun t => f (m + t)) k
  | 0 => by simp [su]
  | k + 1 => by
    have := su_split f m k
    rw [← Nat.add_assoc, su_succ, su_succ, this]; omega
theorem su_const (c : Int) : ∀ k, su (fun _ => c) k = k * c
  | 0 => by simp [su]
  | k + 1 => by
    have := su_const c k
    rw [su_succ, this]
    have : ((k + 1 : Nat) : Int) = (k : Int) + 1 := by omega
    rw [this, Int.add_mul]; omega
theorem su_swap (f : Nat → Nat → Int) (m : Nat) : ∀ k, su (fun i => su (fun j => f i j) m) k = su (fun j => su (fun i => f i j) k) m
  | 0 => by simp only [su]; exact (su_zero m (fun _ _ => rfl)).symm
  | k + 1 => by
    rw [su_succ, su_swap f m k, ← su_add (fun j => su (fun i => f i j) k) (fun j => f k j)]
    rfl
theorem su_rev (f : Nat → Int) : ∀ k, su f k = su (fun t => f (k - 1 - t)) k
  | 0 => rfl
  | k + 1 => by
    rw [su_front (fun t => f (k + 1 - 1 - t)) k, su_succ, su_rev f k]
    simp only [Nat.add_sub_cancel, Nat.sub_zero]
    have : su (fun t => f (k - 1 - t)) k = su (fun t => f (k - (t + 1))) k := su_congr k (fun t _ => by congr 1; omega)
    omega
theorem su_neg (f : Nat → Int) (k : Nat) : su (fun t => - f t) k = - su f k := by
  have := su_sub (fun _ => 0) f k
  rw [su_zero k (fun _ _ => rfl)] at this
  have e : su (fun t => (fun _ => (0 : Int)) t - f t) k = su (fun t => - f t) k := su_congr k (fun t _ => by simp)
  rw [e] at this
  omega
theorem su_mul (c : Int) (f : Nat → Int) : ∀ k, su (fun t => c * f t) k = c * su f k
  | 0 => by simp [su]
  | k + 1 => by rw [su_succ, su_succ, su_mul c f k, Int.mul_add]
def iv (f : Int → Int) (X : Int) (k : Nat) : Int := su (fun t => f (X + t)) k
theorem iv_congr {f g : Int → Int} {X : Int} {k : Nat} (h : ∀ x, X ≤ x → x < X + k → f x = g x) : iv f X k = iv g X k := su_congr k (fun t ht => h _ (by omega) (by omega))
theorem iv_split (f : Int → Int) (X : Int) (m k : Nat) : iv f X (m + k) = iv f X m + iv f (X + m) k := by
  unfold iv
  rw [su_split]
  congr 1
  exact su_congr k (fun t _ => by congr 1; omega)
theorem iv_step {f : Int → Int} {L H : Int} (hL : ∀ x, x < L → f x = 1) (hH : ∀ x, H ≤ x → f x = 0) (hLH : L ≤ H) {X : Int} {k : Nat} (h1 : X ≤ L) (h2 : H ≤ X + k) : iv f X k = (L - X) + iv f L (H - L).toNat := by
  have e : k = (L - X).toNat + ((H - L).toNat + (X + k - H).toNat) := by omega
  rw [e, iv_split, iv_split]
  rw [show X + ((L - X).toNat : Int) = L by omega]
  have a : iv f X (L - X).toNat = L - X := by
    rw [iv_congr (g := fun _ => 1) (fun x _ hx => hL x (by omega))]
    unfold iv; rw [su_const]; omega
  have b : iv f (L + (H - L).toNat) (X + k - H).toNat = 0 := su_zero _ (fun t _ => hH _ (by omega))
  rw [a]
  omega
theorem iv_win {f : Int → Int} {L H : Int} (hL : ∀ x, x < L → f x = 0) (hH : ∀ x, H ≤ x → f x = 0) (hLH : L ≤ H) {X : Int} {k : Nat} (h1 : X ≤ L) (h2 : H ≤ X + k) : iv f X k = iv f L (H - L).toNat := by
  have e : k = (L - X).toNat + ((H - L).toNat + (X + k - H).toNat) := by omega
  rw [e, iv_split, iv_split]
  rw [show X + ((L - X).toNat : Int) = L by omega]
  have a : iv f X (L - X).toNat = 0 := su_zero _ (fun t _ => hL _ (by omega))
  have b : iv f (L + (H - L).toNat) (X + k - H).toNat = 0 := su_zero _ (fun t _ => hH _ (by omega))
  rw [a]
  omega
theorem iv_sub (f g : Int → Int) (X : Int) (k : Nat) : iv f X k - iv g X k = iv (fun x => f x - g x) X k := su_sub _ _ k
theorem iv_mirror (f : Int → Int) (S X : Int) (k : Nat) : iv (fun x => f (S - x)) X k = iv f (S - X - k + 1) k := by
  unfold iv
  rw [su_rev]
  refine su_congr k (fun t ht => ?_)
  show f _ = f _
  congr 1
  omega
def bx (f : V → Int) (X Y : Int) (k l : Nat) : Int := iv (fun y => iv (fun x => f ⟨x, y⟩) X k) Y l
theorem cr_left {a b : V} {x y : Int} (h1 : a.y ≤ y) (h2 : y < b.y) (ha : x < a.x) (hb : x < b.x) : cr a b ⟨x, y⟩ = 1 := by
  unfold cr
  rw [if_pos]
  refine ⟨h1, h2, ?_⟩
  unfold cross
  show 0 < (b.x - a.x) * (y - a.y) - (b.y - a.y) * (x - a.x)
  have e : (b.x - a.x) * (y - a.y) - (b.y - a.y) * (x - a.x) = (b.x - x) * (y - a.y) + (b.y - y) * (a.x - x) := by grind
  rw [e]
  have := zn (show 0 ≤ b.x - x by omega) (show 0 ≤ y - a.y by omega)
  have := pp (show 0 < b.y - y by omega) (show 0 < a.x - x by omega)
  omega
theorem cr_right {a b : V} {x y : Int} (h : a.y < b.y) (ha : a.x ≤ x) (hb : b.x ≤ x) : cr a b ⟨x, y⟩ = 0 := by
  unfold cr
  rw [if_neg, if_neg]
  · show ¬ (b.y ≤ y ∧ y < a.y ∧ _)
    omega
  · show ¬ (a.y ≤ y ∧ y < b.y ∧ _)
    intro ⟨h1, h2, h3⟩
    unfold cross at h3
    have h3 : 0 < (b.x - a.x) * (y - a.y) - (b.y - a.y) * (x - a.x) := h3
    have e : (b.x - a.x) * (y - a.y) - (b.y - a.y) * (x - a.x) = - ((x - b.x) * (y - a.y)) - (b.y - y) * (x - a.x) := by grind
    rw [e] at h3
    have := zn (show 0 ≤ x - b.x by omega) (show 0 ≤ y - a.y by omega)
    have := zn (show 0 ≤ b.y - y by omega) (show 0 ≤ x - a.x by omega)
    omega
theorem cr_band0 {a b : V} {x y : Int} (h : ¬ (a.y ≤ y ∧ y < b.y)) (h2 : a.y < b.y) : cr a b ⟨x, y⟩ = 0 := by
  unfold cr
  rw [if_neg, if_neg]
  · show ¬ (b.y ≤ y ∧ y < a.y ∧ _); omega
  · show ¬ (a.y ≤ y ∧ y < b.y ∧ _); omega
theorem cr_turn (a b : V) (x y : Int) : cr (ng a) (ng b) (ng ⟨x, y⟩) = - cr a b ⟨a.x + b.x - x, a.y + b.y - y⟩ := by
  have e : cross (ng a) (ng b) (ng ⟨x, y⟩) = - cross a b ⟨a.x + b.x - x, a.y + b.y - y⟩ := by unfold cross ng; grind
  unfold cr
  rw [e]
  have m1 : (ng a).y = - a.y := rfl
  have m2 : (ng b).y = - b.y := rfl
  have m3 : (ng ⟨x, y⟩).y = - y := rfl
  have m4 : (V.mk (a.x + b.x - x) (a.y + b.y - y)).y = a.y + b.y - y := rfl
  rw [m1, m2, m3, m4]
  generalize cross a b ⟨a.x + b.x - x, a.y + b.y - y⟩ = Z
  by_cases c : a.y ≤ a.y + b.y - y ∧ a.y + b.y - y < b.y ∧ 0 < Z
  · rw [if_pos c, if_neg (by omega), if_pos (by omega)]
  · rw [if_neg c]
    by_cases d : b.y ≤ a.y + b.y - y ∧ a.y + b.y - y < a.y ∧ Z < 0
    · rw [if_pos d, if_pos (by omega)]; rfl
    · rw [if_neg d, if_neg (by omega), if_neg (by omega)]; rfl
theorem bx_add (f g : V → Int) (X Y : Int) (k l : Nat) : bx f X Y k l + bx g X Y k l = bx (fun q => f q + g q) X Y k l := by
  unfold bx iv
  rw [← su_add]
  exact su_congr l (fun t _ => (su_add _ _ k).symm)
theorem bx_congr {f g : V → Int} {X Y : Int} {k l : Nat} (h : ∀ x y, X ≤ x → x < X + k → Y ≤ y → y < Y + l → f ⟨x, y⟩ = g ⟨x, y⟩) : bx f X Y k l = bx g X Y k l :=
  iv_congr (fun y h1 h2 => iv_congr (fun x h3 h4 => h x y h3 h4 h1 h2))
theorem bx_neg (f : V → Int) (X Y : Int) (k l : Nat) : bx (fun q => - f q) X Y k l = - bx f X Y k l := by
  unfold bx iv
  rw [← su_neg]
  exact su_congr l (fun t _ => su_neg _ k)
theorem bx_mul (c : Int) (f : V → Int) (X Y : Int) (k l : Nat) : bx (fun q => c * f q) X Y k l = c * bx f X Y k l := by
  unfold bx iv
  rw [← su_mul]
  exact su_congr l (fun t _ => su_mul c _ k)
theorem bx_zero {f : V → Int} {X Y : Int} {k l : Nat} (h : ∀ q, f q = 0) : bx f X Y k l = 0 := su_zero l (fun _ _ => su_zero k (fun _ _ => h _))
theorem bx_su (f : Nat → V → Int) (n : Nat) (X Y : Int) (k l : Nat) : bx (fun q => su (fun j => f j q) n) X Y k l = su (fun j => bx (f j) X Y k l) n := by
  unfold bx iv
  have e : su (fun t => su (fun u => su (fun j => f j ⟨X + u, Y + t⟩) n) k) l = su (fun t => su (fun j => su (fun u => f j ⟨X + u, Y + t⟩) k) n) l := su_congr l (fun t _ => su_swap _ n k)
  exact e.trans (su_swap _ n l)
def cb (a b q : V) : Int := cr a b q + cr (ng a) (ng b) (ng q)
theorem cb_swap (a b q : V) : cb b a q = - cb a b q := by unfold cb; rw [cr_swap a b, cr_swap (ng a)]; omega
theorem side_up {a b : V} (h : a.y < b.y) {X Y : Int} {k l : Nat} (a1 : X ≤ a.x) (a2 : a.x < X + k) (b1 : X ≤ b.x) (b2 : b.x < X + k) (a3 : Y ≤ a.y) (a4 : a.y < Y + l) (b3 : Y ≤ b.y) (b4 : b.y < Y + l) : bx (cb a b) X Y k l = (b.y - a.y) * (a.x + b.x - X - (X + k - 1)) := by
  have mir : bx (fun q => cr (ng a) (ng b) (ng q)) X Y k l = - iv (fun y => iv (fun x => cr a b ⟨x, y⟩) (a.x + b.x - X - k + 1) k) (a.y + b.y - Y - l + 1) l := by
    have e : bx (fun q => cr (ng a) (ng b) (ng q)) X Y k l = bx (fun q => - cr a b ⟨a.x + b.x - q.x, a.y + b.y - q.y⟩) X Y k l := bx_congr (fun x y _ _ _ _ => cr_turn a b x y)
    rw [e, bx_neg, ← iv_mirror (fun y => iv (fun x => cr a b ⟨x, y⟩) (a.x + b.x - X - k + 1) k)]
    congr 1
    exact iv_congr (fun y _ _ => iv_mirror (fun x => cr a b ⟨x, a.y + b.y - y⟩) (a.x + b.x) X k)
  have s : bx (cb a b) X Y k l = bx (cr a b) X Y k l + bx (fun q => cr (ng a) (ng b) (ng q)) X Y k l := (bx_add _ _ X Y k l).symm
  obtain ⟨L, H, hL⟩ : ∃ L H : Int, L ≤ a.x ∧ L ≤ b.x ∧ a.x ≤ H ∧ b.x ≤ H ∧ (L = a.x ∨ L = b.x) ∧ (H = a.x ∨ H = b.x) := by
    by_cases c : a.x ≤ b.x
    · exact ⟨a.x, b.x, by omega⟩
    · exact ⟨b.x, a.x, by omega⟩
  have row : ∀ y, a.y ≤ y → y < b.y → iv (fun x => cr a b ⟨x, y⟩) X k - iv (fun x => cr a b ⟨x, y⟩) (a.x + b.x - X - k + 1) k = a.x + b.x - X - (X + k - 1) := by
    intro y y1 y2
    have f1 : ∀ x, x < L → cr a b ⟨x, y⟩ = 1 := fun x hx => cr_left y1 y2 (by omega) (by omega)
    have f2 : ∀ x, H ≤ x → cr a b ⟨x, y⟩ = 0 := fun x hx => cr_right h (by omega) (by omega)
    rw [iv_step f1 f2 (by omega) (X := X) (by omega) (by omega), iv_step f1 f2 (by omega) (X := a.x + b.x - X - k + 1) (by omega) (by omega)]
    omega
  have z : ∀ Z y, ¬ (a.y ≤ y ∧ y < b.y) → iv (fun x => cr a b ⟨x, y⟩) Z k = 0 := fun Z y hy => su_zero k (fun t _ => cr_band0 hy h)
  have w1 : bx (cr a b) X Y k l = iv (fun y => iv (fun x => cr a b ⟨x, y⟩) X k) a.y (b.y - a.y).toNat :=
    iv_win (fun y hy => z _ y (by omega)) (fun y hy => z _ y (by omega)) (by omega) (by omega) (by omega)
  have w2 : iv (fun y => iv (fun x => cr a b ⟨x, y⟩) (a.x + b.x - X - k + 1) k) (a.y + b.y - Y - l + 1) l = iv (fun y => iv (fun x => cr a b ⟨x, y⟩) (a.x + b.x - X - k + 1) k) a.y (b.y - a.y).toNat :=
    iv_win (fun y hy => z _ y (by omega)) (fun y hy => z _ y (by omega)) (by omega) (by omega) (by omega)
  rw [s, mir, w1, w2, ← Int.sub_eq_add_neg, iv_sub]
  rw [iv_congr (g := fun _ => a.x + b.x - X - (X + k - 1)) (fun y y1 y2 => row y y1 (by omega))]
  unfold iv
  rw [su_const]
  congr 1
  omega
theorem side_sum {a b : V} {X Y : Int} {k l : Nat} (a1 : X ≤ a.x) (a2 : a.x < X + k) (b1 : X ≤ b.x) (b2 : b.x < X + k) (a3 : Y ≤ a.y) (a4 : a.y < Y + l) (b3 : Y ≤ b.y) (b4 : b.y < Y + l) : bx (cb a b) X Y k l = (b.y - a.y) * (a.x + b.x - X - (X + k - 1)) := by
  rcases Int.lt_trichotomy a.y b.y with g | g | g
  · exact side_up g a1 a2 b1 b2 a3 a4 b3 b4
  · rw [show b.y - a.y = 0 by omega, Int.zero_mul]
    refine bx_zero (fun q => ?_)
    unfold cb cr
    have m1 : (ng a).y = - a.y := rfl
    have m2 : (ng b).y = - b.y := rfl
    rw [m1, m2, if_neg (by omega), if_neg (by omega), if_neg (by omega), if_neg (by omega)]; rfl
  · have e : bx (cb a b) X Y k l = - bx (cb b a) X Y k l := by
      rw [← bx_neg]
      exact bx_congr (fun x y _ _ _ _ => cb_swap b a ⟨x, y⟩)
    rw [e, side_up g b1 b2 a1 a2 b3 b4 a3 a4]
    grind
def A2 (p : Nat → V) (n : Nat) : Int := su (fun j => (p j).x * (p (j + 1)).y - (p j).y * (p (j + 1)).x) n
theorem area {p : Nat → V} {n : Nat} (per : ∀ j, p (j + n) = p j) {X Y : Int} {k l : Nat} (hx : ∀ j, X ≤ (p j).x ∧ (p j).x < X + k) (hy : ∀ j, Y ≤ (p j).y ∧ (p j).y < Y + l) : bx (fun q => W p n q + Wn p n q) X Y k l = A2 p n := by
  have e : bx (fun q => W p n q + Wn p n q) X Y k l = bx (fun q => su (fun j => cb (p j) (p (j + 1)) q) n) X Y k l := bx_congr (fun x y _ _ _ _ => by
    unfold W Wn W
    rw [← su_add]; rfl)
  rw [e, bx_su (fun j q => cb (p j) (p (j + 1)) q)]
  have e2 : su (fun j => bx ((fun j q => cb (p j) (p (j + 1)) q) j) X Y k l) n = su (fun j => ((p (j + 1)).y - (p j).y) * ((p j).x + (p (j + 1)).x - X - (X + k - 1))) n := su_congr n (fun j _ => side_sum (hx j).1 (hx j).2 (hx _).1 (hx _).2 (hy j).1 (hy j).2 (hy _).1 (hy _).2)
  rw [e2]
  have t := su_tele (fun j => (p j).x * (p j).y - (2 * X + k - 1) * (p j).y) n
  have p0 := per 0
  rw [Nat.zero_add] at p0
  rw [p0, Int.sub_self] at t
  have e3 : su (fun j => ((p (j + 1)).y - (p j).y) * ((p j).x + (p (j + 1)).x - X - (X + k - 1))) n + su (fun j => ((p j).x * (p j).y - (2 * X + k - 1) * (p j).y) - ((p (j + 1)).x * (p (j + 1)).y - (2 * X + k - 1) * (p (j + 1)).y)) n = A2 p n := by
    rw [← su_add]
    exact su_congr n (fun j _ => by grind)
  omega
noncomputable def ind (P : Prop) : Int := by classical exact if P then 1 else 0
theorem ind_t {P : Prop} (h : P) : ind P = 1 := by unfold ind; exact if_pos h
theorem ind_f {P : Prop} (h : ¬ P) : ind P = 0 := by unfold ind; exact if_neg h
theorem iv_one {f : Int → Int} {x X : Int} {k : Nat} (h : ∀ y, y ≠ x → f y = 0) (h1 : X ≤ x) (h2 : x < X + k) : iv f X k = f x := by
  rw [iv_win (L := x) (H := x + 1) (fun y hy => h y (by omega)) (fun y hy => h y (by omega)) (by omega) h1 (by omega)]
  rw [show (x + 1 - x).toNat = 1 by omega]
  show 0 + f (x + ((0 : Nat) : Int)) = f x
  simp
theorem bx_one {X Y : Int} {k l : Nat} {z : V} (x1 : X ≤ z.x) (x2 : z.x < X + k) (y1 : Y ≤ z.y) (y2 : z.y < Y + l) : bx (fun q => ind (q = z)) X Y k l = 1 := by
  have r : iv (fun y => iv (fun x => (fun q => ind (q = z)) ⟨x, y⟩) X k) Y l = iv (fun x => ind ((⟨x, z.y⟩ : V) = z)) X k :=
    iv_one (f := fun y => iv (fun x => ind ((⟨x, y⟩ : V) = z)) X k) (x := z.y) (fun y hy => su_zero k (fun t _ => ind_f (fun e => hy (by rw [← e])))) y1 y2
  have c : iv (fun x => ind ((⟨x, z.y⟩ : V) = z)) X k = ind ((⟨z.x, z.y⟩ : V) = z) :=
    iv_one (f := fun x => ind ((⟨x, z.y⟩ : V) = z)) (x := z.x) (fun x hx => ind_f (fun e => hx (by rw [← e]))) x1 x2
  unfold bx
  rw [r, c]
  exact ind_t rfl
theorem su_only {f : Nat → Int} {i n : Nat} (hi : i < n) (h : ∀ j, j < n → j ≠ i → f j = 0) : su f n = f i := by
  obtain ⟨m, rfl⟩ : ∃ m, n = i + (m + 1) := ⟨n - i - 1, by omega⟩
  rw [su_split, su_front, su_zero i (fun t ht => h t (by omega) (by omega)), su_zero m (fun t ht => h _ (by omega) (by omega))]
  simp
theorem frac_eq {L u v : Int} (hL : 0 < L) (h : L * u = L * v) : u = v := Int.eq_of_mul_eq_mul_left (by omega) h
theorem on_iff {a b : V} (hne : a ≠ b) : ∃ ex ey : Int, (ex ≠ 0 ∨ ey ≠ 0) ∧ ∀ q : V, (on a b q ∧ q ≠ b) ↔ ∃ t : Nat, t < Int.gcd (b.x - a.x) (b.y - a.y) ∧ q = ⟨a.x + t * ex, a.y + t * ey⟩ := by
  obtain ⟨ex, hx⟩ := Int.gcd_dvd_left (b.x - a.x) (b.y - a.y)
  obtain ⟨ey, hy⟩ := Int.gcd_dvd_right (b.x - a.x) (b.y - a.y)
  have gp : 0 < Int.gcd (b.x - a.x) (b.y - a.y) := by
    apply Nat.pos_of_ne_zero
    intro z
    rw [z] at hx hy
    exact hne (V.ext' (by omega) (by omega))
  refine ⟨ex, ey, ?_, fun q => ⟨?_, ?_⟩⟩
  · by_cases c : ex = 0
    · right
      intro d
      rw [c] at hx; rw [d] at hy
      exact hne (V.ext' (by omega) (by omega))
    · exact Or.inl c
  · rintro ⟨ho, hqb⟩
    obtain ⟨L, l, hL, l0, l1, e1, e2⟩ := on_frac hne ho
    have g1 := Int.gcd_mul_left L (q.x - a.x) (q.y - a.y)
    rw [e1, e2, Int.gcd_mul_left] at g1
    have g2 : l * (Int.gcd (b.x - a.x) (b.y - a.y) : Int) = L * (Int.gcd (q.x - a.x) (q.y - a.y) : Int) := by
      have : ((l.natAbs * Int.gcd (b.x - a.x) (b.y - a.y) : Nat) : Int) = ((L.natAbs * Int.gcd (q.x - a.x) (q.y - a.y) : Nat) : Int) := by rw [g1]
      rw [Int.natCast_mul, Int.natCast_mul, Int.natAbs_of_nonneg l0, Int.natAbs_of_nonneg (by omega)] at this
      exact this
    generalize Int.gcd (q.x - a.x) (q.y - a.y) = t at *
    generalize Int.gcd (b.x - a.x) (b.y - a.y) = g at *
    have v1 : q.x - a.x = t * ex := by
      refine frac_eq hL ?_
      rw [e1, hx, ← Int.mul_assoc, g2, Int.mul_assoc]
    have v2 : q.y - a.y = t * ey := by
      refine frac_eq hL ?_
      rw [e2, hy, ← Int.mul_assoc, g2, Int.mul_assoc]
    refine ⟨t, ?_, V.ext' (show q.x = a.x + t * ex by omega) (show q.y = a.y + t * ey by omega)⟩
    by_cases c : t < g
    · exact c
    · exfalso
      have hl : (g : Int) ≤ t := by omega
      have h3 : L * (g : Int) ≤ L * (t : Int) := Int.mul_le_mul_of_nonneg_left hl (Int.le_of_lt hL)
      have h4 : l * (g : Int) ≤ L * (g : Int) := Int.mul_le_mul_of_nonneg_right l1 (by omega)
      have h5 : (t : Int) = g := frac_eq hL (by omega)
      rw [h5] at v1 v2
      exact hqb (V.ext' (by omega) (by omega))
  · rintro ⟨t, ht, rfl⟩
    generalize Int.gcd (b.x - a.x) (b.y - a.y) = g at *
    have bt : ∀ u v e : Int, v - u = g * e → btw u v (u + t * e) := by
      intro u v e h
      unfold btw
      rcases Int.le_total 0 e with c | c
      · have h1 := zn (show (0 : Int) ≤ t by omega) c
        have h2 : (t : Int) * e ≤ g * e := Int.mul_le_mul_of_nonneg_right (by omega) c
        omega
      · have h1 := zp (show (0 : Int) ≤ t by omega) c
        have h2 : (g : Int) * e ≤ t * e := Int.mul_le_mul_of_nonpos_right (by omega) c
        omega
    refine ⟨⟨?_, bt _ _ _ hx, bt _ _ _ hy⟩, fun e => ?_⟩
    · unfold cross
      show (b.x - a.x) * (a.y + t * ey - a.y) - (b.y - a.y) * (a.x + t * ex - a.x) = 0
      rw [hx, hy]; grind
    · have e1 : a.x + t * ex = b.x := congrArg V.x e
      have e2 : a.y + t * ey = b.y := congrArg V.y e
      have z : ∀ e : Int, (g : Int) * e = t * e → e = 0 := by
        intro e h
        have : ((g : Int) - t) * e = 0 := by rw [Int.sub_mul]; omega
        rcases Int.mul_eq_zero.mp this with k | k <;> omega
      have z1 := z ex (by omega)
      have z2 := z ey (by omega)
      rw [z1] at e1; rw [z2] at e2
      exact hne (V.ext' (by omega) (by omega))
theorem side_points {a b : V} (hne : a ≠ b) {X Y : Int} {k l : Nat} (a1 : X ≤ a.x) (a2 : a.x < X + k) (b1 : X ≤ b.x) (b2 : b.x < X + k) (a3 : Y ≤ a.y) (a4 : a.y < Y + l) (b3 : Y ≤ b.y) (b4 : b.y < Y + l) : bx (fun q => ind (on a b q ∧ q ≠ b)) X Y k l = (Int.gcd (b.x - a.x) (b.y - a.y) : Int) := by
  obtain ⟨ex, ey, he, H⟩ := on_iff hne
  generalize Int.gcd (b.x - a.x) (b.y - a.y) = g at *
  have inj : ∀ t u : Nat, (V.mk (a.x + t * ex) (a.y + t * ey)) = ⟨a.x + u * ex, a.y + u * ey⟩ → t = u := by
    intro t u h
    injection h with h1 h2
    have z : ∀ e : Int, (t : Int) * e = u * e → e ≠ 0 → t = u := by
      intro e h hz
      have := Int.eq_of_mul_eq_mul_right hz h
      omega
    rcases he with c | c
    · exact z ex (by omega) c
    · exact z ey (by omega) c
  have e : bx (fun q => ind (on a b q ∧ q ≠ b)) X Y k l = bx (fun q => su (fun t => ind (q = ⟨a.x + t * ex, a.y + t * ey⟩)) g) X Y k l := bx_congr (fun x y _ _ _ _ => by
    by_cases c : on a b ⟨x, y⟩ ∧ (⟨x, y⟩ : V) ≠ b
    · rw [ind_t c]
      obtain ⟨t, ht, hq⟩ := (H _).mp c
      rw [su_only ht (fun j _ hj => ind_f (fun e => hj (inj _ _ (e.symm.trans hq))))]
      exact (ind_t hq).symm
    · rw [ind_f c]
      exact (su_zero g (fun t ht => ind_f (fun e => c ((H _).mpr ⟨t, ht, e⟩)))).symm)
  rw [e, bx_su (fun t q => ind (q = ⟨a.x + t * ex, a.y + t * ey⟩))]
  have e2 : su (fun t => bx ((fun t q => ind (q = ⟨a.x + t * ex, a.y + t * ey⟩)) t) X Y k l) g = su (fun _ => 1) g := su_congr g (fun t ht => by
    have o := ((H ⟨a.x + t * ex, a.y + t * ey⟩).mpr ⟨t, ht, rfl⟩).1
    have o2 := o.2.1
    have o3 := o.2.2
    unfold btw at o2 o3
    simp only at o2 o3
    exact bx_one (z := ⟨a.x + t * ex, a.y + t * ey⟩) (by show _ ≤ a.x + t * ex; omega) (by show a.x + t * ex < _; omega) (by show _ ≤ a.y + t * ey; omega) (by show a.y + t * ey < _; omega))
  rw [e2, su_const]; omega
theorem ng_ng (a : V) : ng (ng a) = a := V.ext' (show - - a.x = a.x by omega) (show - - a.y = a.y by omega)
theorem on_ng' {a b q : V} (h : on a b q) : on (ng a) (ng b) (ng q) := on_ng (by rw [ng_ng, ng_ng, ng_ng]; exact h)
theorem el_ng {a b : V} (h : a ≠ b) : el (ng a) (ng b) = 1 - el a b := by
  have e := el_anti h
  have : el (ng a) (ng b) = el b a := by unfold el ng; simp only; split <;> split <;> omega
  omega
theorem Wn_side {p : Nat → V} {n : Nat} (h : Road p n) (i : Nat) {q : V} (hq : on (p (i + 1)) (p (i + 2)) q) (hqb : q ≠ p (i + 1)) (hqc : q ≠ p (i + 2)) : Wn p n q = R p n + (1 - el (p (i + 1)) (p (i + 2))) := by
  have := W_side h.ng i (on_ng' hq) (fun e => hqb (ng_inj e)) (fun e => hqc (ng_inj e))
  rw [R_both h, el_ng (h.bend (i + 1)).ab] at this
  exact this
theorem Road.ne' {p : Nat → V} {n : Nat} (h : Road p n) (i : Nat) : ∀ t, 1 ≤ t → t < n → p (i + t + 1) ≠ p (i + 1) := by
  intro t h1 h2
  by_cases c : t + 1 = n
  · rw [show i + t + 1 = i + n by omega, h.per]
    exact (h.bend i).ab
  · exact h.ne i (i + t + 1) (by omega) (by omega)
noncomputable def rimAt (p : Nat → V) (q : V) (j : Nat) : Int := ind (on (p j) (p (j + 1)) q ∧ q ≠ p (j + 1))
noncomputable def turnAt (p : Nat → V) (q : V) (j : Nat) : Int := ta p j * ind (q = p (j + 1))
noncomputable def ins (p : Nat → V) (n : Nat) (q : V) : Int := ind (Off p q ∧ W p n q ≠ 0)
theorem rimAt_per {p : Nat → V} {n : Nat} (h : Road p n) (q : V) (j : Nat) : rimAt p q (j + n) = rimAt p q j := by
  unfold rimAt; rw [h.per, per1 h.per]
theorem ta_per {p : Nat → V} {n : Nat} (h : Road p n) (j : Nat) : ta p (j + n) = ta p j := by
  show tau _ _ _ = tau _ _ _
  rw [h.per, per1 h.per, show j + n + 2 = (j + 2) + n by omega, h.per]
theorem turnAt_per {p : Nat → V} {n : Nat} (h : Road p n) (q : V) (j : Nat) : turnAt p q (j + n) = turnAt p q j := by
  unfold turnAt; rw [ta_per h, per1 h.per]
theorem at_corner {p : Nat → V} {n : Nat} (h : Road p n) (i : Nat) : su (rimAt p (p (i + 1))) n = 1 ∧ su (turnAt p (p (i + 1))) n = ta p i := by
  have h3 := h.n3
  constructor
  · rw [← su_turn (rimAt_per h _) i, su_only (i := 1) (by omega)]
    · exact ind_t ⟨on_l _ _, (h.bend (i + 1)).ab⟩
    · intro j hj hne
      refine ind_f ?_
      by_cases c : j = 0
      · subst c; exact fun k => k.2 rfl
      · exact fun k => h.off i (i + j) (by omega) (by omega) k.1
  · rw [← su_turn (turnAt_per h _) i, su_only (i := 0) (by omega)]
    · show ta p i * ind _ = _
      rw [ind_t rfl, Int.mul_one]
    · intro j hj hne
      show ta p (i + j) * ind _ = _
      rw [ind_f (fun e => h.ne' i j (by omega) hj e.symm), Int.mul_zero]
theorem at_side {p : Nat → V} {n : Nat} (h : Road p n) (i : Nat) {q : V} (hq : on (p (i + 1)) (p (i + 2)) q) (hqb : q ≠ p (i + 1)) (hqc : q ≠ p (i + 2)) : su (rimAt p q) n = 1 ∧ su (turnAt p q) n = 0 := by
  have h3 := h.n3
  have off : ∀ t, 1 ≤ t → t < n → ¬ on (p (i + 1 + t)) (p (i + 1 + t + 1)) q := by
    intro t h1 h2
    by_cases c1 : t = 1
    · subst c1; exact (h.bend (i + 1)).not_next hq hqb hqc
    · by_cases c2 : t + 1 = n
      · rw [show i + 1 + t = i + n by omega, h.per, per1 h.per]
        exact (h.bend i).not_prev hq hqb hqc
      · exact fun k => (h.far (i + 1) (i + 1 + t) (by omega) (by omega)).none (h.bend (i + 1)).ab (h.bend (i + 1 + t)).ab hq k
  constructor
  · rw [← su_turn (rimAt_per h _) (i + 1), su_only (i := 0) (by omega)]
    · exact ind_t ⟨hq, hqc⟩
    · intro j hj hne
      exact ind_f (fun k => off j (by omega) hj k.1)
  · rw [← su_turn (turnAt_per h _) (i + 1)]
    refine su_zero n (fun t ht => ?_)
    show ta p (i + 1 + t) * ind _ = 0
    rw [ind_f, Int.mul_zero]
    intro e
    by_cases c : t = 0
    · subst c; exact hqc e
    · exact off t (by omega) ht (by rw [e]; exact on_r _ _)
theorem one_point {p : Nat → V} {n : Nat} (h : Road p n) (q : V) : W p n q + Wn p n q = 2 * (2 * R p n + 1) * ins p n q + (2 * R p n + 1) * su (rimAt p q) n - su (turnAt p q) n := by
  by_cases off : Off p q
  · have z1 : su (rimAt p q) n = 0 := su_zero n (fun t _ => ind_f (fun k => off t k.1))
    have z2 : su (turnAt p q) n = 0 := su_zero n (fun t _ => by
      show ta p t * ind _ = 0
      rw [ind_f (fun e => off t (by rw [e]; exact on_r _ _)), Int.mul_zero])
    have j := W_jordan h off
    have r := R_01 h
    rw [z1, z2, ← W_off h off]
    unfold ins
    by_cases c : W p n q = 0
    · rw [ind_f (fun k => k.2 c), c]; omega
    · rw [ind_t ⟨off, c⟩]; omega
  · have z : ins p n q = 0 := ind_f (fun k => off k.1)
    have corner : ∀ i, q = p (i + 1) → W p n q + Wn p n q = 2 * (2 * R p n + 1) * ins p n q + (2 * R p n + 1) * su (rimAt p q) n - su (turnAt p q) n := by
      intro i e
      rw [z]
      subst e
      obtain ⟨a1, a2⟩ := at_corner h i
      have w1 := W_corner h i
      have w2 := Wn_corner h i
      have t := tau_wedge (h.bend i)
      have t2 : ta p i = tau (p i) (p (i + 1)) (p (i + 2)) := rfl
      rw [a1, a2]
      omega
    have hex : ∃ i, on (p i) (p (i + 1)) q := Classical.byContradiction (fun k => off (fun j hj => k ⟨j, hj⟩))
    obtain ⟨i, hi⟩ := hex
    have h3 := h.n3
    rw [← h.per i, ← per1 h.per i] at hi
    have ex : ∃ m, i + n = m + 1 := ⟨i + n - 1, by omega⟩
    obtain ⟨m, hm⟩ := ex
    rw [hm] at hi
    by_cases c1 : q = p (m + 1)
    · exact corner m c1
    · by_cases c2 : q = p (m + 2)
      · exact corner (m + 1) c2
      · obtain ⟨a1, a2⟩ := at_side h m hi c1 c2
        have w1 := W_side h m hi c1 c2
        have w2 := Wn_side h m hi c1 c2
        rw [z, a1, a2]
        omega
theorem bx_sub (f g : V → Int) (X Y : Int) (k l : Nat) : bx f X Y k l - bx g X Y k l = bx (fun q => f q - g q) X Y k l := by
  unfold bx iv
  rw [su_sub]
  exact su_congr l (fun t _ => su_sub _ _ k)
def B (p : Nat → V) (n : Nat) : Int := su (fun j => (Int.gcd ((p (j + 1)).x - (p j).x) ((p (j + 1)).y - (p j).y) : Int)) n
theorem rim_sum {p : Nat → V} {n : Nat} (h : Road p n) {X Y : Int} {k l : Nat} (hx : ∀ j, X ≤ (p j).x ∧ (p j).x < X + k) (hy : ∀ j, Y ≤ (p j).y ∧ (p j).y < Y + l) : bx (fun q => su (rimAt p q) n) X Y k l = B p n := by
  rw [bx_su (fun j q => rimAt p q j)]
  exact su_congr n (fun j _ => side_points (h.bend j).ab (hx j).1 (hx j).2 (hx _).1 (hx _).2 (hy j).1 (hy j).2 (hy _).1 (hy _).2)
theorem turn_sum {p : Nat → V} {n : Nat} (h : Road p n) {X Y : Int} {k l : Nat} (hx : ∀ j, X ≤ (p j).x ∧ (p j).x < X + k) (hy : ∀ j, Y ≤ (p j).y ∧ (p j).y < Y + l) : bx (fun q => su (turnAt p q) n) X Y k l = 2 * (2 * R p n + 1) := by
  rw [bx_su (fun j q => turnAt p q j), ← turning h]
  refine su_congr n (fun j _ => ?_)
  have e : bx (fun q => turnAt p q j) X Y k l = ta p j * bx (fun q => ind (q = p (j + 1))) X Y k l := bx_mul _ _ X Y k l
  show bx (fun q => turnAt p q j) X Y k l = ta p j
  rw [e, bx_one (hx _).1 (hx _).2 (hy _).1 (hy _).2, Int.mul_one]
theorem pick {p : Nat → V} {n : Nat} (h : Road p n) {X Y : Int} {k l : Nat} (hx : ∀ j, X ≤ (p j).x ∧ (p j).x < X + k) (hy : ∀ j, Y ≤ (p j).y ∧ (p j).y < Y + l) : A2 p n = (2 * R p n + 1) * (2 * bx (ins p n) X Y k l + B p n - 2) := by
  rw [← area h.per hx hy]
  have e : bx (fun q => W p n q + Wn p n q) X Y k l = bx (fun q => 2 * (2 * R p n + 1) * ins p n q + (2 * R p n + 1) * su (rimAt p q) n - su (turnAt p q) n) X Y k l := bx_congr (fun x y _ _ _ _ => one_point h _)
  rw [e, ← bx_sub, ← bx_add, bx_mul, bx_mul, rim_sum h hx hy, turn_sum h hx hy]
  grind
theorem on_of_frac {a b m : V} {L l : Int} (hL : 0 < L) (l0 : 0 ≤ l) (l1 : l ≤ L) (hx : L * (m.x - a.x) = l * (b.x - a.x)) (hy : L * (m.y - a.y) = l * (b.y - a.y)) : on a b m := by
  have bt : ∀ u v w : Int, L * (w - u) = l * (v - u) → btw u v w := by
    intro u v w h
    unfold btw
    rcases Int.le_total u v with c | c
    · have h1 := zn l0 (show 0 ≤ v - u by omega)
      have h2 : l * (v - u) ≤ L * (v - u) := Int.mul_le_mul_of_nonneg_right l1 (by omega)
      refine Or.inl ⟨?_, ?_⟩
      · rcases lt_ge w u with g | g
        · have := pn hL (show w - u < 0 by omega); omega
        · exact g
      · rcases lt_ge v w with g | g
        · have e : L * (w - u) = L * (v - u) + L * (w - v) := by rw [← Int.mul_add]; congr 1; omega
          have := pp hL (show 0 < w - v by omega); omega
        · exact g
    · have h1 := zp l0 (show v - u ≤ 0 by omega)
      have h2 : L * (v - u) ≤ l * (v - u) := Int.mul_le_mul_of_nonpos_right l1 (by omega)
      refine Or.inr ⟨?_, ?_⟩
      · rcases lt_ge w v with g | g
        · have e : L * (w - u) = L * (v - u) + L * (w - v) := by rw [← Int.mul_add]; congr 1; omega
          have := pn hL (show w - v < 0 by omega); omega
        · exact g
      · rcases lt_ge u w with g | g
        · have := pp hL (show 0 < w - u by omega); omega
        · exact g
  refine ⟨?_, bt _ _ _ hx, bt _ _ _ hy⟩
  have z : L * cross a b m = 0 := by
    have e : L * cross a b m = (b.x - a.x) * (L * (m.y - a.y)) - (b.y - a.y) * (L * (m.x - a.x)) := by unfold cross; grind
    rw [e, hx, hy]; grind
  rcases Int.mul_eq_zero.mp z with k | k <;> omega
theorem on_split {a b m c : V} (hne : a ≠ b) (hm : on a b m) (hc : on a b c) : on a m c ∨ on m b c := by
  obtain ⟨L, l, hL, l0, l1, ex, ey⟩ := on_frac hne hm
  obtain ⟨M, k, hM, k0, k1, fx, fy⟩ := on_frac hne hc
  have z1 : cross a m c = 0 := by
    have := frac_cross ex ey c
    rw [hc.1, Int.mul_zero] at this
    rcases Int.mul_eq_zero.mp this with g | g <;> omega
  have z2 : cross m b c = 0 := by
    have : cross a b c = cross a b m + cross m b c + cross a m c := by unfold cross; grind
    rw [hc.1, hm.1, z1] at this
    omega
  have sx : L * M * (m.x - c.x) = (M * l - L * k) * (b.x - a.x) := by
    have e : L * M * (m.x - c.x) = M * (L * (m.x - a.x)) - L * (M * (c.x - a.x)) := by grind
    rw [e, ex, fx]; grind
  have sy : L * M * (m.y - c.y) = (M * l - L * k) * (b.y - a.y) := by
    have e : L * M * (m.y - c.y) = M * (L * (m.y - a.y)) - L * (M * (c.y - a.y)) := by grind
    rw [e, ey, fy]; grind
  have hLM : 0 < L * M := pp hL hM
  have ax := hc.2.1
  have ay := hc.2.2
  have bx := hm.2.1
  have b_y := hm.2.2
  have sg : ∀ u v D : Int, L * M * u = D * v → 0 ≤ D → (0 ≤ v → 0 ≤ u) ∧ (v ≤ 0 → u ≤ 0) := by
    intro u v D h hD
    refine ⟨fun g => ?_, fun g => ?_⟩
    · rcases lt_ge u 0 with f | f
      · have := pn hLM f; have := zn hD g; omega
      · exact f
    · rcases lt_ge 0 u with f | f
      · have := pp hLM f; have := zp hD g; omega
      · exact f
  unfold btw at ax ay bx b_y
  rcases Int.le_total 0 (M * l - L * k) with g | g
  · left
    have s1 := sg _ _ _ sx g
    have s2 := sg _ _ _ sy g
    refine ⟨z1, ?_, ?_⟩
    · unfold btw
      rcases Int.le_total 0 (b.x - a.x) with f | f
      · have := s1.1 f; omega
      · have := s1.2 f; omega
    · unfold btw
      rcases Int.le_total 0 (b.y - a.y) with f | f
      · have := s2.1 f; omega
      · have := s2.2 f; omega
  · right
    have s1 := sg (c.x - m.x) (b.x - a.x) (L * k - M * l) (by have e : L * M * (c.x - m.x) = - (L * M * (m.x - c.x)) := by grind
                                                              rw [e, sx]; grind) (by omega)
    have s2 := sg (c.y - m.y) (b.y - a.y) (L * k - M * l) (by have e : L * M * (c.y - m.y) = - (L * M * (m.y - c.y)) := by grind
                                                              rw [e, sy]; grind) (by omega)
    refine ⟨z2, ?_, ?_⟩
    · unfold btw
      rcases Int.le_total 0 (b.x - a.x) with f | f
      · have := s1.1 f; omega
      · have := s1.2 f; omega
    · unfold btw
      rcases Int.le_total 0 (b.y - a.y) with f | f
      · have := s2.1 f; omega
      · have := s2.2 f; omega
theorem on_meet {a b c d m : V} (h1 : cross a b m = 0) (h2 : cross c d m = 0) (ho : opp (cross a b c) (cross a b d)) : on c d m := by
  have ex : (cross a b d - cross a b c) * (m.x - c.x) = (- cross a b c) * (d.x - c.x) := by
    have e : (cross a b d - cross a b c) * (m.x - c.x) + cross a b c * (d.x - c.x) = cross a b m * (d.x - c.x) - cross c d m * (b.x - a.x) := by unfold cross; grind
    rw [h1, h2] at e
    have := Int.neg_mul (cross a b c) (d.x - c.x)
    omega
  have ey : (cross a b d - cross a b c) * (m.y - c.y) = (- cross a b c) * (d.y - c.y) := by
    have e : (cross a b d - cross a b c) * (m.y - c.y) + cross a b c * (d.y - c.y) = cross a b m * (d.y - c.y) - cross c d m * (b.y - a.y) := by unfold cross; grind
    rw [h1, h2] at e
    have := Int.neg_mul (cross a b c) (d.y - c.y)
    omega
  unfold opp at ho
  rcases ho with ⟨g1, g2⟩ | ⟨g1, g2⟩
  · refine on_of_frac (L := cross a b c - cross a b d) (l := cross a b c) (by omega) (by omega) (by omega) ?_ ?_
    · have e : (cross a b c - cross a b d) * (m.x - c.x) = - ((cross a b d - cross a b c) * (m.x - c.x)) := by grind
      rw [e, ex]; grind
    · have e : (cross a b c - cross a b d) * (m.y - c.y) = - ((cross a b d - cross a b c) * (m.y - c.y)) := by grind
      rw [e, ey]; grind
  · exact on_of_frac (L := cross a b d - cross a b c) (l := - cross a b c) (by omega) (by omega) (by omega) ex ey
theorem Apart.join {a b m c d : V} (hne : a ≠ b) (hm : on a b m) (h1 : Apart a m c d) (h2 : Apart m b c d) : Apart a b c d := by
  obtain ⟨L, l, hL, l0, l1, ex, ey⟩ := on_frac hne hm
  refine ⟨fun k => (on_split hne hm k).elim h1.h1 h2.h1, fun k => (on_split hne hm k).elim h1.h2 h2.h2, h1.h3, h2.h4, fun ⟨k1, k2⟩ => ?_⟩
  have c1 := frac_cross ex ey c
  have c2 := frac_cross ex ey d
  have c3 := frac_cross2 ex ey c d
  have ex' : L * (m.x - b.x) = (L - l) * (a.x - b.x) := by
    have e : L * (m.x - b.x) = L * (m.x - a.x) - L * (b.x - a.x) := by grind
    rw [e, ex]; grind
  have ey' : L * (m.y - b.y) = (L - l) * (a.y - b.y) := by
    have e : L * (m.y - b.y) = L * (m.y - a.y) - L * (b.y - a.y) := by grind
    rw [e, ey]; grind
  have d1 := frac_cross ex' ey' c
  have d2 := frac_cross ex' ey' d
  rw [cross_swap m b, cross_swap a b] at d1 d2
  have hl : l ≠ 0 := fun g => by
    have := frac_zero hL ex ey g
    subst this
    exact h2.h5 ⟨k1, k2⟩
  have hl2 : l ≠ L := fun g => by
    have := frac_one hL ex ey g
    subst this
    exact h1.h5 ⟨k1, k2⟩
  have lp : 0 < l := by omega
  have lq : 0 < L - l := by omega
  have s1 : ∀ u v : Int, L * u = l * v → (0 < v → 0 < u) ∧ (v < 0 → u < 0) := fun u v e => ⟨fun g => pos_of hL (by have := pp lp g; omega), fun g => neg_of hL (by have := pn lp g; omega)⟩
  have s2 : ∀ u v : Int, L * (-u) = (L - l) * (-v) → (0 < v → 0 < u) ∧ (v < 0 → u < 0) := fun u v e => ⟨fun g => by
    have g1 := pn lq (show -v < 0 by omega)
    have := neg_of hL (show L * (-u) < 0 by omega)
    omega, fun g => by
    have g1 := pp lq (show 0 < -v by omega)
    have := pos_of hL (show 0 < L * (-u) by omega)
    omega⟩
  have o1 : opp (cross a m c) (cross a m d) := by
    have a1 := s1 _ _ c1; have a2 := s1 _ _ c2
    unfold opp at k1 ⊢
    rcases k1 with ⟨g1, g2⟩ | ⟨g1, g2⟩
    · exact Or.inl ⟨a1.1 g1, a2.2 g2⟩
    · exact Or.inr ⟨a1.2 g1, a2.1 g2⟩
  have o2 : opp (cross m b c) (cross m b d) := by
    have a1 := s2 _ _ d1; have a2 := s2 _ _ d2
    unfold opp at k1 ⊢
    rcases k1 with ⟨g1, g2⟩ | ⟨g1, g2⟩
    · exact Or.inl ⟨a1.1 g1, a2.2 g2⟩
    · exact Or.inr ⟨a1.2 g1, a2.1 g2⟩
  rcases Int.lt_trichotomy (cross c d m) 0 with g | g | g
  · unfold opp at k2
    rcases k2 with ⟨f1, f2⟩ | ⟨f1, f2⟩
    · exact h1.h5 ⟨o1, Or.inl ⟨f1, g⟩⟩
    · exact h2.h5 ⟨o2, Or.inr ⟨g, f2⟩⟩
  · exact h1.h4 (on_meet hm.1 g k1)
  · unfold opp at k2
    rcases k2 with ⟨f1, f2⟩ | ⟨f1, f2⟩
    · exact h2.h5 ⟨o2, Or.inl ⟨g, f2⟩⟩
    · exact h1.h5 ⟨o1, Or.inr ⟨f1, g⟩⟩
theorem Bend.join {x a m b : V} (hab : a ≠ b) (hm : on a b m) (h : Bend x a m) (far : Apart x a m b) : Bend x a b :=
  ⟨h.ab, hab, far.h2, fun k => (on_split hab hm k).elim h.h2 far.h3⟩
theorem Road.cut {p p' : Nat → V} {m : Nat} (h : Road p (m + 4)) (bA : Bend (p (m + 1)) (p (m + 2)) (p (m + 4))) (bB : Bend (p (m + 2)) (p (m + 4)) (p (m + 5))) (side : ∀ j, 1 ≤ j → j ≤ m → Apart (p (m + 2)) (p (m + 4)) (p j) (p (j + 1))) (e : ∀ j, j < m + 3 → p' j = p j) (per : ∀ j, p' (j + (m + 3)) = p' j) : Road p' (m + 3) := by
  have e0 : p (m + 4) = p 0 := by have := h.per 0; rw [Nat.zero_add] at this; exact this
  have e1 : p (m + 5) = p 1 := by have := h.per 1; rw [show 1 + (m + 4) = m + 5 by omega] at this; exact this
  have q0 : p' (m + 3) = p 0 := by have := per 0; rw [Nat.zero_add] at this; rw [this]; exact e 0 (by omega)
  have q1 : p' (m + 4) = p 1 := by have := per 1; rw [show 1 + (m + 3) = m + 4 by omega] at this; rw [this]; exact e 1 (by omega)
  have old : ∀ i j, i + 2 ≤ j → j ≤ m + 1 → Apart (p' i) (p' (i + 1)) (p' j) (p' (j + 1)) := fun i j h1 h2 => by
    rw [e i (by omega), e (i + 1) (by omega), e j (by omega), e (j + 1) (by omega)]
    exact h.far i j h1 (by omega)
  have new : ∀ j, 1 ≤ j → j ≤ m → Apart (p' (m + 2)) (p' (m + 3)) (p' j) (p' (j + 1)) := fun j h1 h2 => by
    rw [e (m + 2) (by omega), q0, ← e0, e j (by omega), e (j + 1) (by omega)]
    exact side j h1 h2
  have two : ∀ i j, i < j → j ≤ m + 2 → i + 2 ≤ j → (j = m + 2 → 1 ≤ i) → Apart (p' i) (p' (i + 1)) (p' j) (p' (j + 1)) := fun i j h1 h2 h3 h4 => by
    by_cases c : j = m + 2
    · subst c; exact (new i (h4 rfl) (by omega)).flip
    · exact old i j h3 (by omega)
  have sh : ∀ i, p' i = p' (i % (m + 3)) ∧ p' (i + 1) = p' (i % (m + 3) + 1) ∧ p' (i + 2) = p' (i % (m + 3) + 2) := fun i => by
    have f := Nat.mod_add_div i (m + 3)
    refine ⟨?_, ?_, ?_⟩
    · have := per_mod per (i / (m + 3)) (i % (m + 3)); rw [f] at this; exact this
    · have := per_mod per (i / (m + 3)) (i % (m + 3) + 1)
      rw [show i % (m + 3) + 1 + (m + 3) * (i / (m + 3)) = i + 1 by omega] at this; exact this
    · have := per_mod per (i / (m + 3)) (i % (m + 3) + 2)
      rw [show i % (m + 3) + 2 + (m + 3) * (i / (m + 3)) = i + 2 by omega] at this; exact this
  refine ⟨by omega, per, fun i => ?_, fun i j h1 h2 => ?_⟩
  · obtain ⟨s0, s1, s2⟩ := sh i
    rw [s0, s1, s2]
    have lt := Nat.mod_lt i (show 0 < m + 3 by omega)
    generalize i % (m + 3) = t at *
    by_cases c1 : t = m + 1
    · subst c1
      rw [e (m + 1) (by omega), show m + 1 + 1 = m + 2 by omega, e (m + 2) (by omega), show m + 1 + 2 = m + 3 by omega, q0, ← e0]
      exact bA
    · by_cases c2 : t = m + 2
      · subst c2
        rw [e (m + 2) (by omega), show m + 2 + 1 = m + 3 by omega, q0, show m + 2 + 2 = m + 4 by omega, q1, ← e0, ← e1]
        exact bB
      · rw [e t (by omega), e (t + 1) (by omega), e (t + 2) (by omega)]
        exact h.bend t
  · -- the sides' numbers, taken back by whole rounds
    have f := Nat.mod_add_div i (m + 3)
    have lt := Nat.mod_lt i (show 0 < m + 3 by omega)
    obtain ⟨s0, s1, _⟩ := sh i
    rw [s0, s1]
    obtain ⟨w, hw⟩ : ∃ w, j = w + (m + 3) * (i / (m + 3)) := ⟨j - (m + 3) * (i / (m + 3)), by omega⟩
    have g0 := per_mod per (i / (m + 3)) w
    have g1 := per_mod per (i / (m + 3)) (w + 1)
    rw [show w + 1 + (m + 3) * (i / (m + 3)) = j + 1 by omega] at g1
    rw [← hw] at g0
    rw [g0, g1]
    have h1' : i % (m + 3) + 2 ≤ w := by omega
    have h2' : w + 2 ≤ i % (m + 3) + (m + 3) := by omega
    clear f s0 s1 g0 g1 hw h1 h2
    generalize i % (m + 3) = t at *
    by_cases c : w ≤ m + 2
    · exact two t w (by omega) c h1' (fun k => by omega)
    · obtain ⟨v, rfl⟩ : ∃ v, w = v + (m + 3) := ⟨w - (m + 3), by omega⟩
      rw [per, per1 per]
      exact (two v t (by omega) (by omega) (by omega) (fun k => by omega)).flip
theorem Road.drop {p p' : Nat → V} {m : Nat} (h : Road p (m + 4)) (hs : on (p (m + 2)) (p (m + 4)) (p (m + 3))) (e : ∀ j, j < m + 3 → p' j = p j) (per : ∀ j, p' (j + (m + 3)) = p' j) : Road p' (m + 3) := by
  have hab : p (m + 2) ≠ p (m + 4) := by
    have := h.ne (m + 1) (m + 4) (by omega) (by omega)
    exact fun k => this k.symm
  have bA : Bend (p (m + 1)) (p (m + 2)) (p (m + 4)) := (h.bend (m + 1)).join hab hs (h.far (m + 1) (m + 3) (by omega) (by omega))
  have bB : Bend (p (m + 2)) (p (m + 4)) (p (m + 5)) :=
    ((h.bend (m + 3)).back.join (fun k => hab k.symm) (on_swap hs) (h.far (m + 2) (m + 4) (by omega) (by omega)).flip.turn.swap).back
  exact h.cut bA bB (fun j h1 h2 => Apart.join hab hs (h.far j (m + 2) (by omega) (by omega)).flip (h.far j (m + 3) (by omega) (by omega)).flip) e per
theorem A2_drop {p p' : Nat → V} {m : Nat} (per : ∀ j, p (j + (m + 4)) = p j) (hs : cross (p (m + 2)) (p (m + 3)) (p (m + 4)) = 0) (e : ∀ j, j < m + 3 → p' j = p j) (per' : ∀ j, p' (j + (m + 3)) = p' j) : A2 p' (m + 3) = A2 p (m + 4) := by
  have e0 : p (m + 4) = p 0 := by have := per 0; rw [Nat.zero_add] at this; exact this
  have q0 : p' (m + 3) = p 0 := by have := per' 0; rw [Nat.zero_add] at this; rw [this]; exact e 0 (by omega)
  unfold A2
  rw [show m + 4 = m + 2 + 1 + 1 by omega, show m + 3 = m + 2 + 1 by omega]
  rw [su_succ _ (m + 2), su_succ _ (m + 2 + 1), su_succ _ (m + 2)]
  rw [su_congr (f := fun j => (p' j).x * (p' (j + 1)).y - (p' j).y * (p' (j + 1)).x) (g := fun j => (p j).x * (p (j + 1)).y - (p j).y * (p (j + 1)).x) (m + 2) (fun t ht => by rw [e t (by omega), e (t + 1) (by omega)])]
  simp only [show m + 2 + 1 = m + 3 by omega, show m + 3 + 1 = m + 4 by omega]
  rw [e (m + 2) (by omega), q0, ← e0]
  unfold cross at hs
  grind
theorem A2_shift {p : Nat → V} {n : Nat} (per : ∀ j, p (j + n) = p j) (k : Nat) : A2 (fun j => p (k + j)) n = A2 p n :=
  su_turn (f := fun j => (p j).x * (p (j + 1)).y - (p j).y * (p (j + 1)).x) (n := n) (fun j => by show _ = _; rw [per, per1 per]) k
theorem Road.back {p p' : Nat → V} {n : Nat} (h : Road p n) (e : ∀ j, j ≤ 2 * n → p' j = p (2 * n - j)) (per : ∀ j, p' (j + n) = p' j) : Road p' n := by
  have n3 := h.n3
  have sh : ∀ i u, p' (i + u) = p' (i % n + u) := fun i u => by
    have f := Nat.mod_add_div i n
    have := per_mod per (i / n) (i % n + u)
    rw [show i % n + u + n * (i / n) = i + u by omega] at this; exact this
  have sh0 : ∀ i, p' i = p' (i % n) := fun i => sh i 0
  refine ⟨n3, per, fun i => ?_, fun i j h1 h2 => ?_⟩
  · rw [sh0 i, sh i 1, sh i 2]
    have lt := Nat.mod_lt i (show 0 < n by omega)
    generalize i % n = t at *
    rw [e t (by omega), e (t + 1) (by omega), e (t + 2) (by omega)]
    have := (h.bend (2 * n - (t + 2))).back
    rw [show 2 * n - (t + 2) + 1 = 2 * n - (t + 1) by omega, show 2 * n - (t + 2) + 2 = 2 * n - t by omega] at this
    exact this
  · have f := Nat.mod_add_div i n
    have lt := Nat.mod_lt i (show 0 < n by omega)
    rw [sh0 i, sh i 1]
    obtain ⟨w, hw⟩ : ∃ w, j = w + n * (i / n) := ⟨j - n * (i / n), by omega⟩
    have g0 := per_mod per (i / n) w
    have g1 := per_mod per (i / n) (w + 1)
    rw [show w + 1 + n * (i / n) = j + 1 by omega] at g1
    rw [← hw] at g0
    rw [g0, g1]
    have h1' : i % n + 2 ≤ w := by omega
    have h2' : w + 2 ≤ i % n + n := by omega
    clear f g0 g1 hw h1 h2
    generalize i % n = t at *
    rw [e t (by omega), e (t + 1) (by omega), e w (by omega), e (w + 1) (by omega)]
    have := (h.far (2 * n - (w + 1)) (2 * n - (t + 1)) (by omega) (by omega)).flip.turn.swap
    rw [show 2 * n - (w + 1) + 1 = 2 * n - w by omega, show 2 * n - (t + 1) + 1 = 2 * n - t by omega] at this
    exact this
theorem A2_back {p p' : Nat → V} {n : Nat} (per : ∀ j, p (j + n) = p j) (e : ∀ j, j ≤ 2 * n → p' j = p (2 * n - j)) : A2 p' n = - A2 p n := by
  rw [← A2_shift per n]
  unfold A2
  rw [su_rev (fun j => (p (n + j)).x * (p (n + (j + 1))).y - (p (n + j)).y * (p (n + (j + 1))).x) n, ← su_neg]
  refine su_congr n (fun t ht => ?_)
  show (p' t).x * (p' (t + 1)).y - (p' t).y * (p' (t + 1)).x = _
  rw [e t (by omega), e (t + 1) (by omega), show 2 * n - t = n + (n - 1 - t + 1) by omega, show 2 * n - (t + 1) = n + (n - 1 - t) by omega]
  grind
theorem rim_one {p : Nat → V} {n : Nat} (h : Road p n) (q : V) : su (rimAt p q) n = ind (¬ Off p q) := by
  by_cases off : Off p q
  · rw [ind_f (fun k => k off)]
    exact su_zero n (fun t _ => ind_f (fun k => off t k.1))
  · rw [ind_t off]
    have hex : ∃ i, on (p i) (p (i + 1)) q := Classical.byContradiction (fun k => off (fun j hj => k ⟨j, hj⟩))
    obtain ⟨i, hi⟩ := hex
    have h3 := h.n3
    rw [← h.per i, ← per1 h.per i] at hi
    obtain ⟨m, hm⟩ : ∃ m, i + n = m + 1 := ⟨i + n - 1, by omega⟩
    rw [hm] at hi
    by_cases c1 : q = p (m + 1)
    · rw [c1]; exact (at_corner h m).1
    · by_cases c2 : q = p (m + 2)
      · rw [c2]; exact (at_corner h (m + 1)).1
      · exact (at_side h m hi c1 c2).1
theorem right_of {p : Nat → V} {n : Nat} {q : V} (h : ∀ j, (p j).x < q.x) : Off p q ∧ W p n q = 0 := by
  refine ⟨fun j hj => ?_, su_zero n (fun t _ => ?_)⟩
  · have := hj.2.1; have := h j; have := h (j + 1); unfold btw at *; omega
  · have h1 := h t
    have h2 := h (t + 1)
    rcases Int.lt_trichotomy (p t).y (p (t + 1)).y with g | g | g
    · exact cr_right (x := q.x) (y := q.y) g (by omega) (by omega)
    · unfold cr; rw [if_neg (by omega), if_neg (by omega)]
    · have := cr_right (x := q.x) (y := q.y) g (show (p (t + 1)).x ≤ q.x by omega) (show (p t).x ≤ q.x by omega)
      rw [cr_swap (p (t + 1)) (p t)]
      have e : (⟨q.x, q.y⟩ : V) = q := rfl
      rw [e] at this
      omega
end Go.Proofs.Ytlccpkggdmngaaa.Pick
