/- Some texts of this claim in one: Pbf, Plx, Prt. Written by pack.py (a program of this session). No conditions but those in the theorems. -/
import Derived.Test.YtlfifpkigapabaaPj
import Derived.Test.YtlfifpkigapabaaFA
/- The order of points, and that a list has a first one. No conditions but those in the theorems. -/
namespace Go.Proofs.Ytlfifpkigapabaa.G
open Go.RowKit Go.Proofs.YtlfifpkigapabaaW.PrintWords Go.Proofs.YtlfifpkigapabaaW.PrintLast Go.Proofs.YtlfifpkigapabaaW.PrintMore
set_option linter.unusedSimpArgs false
set_option linter.unusedVariables false
/-- The order of points. -/
def bef (p q : Pt) : Prop := p.f1 < q.f1 ∨ (p.f1 = q.f1 ∧ p.f0 < q.f0)
theorem bef_trans {p q r : Pt} (h1 : bef p q) (h2 : bef q r) : bef p r := by unfold bef at *; omega
theorem bef_irrefl (p : Pt) : ¬ bef p p := by unfold bef; omega
theorem bef_total (p q : Pt) : bef p q ∨ p = q ∨ bef q p := by
  unfold bef
  by_cases h : p = q
  · exact Or.inr (Or.inl h)
  · have : ¬ (p.f0 = q.f0 ∧ p.f1 = q.f1) := fun ⟨a, b⟩ => h (pt_ext a b)
    omega
def beq' (p q : Pt) : Prop := p = q ∨ bef p q
theorem beq'_bef {p q r : Pt} (h1 : beq' p q) (h2 : bef q r) : bef p r := by
  rcases h1 with h | h
  · subst h; exact h2
  · exact bef_trans h h2
theorem bef_beq' {p q r : Pt} (h1 : bef p q) (h2 : beq' q r) : bef p r := by
  rcases h2 with h | h
  · subst h; exact h1
  · exact bef_trans h1 h
theorem beq'_total (p q : Pt) : beq' p q ∨ beq' q p := by
  rcases bef_total p q with h | h | h
  · exact Or.inl (Or.inr h)
  · exact Or.inl (Or.inl h)
  · exact Or.inr (Or.inr h)
theorem beq'_trans {p q r : Pt} (h1 : beq' p q) (h2 : beq' q r) : beq' p r := by
  rcases h2 with h | h
  · subst h; exact h1
  · exact Or.inr (beq'_bef h1 h)
theorem first_exists : ∀ l : List Pt, l ≠ [] → ∃ f ∈ l, ∀ y ∈ l, beq' f y
  | [], h => absurd rfl h
  | [a], _ => ⟨a, by simp, fun y hy => by simp at hy; exact Or.inl hy.symm⟩
  | a :: b :: r, _ => by
    obtain ⟨f, hf, h⟩ := first_exists (b :: r) (by simp)
    rcases beq'_total a f with g | g
    · refine ⟨a, by simp, fun y hy => ?_⟩
      rcases List.mem_cons.1 hy with k | k
      · exact Or.inl k.symm
      · exact beq'_trans g (h y k)
    · refine ⟨f, by simp [hf], fun y hy => ?_⟩
      rcases List.mem_cons.1 hy with k | k
      · subst k; exact g
      · exact h y k
end Go.Proofs.Ytlfifpkigapabaa.G
/- Lists of points in their order, and the first one of some: plain laws. No conditions but those in the theorems. -/
namespace Go.Proofs.Ytlfifpkigapabaa.G
open Go.RowKit Go.Proofs.YtlfifpkigapabaaW.PrintWords Go.Proofs.YtlfifpkigapabaaW.PrintLast Go.Proofs.YtlfifpkigapabaaW.PrintMore
set_option linter.unusedSimpArgs false
set_option linter.unusedVariables false
instance (p q : Pt) : Decidable (bef p q) := by unfold bef; exact inferInstance
/-- a list is before another one. -/
def ltL : List Pt → List Pt → Bool
  | a :: r, b :: s => if a = b then ltL r s else decide (bef a b)
  | _, _ => false
theorem ltL_self : ∀ a : List Pt, ltL a a = false
  | [] => rfl
  | a :: r => by unfold ltL; rw [if_pos rfl]; exact ltL_self r
theorem ltL_trans : ∀ {a b c : List Pt}, a.length = b.length → b.length = c.length → ltL a b = true → ltL b c = true → ltL a c = true
  | [], [], _, _, _, h, _ => by simp [ltL] at h
  | a :: r, b :: s, c :: t, h1, h2, h3, h4 => by
    unfold ltL at *
    by_cases e1 : a = b
    · subst e1
      rw [if_pos rfl] at h3
      by_cases e2 : a = c
      · subst e2; rw [if_pos rfl] at h4 ⊢
        exact ltL_trans (by simpa using h1) (by simpa using h2) h3 h4
      · rw [if_neg e2] at h4 ⊢; exact h4
    · rw [if_neg e1, decide_eq_true_eq] at h3
      by_cases e2 : b = c
      · subst e2; rw [if_neg e1, decide_eq_true_eq]; exact h3
      · rw [if_neg e2, decide_eq_true_eq] at h4
        have := bef_trans h3 h4
        rw [if_neg (fun e => by rw [e] at this; exact bef_irrefl _ this), decide_eq_true_eq]; exact this
theorem ltL_total : ∀ {a b : List Pt}, a.length = b.length → ltL a b = false → ltL b a = false → a = b
  | [], [], _, _, _ => rfl
  | a :: r, b :: s, h, h1, h2 => by
    unfold ltL at *
    by_cases e : a = b
    · subst e
      rw [if_pos rfl] at h1 h2
      rw [ltL_total (by simpa using h) h1 h2]
    · rw [if_neg e, decide_eq_false_iff_not] at h1
      rw [if_neg (Ne.symm e), decide_eq_false_iff_not] at h2
      rcases bef_total a b with g | g | g
      · exact absurd g h1
      · exact absurd g e
      · exact absurd g h2
def pickL (best c : List Pt) : List Pt := if ltL c best = true then c else best
theorem pickL_len {n : Nat} {b c : List Pt} (hb : b.length = n) (hc : c.length = n) : (pickL b c).length = n := by unfold pickL; split <;> assumption
/-- The first one of cs and b. -/
structure IsMin (n : Nat) (P : List Pt → Prop) (r : List Pt) : Prop where
  mem : P r
  len : r.length = n
  low : ∀ c, P c → ltL c r = false
theorem IsMin.unique {n : Nat} {P : List Pt → Prop} (hl : ∀ c, P c → c.length = n) {r s : List Pt} (h1 : IsMin n P r) (h2 : IsMin n P s) : r = s :=
  ltL_total (by rw [h1.len, h2.len]) (h2.low r h1.mem) (h1.low s h2.mem)
theorem IsMin.pick {n : Nat} {P : List Pt → Prop} {b c : List Pt} (h : IsMin n P b) (hc : c.length = n) (hl : ∀ c, P c → c.length = n) : IsMin n (fun x => P x ∨ x = c) (pickL b c) := by
  refine ⟨?_, pickL_len h.len hc, fun x hx => ?_⟩
  · unfold pickL; split
    · exact Or.inr rfl
    · exact Or.inl h.mem
  · unfold pickL
    by_cases g : ltL c b = true
    · rw [if_pos g]
      rcases hx with k | k
      · rw [Bool.eq_false_iff]
        intro e
        have := ltL_trans (by rw [hl x k, hc]) (by rw [hc, h.len]) e g
        rw [h.low x k] at this; cases this
      · subst k; exact ltL_self x
    · rw [if_neg g]
      rcases hx with k | k
      · exact h.low x k
      · subst k; exact Bool.eq_false_iff.2 g
theorem IsMin.iff {n : Nat} {P Q : List Pt → Prop} {b : List Pt} (h : IsMin n P b) (e : ∀ x, P x ↔ Q x) : IsMin n Q b :=
  ⟨(e b).1 h.mem, h.len, fun c hc => h.low c ((e c).2 hc)⟩
theorem IsMin.one {n : Nat} {c : List Pt} (hc : c.length = n) : IsMin n (fun x => x = c) c := ⟨rfl, hc, fun x hx => by subst hx; exact ltL_self x⟩
end Go.Proofs.Ytlfifpkigapabaa.G
/- Lists from another corner on, and turned round: plain laws of lists. No conditions but those in the theorems. -/
namespace Go.Proofs.Ytlfifpkigapabaa.G
open Go.RowKit Go.Proofs.YtlfifpkigapabaaW.PrintWords Go.Proofs.YtlfifpkigapabaaW.PrintLast Go.Proofs.YtlfifpkigapabaaW.PrintMore
set_option linter.unusedSimpArgs false
set_option linter.unusedVariables false
def turnL (l : List Pt) : List Pt := l.take 1 ++ (l.drop 1).reverse
def rotL (l : List Pt) (k : Nat) : List Pt := l.drop k ++ l.take k
theorem turnL_length (l : List Pt) : (turnL l).length = l.length := by unfold turnL; simp; omega
theorem rotL_length (l : List Pt) (k : Nat) : (rotL l k).length = l.length := by unfold rotL; simp; omega
theorem mem_turnL {l : List Pt} {x : Pt} : x ∈ turnL l ↔ x ∈ l := by
  cases l with
  | nil => simp [turnL]
  | cons a r => simp [turnL]
theorem mem_rotL {l : List Pt} {k : Nat} {x : Pt} : x ∈ rotL l k ↔ x ∈ l := by
  unfold rotL
  rw [List.mem_append, Or.comm, ← List.mem_append, List.take_append_drop]
theorem turnL_turnL (l : List Pt) : turnL (turnL l) = l := by
  cases l with
  | nil => rfl
  | cons a r => simp [turnL]
theorem turn_rot {l : List Pt} {k : Nat} (hk : k < l.length) : ∃ j, j < l.length ∧ turnL (rotL l k) = rotL (turnL l) j := by
  by_cases h0 : k = 0
  · subst h0
    exact ⟨0, hk, by simp [rotL]⟩
  · match l, hk with
    | a :: r, hk =>
      obtain ⟨k, rfl⟩ : ∃ m, k = m + 1 := ⟨k - 1, by omega⟩
      have hk' : k < r.length := by simpa using hk
      have e : r = r.take k ++ r[k] :: r.drop (k + 1) := by rw [← List.drop_eq_getElem_cons hk', List.take_append_drop]
      generalize ht : r.take k = t at e
      generalize hd : r.drop (k + 1) = d at e
      generalize hx : r[k] = x at e
      have lt : t.length = k := by rw [← ht]; simp; omega
      have ld : d.length = r.length - (k + 1) := by rw [← hd]; simp
      refine ⟨d.length + 1, by simp; omega, ?_⟩
      have e1 : rotL (a :: r) (k + 1) = x :: d ++ a :: t := by
        unfold rotL
        simp only [List.drop_succ_cons, List.take_succ_cons]
        rw [ht, List.drop_eq_getElem_cons hk', hd, hx]
      have e2 : turnL (a :: r) = (a :: d.reverse) ++ x :: t.reverse := by
        unfold turnL; rw [e]; simp
      rw [e1, e2]
      have e3 : rotL ((a :: d.reverse) ++ x :: t.reverse) (d.length + 1) = x :: t.reverse ++ a :: d.reverse := by
        unfold rotL
        rw [List.drop_left' (by simp), List.take_left' (by simp)]
      rw [e3]
      simp [turnL]
theorem rot_turn {l : List Pt} {k : Nat} (hk : k < l.length) : ∃ j, j < l.length ∧ rotL (turnL l) k = turnL (rotL l j) := by
  obtain ⟨j, hj, e⟩ := turn_rot (l := turnL l) (k := k) (by rw [turnL_length]; exact hk)
  rw [turnL_turnL] at e
  refine ⟨j, by rw [turnL_length] at hj; exact hj, ?_⟩
  rw [← e, turnL_turnL]
end Go.Proofs.Ytlfifpkigapabaa.G
