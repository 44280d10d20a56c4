/- Both functions for how two segments meet come to one number, where the coordinates are small. The bounds stand in each theorem. -/
import Derived.Test.YtlceoghkhgihdaaPb
import Derived.Test.YtlceoghkhgihdaaF49
import Derived.Test.YtlceoghkhgihdaaF51
namespace Go.Proofs.Ytlceoghkhgihdaa.G
open Go.RowKit Go.Proofs.YtlceoghkhgihdaaW.PrintWords Go.Proofs.YtlceoghkhgihdaaW.PrintLast Go.Proofs.YtlceoghkhgihdaaW.PrintMore
set_option linter.unusedSimpArgs false
set_option linter.unusedVariables false
def smp (p : Pt) : Prop := sm p.f0 ∧ sm p.f1
def crossP (a b p : Pt) : Int := crossI a.f0 a.f1 b.f0 b.f1 p.f0 p.f1
def onP (a b p : Pt) : Bool := onI a.f0 a.f1 b.f0 b.f1 p.f0 p.f1
theorem pt_beq (p q : Pt) : (p.f0 == q.f0 && (p.f1 == q.f1)) = decide (p = q) := by
  by_cases h : p = q
  · subst h; simp
  · rw [decide_eq_false h, ← Bool.not_eq_true, Bool.and_eq_true, beq_iff_eq, beq_iff_eq]
    exact fun ⟨h0, h1⟩ => h (pt_ext h0 h1)
/-- The points that the segments share, as the reference lists them. -/
def shared (a b c d : Pt) : List Pt := (if onP c d a then [a] else []) ++ ((if onP c d b then [b] else []) ++ ((if onP a b c then [c] else []) ++ (if onP a b d then [d] else [])))
def crosses (a b c d : Pt) : Prop := sgn (crossP a b c) * sgn (crossP a b d) < 0 ∧ sgn (crossP c d a) * sgn (crossP c d b) < 0
instance (a b c d : Pt) : Decidable (crosses a b c d) := by unfold crosses; exact inferInstance
def two (l : List Pt) : Prop := ∃ x ∈ l, ∃ y ∈ l, x ≠ y
open Classical in
/-- How two segments meet. -/
noncomputable def meetI (a b c d : Pt) : Int := if two (shared a b c d) then 3 else if shared a b c d = [] then (if crosses a b c d then 2 else 0) else 1
theorem sgn_cases (n : Int) : sgn n = 1 ∨ sgn n = -1 ∨ sgn n = 0 := by unfold sgn; split; simp; split <;> simp
theorem sgn_mul_wrap (m n : Int) : wrap64 (sgn m * sgn n) = sgn m * sgn n := by
  rcases sgn_cases m with h | h | h <;> rcases sgn_cases n with g | g | g <;> rw [h, g] <;> exact wrap64_id (by omega) (by omega)
theorem sgn_zero : sgn 0 = 0 := rfl
theorem onP_cross {a b p : Pt} (h : onP a b p = true) : crossP a b p = 0 := by
  unfold onP onI at h; simp only [Bool.and_eq_true, decide_eq_true_eq] at h; exact h.1.1.1.1
theorem crosses_shared {a b c d : Pt} (h : crosses a b c d) : shared a b c d = [] := by
  obtain ⟨h1, h2⟩ := h
  have ha : onP c d a = false := by rw [← Bool.not_eq_true]; intro e; rw [onP_cross e, sgn_zero, Int.zero_mul] at h2; omega
  have hb : onP c d b = false := by rw [← Bool.not_eq_true]; intro e; rw [onP_cross e, sgn_zero, Int.mul_zero] at h2; omega
  have hc : onP a b c = false := by rw [← Bool.not_eq_true]; intro e; rw [onP_cross e, sgn_zero, Int.zero_mul] at h1; omega
  have hd : onP a b d = false := by rw [← Bool.not_eq_true]; intro e; rw [onP_cross e, sgn_zero, Int.mul_zero] at h1; omega
  simp [shared, ha, hb, hc, hd]
/-! the program's list of ends -/
theorem add_eq (xs : List Pt) (p : Pt) : impl_meet.add xs p.f0 p.f1 = if p ∈ xs then xs else xs ++ [p] := by
  unfold impl_meet.add
  have e : (xs.any fun q => p.f0 == q.f0 && (p.f1 == q.f1)) = decide (p ∈ xs) := by
    rw [Bool.eq_iff_iff, List.any_eq_true, decide_eq_true_eq]
    constructor
    · rintro ⟨q, hq, h⟩
      rw [pt_beq, decide_eq_true_eq] at h
      exact h ▸ hq
    · intro h
      exact ⟨p, h, by simp⟩
  rw [e]
  by_cases h : p ∈ xs <;> simp [h]
def stepP (o : Bool) (xs : List Pt) (p : Pt) : List Pt := if o = true then (if p ∈ xs then xs else xs ++ [p]) else xs
theorem step_eq (o : Bool) (xs : List Pt) (p : Pt) : impl_meet.step o xs p.f0 p.f1 = stepP o xs p := by
  unfold impl_meet.step stepP; rw [add_eq]
theorem step_mem (o : Bool) (xs : List Pt) (p x : Pt) : x ∈ stepP o xs p ↔ x ∈ xs ∨ (o = true ∧ x = p) := by
  unfold stepP
  cases o
  · simp
  · by_cases h : p ∈ xs
    · simp only [if_true, if_pos h]; constructor
      · exact Or.inl
      · rintro (h1 | ⟨_, rfl⟩); exact h1; exact h
    · simp [h]
theorem step_nodup (o : Bool) (xs : List Pt) (p : Pt) (h : xs.Nodup) : (stepP o xs p).Nodup := by
  unfold stepP
  cases o
  · simpa using h
  · by_cases hp : p ∈ xs
    · simpa [hp] using h
    · simp only [if_true, if_neg hp]
      rw [List.nodup_append]
      exact ⟨h, by simp, fun a ha b hb => by simp at hb; subst hb; exact fun e => hp (e ▸ ha)⟩
theorem onW_eq {a b p : Pt} (ha : smp a) (hb : smp b) (hp : smp p) : impl_meet.onW a.f0 a.f1 b.f0 b.f1 p.f0 p.f1 = onP a b p := by
  unfold impl_meet.onW; rw [impl_on_eq ha.1 ha.2 hb.1 hb.2 hp.1 hp.2]; rfl
def endsP (a b c d : Pt) : List Pt := stepP (onP c d b) (stepP (onP c d a) (stepP (onP a b d) (stepP (onP a b c) [] c) d) a) b
theorem all_eq {a b c d : Pt} (ha : smp a) (hb : smp b) (hc : smp c) (hd : smp d) : impl_meet.all a.f0 a.f1 b.f0 b.f1 c.f0 c.f1 d.f0 d.f1 = endsP a b c d := by
  unfold impl_meet.all impl_meet.ends endsP
  simp only [show ¬ ((2 : Int) ≤ 0) by omega, show ¬ ((2 : Int) ≤ 1) by omega, if_false]
  rw [onW_eq ha hb hc, onW_eq ha hb hd, onW_eq hc hd ha, onW_eq hc hd hb]
  simp only [step_eq]
theorem ends_mem (a b c d x : Pt) : x ∈ endsP a b c d ↔ x ∈ shared a b c d := by
  unfold endsP shared
  simp only [step_mem, List.mem_append]
  cases onP a b c <;> cases onP a b d <;> cases onP c d a <;> cases onP c d b <;> simp <;> grind
theorem ends_nodup (a b c d : Pt) : (endsP a b c d).Nodup := step_nodup _ _ _ (step_nodup _ _ _ (step_nodup _ _ _ (step_nodup _ _ _ List.nodup_nil)))
theorem two_iff {l m : List Pt} (hn : l.Nodup) (hm : ∀ x, x ∈ l ↔ x ∈ m) : 1 < l.length ↔ two m := by
  match l, hn, hm with
  | [], _, hm =>
    constructor
    · intro h; simp at h
    · rintro ⟨x, hx, _⟩; exact absurd ((hm x).2 hx) (by simp)
  | [p], _, hm =>
    constructor
    · intro h; simp at h
    · rintro ⟨x, hx, y, hy, hxy⟩
      have h1 := (hm x).2 hx
      have h2 := (hm y).2 hy
      simp at h1 h2
      exact absurd (h1.trans h2.symm) hxy
  | p :: q :: r, hn, hm =>
    constructor
    · intro _
      exact ⟨p, (hm p).1 (by simp), q, (hm q).1 (by simp), fun e => by subst e; simp at hn⟩
    · intro _; simp
theorem nil_iff {l m : List Pt} (hm : ∀ x, x ∈ l ↔ x ∈ m) : l = [] ↔ m = [] := by
  constructor
  · rintro rfl; exact List.eq_nil_iff_forall_not_mem.2 fun x hx => absurd ((hm x).2 hx) (by simp)
  · rintro rfl; exact List.eq_nil_iff_forall_not_mem.2 fun x hx => absurd ((hm x).1 hx) (by simp)
theorem impl_meet_eq {a b c d : Pt} (ha : smp a) (hb : smp b) (hc : smp c) (hd : smp d) : impl_meet.f a.f0 a.f1 b.f0 b.f1 c.f0 c.f1 d.f0 d.f1 = some (meetI a b c d) := by
  unfold impl_meet.f meetI
  rw [all_eq ha hb hc hd]
  have h2 := two_iff (ends_nodup a b c d) (ends_mem a b c d)
  have h0 := nil_iff (ends_mem a b c d)
  by_cases ht : two (shared a b c d)
  · rw [if_pos (by have := h2.2 ht; omega), if_pos ht]
  · have hl : ¬ 1 < (endsP a b c d).length := fun h => ht (h2.1 h)
    rw [if_neg (by omega), if_neg ht]
    by_cases he : shared a b c d = []
    · have hl0 : (endsP a b c d).length = 0 := by rw [h0.2 he]; rfl
      rw [if_neg (by omega), if_pos he]
      rw [impl_cross_eq ha.1 ha.2 hb.1 hb.2 hc.1 hc.2, impl_cross_eq ha.1 ha.2 hb.1 hb.2 hd.1 hd.2, impl_cross_eq hc.1 hc.2 hd.1 hd.2 ha.1 ha.2, impl_cross_eq hc.1 hc.2 hd.1 hd.2 hb.1 hb.2]
      simp only [Option.bind_some, impl_sign_eq, sgn_mul_wrap]
      by_cases k1 : sgn (crossI a.f0 a.f1 b.f0 b.f1 c.f0 c.f1) * sgn (crossI a.f0 a.f1 b.f0 b.f1 d.f0 d.f1) < 0
      · by_cases k2 : sgn (crossI c.f0 c.f1 d.f0 d.f1 a.f0 a.f1) * sgn (crossI c.f0 c.f1 d.f0 d.f1 b.f0 b.f1) < 0
        · rw [if_pos k1, if_pos k2, if_pos (show crosses a b c d from ⟨k1, k2⟩)]
        · rw [if_pos k1, if_neg k2, if_neg (fun h : crosses a b c d => k2 h.2)]
      · rw [if_neg k1, if_neg (fun h : crosses a b c d => k1 h.1)]
    · have hl1 : (endsP a b c d).length = 1 := by
        have : ¬ endsP a b c d = [] := fun h => he (h0.1 h)
        have := List.length_pos_iff.2 this
        omega
      rw [if_pos (by omega), if_neg he]
/-! the reference's list of ends -/
theorem spec_onW_eq {a b p : Pt} (ha : smp a) (hb : smp b) (hp : smp p) : spec_l02Meet.onW a.f0 a.f1 b.f0 b.f1 p.f0 p.f1 = onP a b p := by
  unfold spec_l02Meet.onW; rw [spec_on_eq ha.1 ha.2 hb.1 hb.2 hp.1 hp.2]; rfl
theorem spec_all_eq {a b c d : Pt} (ha : smp a) (hb : smp b) (hc : smp c) (hd : smp d) : spec_l02Meet.all a.f0 a.f1 b.f0 b.f1 c.f0 c.f1 d.f0 d.f1 = shared a b c d := by
  unfold spec_l02Meet.all spec_l02Meet.ends spec_l02Meet.step shared
  simp only [show ¬ ((2 : Int) ≤ 0) by omega, show ¬ ((2 : Int) ≤ 1) by omega, if_false]
  rw [spec_onW_eq ha hb hc, spec_onW_eq ha hb hd, spec_onW_eq hc hd ha, spec_onW_eq hc hd hb]
  cases onP a b c <;> cases onP a b d <;> cases onP c d a <;> cases onP c d b <;> simp
theorem two_any (l : List Pt) (h : l ≠ []) : ((List.range l.length).any fun x => spec_l02Meet.neq l (x : Int)) = true ↔ two l := by
  obtain ⟨p, m, rfl⟩ := List.exists_cons_of_ne_nil h
  have hp : rd_T26 (p :: m) 0 = p := rd_at (p :: m) 0 (by simp)
  have hn : ∀ i (hi : i < (p :: m).length), spec_l02Meet.neq (p :: m) (i : Int) = decide ((p :: m)[i] ≠ p) := by
    intro i hi
    unfold spec_l02Meet.neq
    rw [rd_at _ i hi, hp, pt_beq, decide_not]
  rw [List.any_eq_true]
  constructor
  · rintro ⟨i, hi, e⟩
    rw [List.mem_range] at hi
    rw [hn i hi, decide_eq_true_eq] at e
    exact ⟨_, List.getElem_mem hi, p, by simp, e⟩
  · rintro ⟨x, hx, y, hy, hxy⟩
    have : ∃ z ∈ p :: m, z ≠ p := by
      by_cases hxp : x = p
      · exact ⟨y, hy, fun e => hxy (hxp.trans e.symm)⟩
      · exact ⟨x, hx, hxp⟩
    obtain ⟨z, hz, hzp⟩ := this
    obtain ⟨i, hi, rfl⟩ := List.mem_iff_getElem.1 hz
    exact ⟨i, List.mem_range.2 hi, by rw [hn i hi, decide_eq_true_eq]; exact hzp⟩
open Classical in
theorem tail_eq (l : List Pt) : spec_l02Meet.tail l = some (if two l then 3 else if l = [] then 0 else 1) := by
  unfold spec_l02Meet.tail
  by_cases h : l = []
  · subst h
    have : ¬ two ([] : List Pt) := by rintro ⟨x, hx, _⟩; simp at hx
    simp [this]
  · have hl : ¬ ((l.length : Int) = 0) := by
      have := List.length_pos_iff.2 h
      omega
    rw [if_neg hl, if_neg h]
    by_cases ht : two l
    · rw [if_pos ((two_any l h).2 ht), if_pos ht]
    · rw [if_neg (fun e => ht ((two_any l h).1 e)), if_neg ht]
theorem spec_l02Meet_eq {a b c d : Pt} (ha : smp a) (hb : smp b) (hc : smp c) (hd : smp d) : spec_l02Meet.f a.f0 a.f1 b.f0 b.f1 c.f0 c.f1 d.f0 d.f1 = some (meetI a b c d) := by
  unfold spec_l02Meet.f
  rw [spec_cross_eq ha.1 ha.2 hb.1 hb.2 hc.1 hc.2, spec_cross_eq ha.1 ha.2 hb.1 hb.2 hd.1 hd.2, spec_cross_eq hc.1 hc.2 hd.1 hd.2 ha.1 ha.2, spec_cross_eq hc.1 hc.2 hd.1 hd.2 hb.1 hb.2]
  simp only [Option.bind_some, spec_sign_eq, sgn_mul_wrap]
  rw [spec_all_eq ha hb hc hd, tail_eq]
  by_cases hx : crosses a b c d
  · have e : (decide (sgn (crossI a.f0 a.f1 b.f0 b.f1 c.f0 c.f1) * sgn (crossI a.f0 a.f1 b.f0 b.f1 d.f0 d.f1) < 0) && decide (sgn (crossI c.f0 c.f1 d.f0 d.f1 a.f0 a.f1) * sgn (crossI c.f0 c.f1 d.f0 d.f1 b.f0 b.f1) < 0)) = true := by
      rw [Bool.and_eq_true, decide_eq_true_eq, decide_eq_true_eq]; exact hx
    rw [if_pos e]
    unfold meetI
    have hs := crosses_shared hx
    have ht : ¬ two (shared a b c d) := by rw [hs]; rintro ⟨x, hx, _⟩; simp at hx
    rw [if_neg ht, if_pos hs, if_pos hx]
  · have e : ¬ (decide (sgn (crossI a.f0 a.f1 b.f0 b.f1 c.f0 c.f1) * sgn (crossI a.f0 a.f1 b.f0 b.f1 d.f0 d.f1) < 0) && decide (sgn (crossI c.f0 c.f1 d.f0 d.f1 a.f0 a.f1) * sgn (crossI c.f0 c.f1 d.f0 d.f1 b.f0 b.f1) < 0)) = true := by
      rw [Bool.and_eq_true, decide_eq_true_eq, decide_eq_true_eq]; exact hx
    rw [if_neg e]
    unfold meetI
    rw [if_neg hx]
end Go.Proofs.Ytlceoghkhgihdaa.G
