/- Some texts of this claim in one: Pe, Pf, Ph, Pi. Written by pack.py (a program of this session). No conditions but those in the theorems. -/
import Derived.Test.YtlccpkggdmngaaaFA
import Derived.Test.YtlccpkggdmngaaaF103
import Derived.Test.YtlccpkggdmngaaaF56
import Derived.Test.YtlccpkggdmngaaaF70
import Derived.Test.YtlccpkggdmngaaaF13
/- Both functions for how two segments meet come to one number, where the coordinates are small. The bounds stand in each theorem. -/
namespace Go.Proofs.Ytlccpkggdmngaaa.G
open Go.RowKit Go.Proofs.YtlccpkggdmngaaaW.PrintWords Go.Proofs.YtlccpkggdmngaaaW.PrintLast Go.Proofs.YtlccpkggdmngaaaW.PrintMore
set_option linter.unusedSimpArgs false
set_option linter.unusedVariables false
def smp (p : Pt) : Prop := sm p.f0 ∧ sm p.f1
def crossP (a b p : Pt) : Int := crossI a.f0 a.f1 b.f0 b.f1 p.f0 p.f1
def onP (a b p : Pt) : Bool := onI a.f0 a.f1 b.f0 b.f1 p.f0 p.f1
theorem pt_beq (p q : Pt) : (p.f0 == q.f0 && (p.f1 == q.f1)) = decide (p = q) := by
  by_cases h : p = q
  · subst h; simp
  · rw [decide_eq_false h, ← Bool.not_eq_true, Bool.and_eq_true, beq_iff_eq, beq_iff_eq]
    exact fun ⟨h0, h1⟩ => h (pt_ext h0 h1)
/-- The points that the segments share, as the reference lists them. -/
def shared (a b c d : Pt) : List Pt := (if onP c d a then [a] else []) ++ ((if onP c d b then [b] else []) ++ ((if onP a b c then [c] else []) ++ (if onP a b d then [d] else [])))
def crosses (a b c d : Pt) : Prop := sgn (crossP a b c) * sgn (crossP a b d) < 0 ∧ sgn (crossP c d a) * sgn (crossP c d b) < 0
instance (a b c d : Pt) : Decidable (crosses a b c d) := by unfold crosses; exact inferInstance
def two (l : List Pt) : Prop := ∃ x ∈ l, ∃ y ∈ l, x ≠ y
open Classical in
/-- How two segments meet. -/
noncomputable def meetI (a b c d : Pt) : Int := if two (shared a b c d) then 3 else if shared a b c d = [] then (if crosses a b c d then 2 else 0) else 1
theorem sgn_cases (n : Int) : sgn n = 1 ∨ sgn n = -1 ∨ sgn n = 0 := by unfold sgn; split; simp; split <;> simp
theorem sgn_mul_wrap (m n : Int) : wrap64 (sgn m * sgn n) = sgn m * sgn n := by
  rcases sgn_cases m with h | h | h <;> rcases sgn_cases n with g | g | g <;> rw [h, g] <;> exact wrap64_id (by omega) (by omega)
theorem sgn_zero : sgn 0 = 0 := rfl
theorem onP_cross {a b p : Pt} (h : onP a b p = true) : crossP a b p = 0 := by
  unfold onP onI at h; simp only [Bool.and_eq_true, decide_eq_true_eq] at h; exact h.1.1.1.1
theorem crosses_shared {a b c d : Pt} (h : crosses a b c d) : shared a b c d = [] := by
  obtain ⟨h1, h2⟩ := h
  have ha : onP c d a = false := by rw [← Bool.not_eq_true]; intro e; rw [onP_cross e, sgn_zero, Int.zero_mul] at h2; omega
  have hb : onP c d b = false := by rw [← Bool.not_eq_true]; intro e; rw [onP_cross e, sgn_zero, Int.mul_zero] at h2; omega
  have hc : onP a b c = false := by rw [← Bool.not_eq_true]; intro e; rw [onP_cross e, sgn_zero, Int.zero_mul] at h1; omega
  have hd : onP a b d = false := by rw [← Bool.not_eq_true]; intro e; rw [onP_cross e, sgn_zero, Int.mul_zero] at h1; omega
  simp [shared, ha, hb, hc, hd]
/-! the program's list of ends -/
theorem add_eq (xs : List Pt) (p : Pt) : impl_meet.add xs p.f0 p.f1 = if p ∈ xs then xs else xs ++ [p] := by
  unfold impl_meet.add
  have e : (xs.any fun q => p.f0 == q.f0 && (p.f1 == q.f1)) = decide (p ∈ xs) := by
    rw [Bool.eq_iff_iff, List.any_eq_true, decide_eq_true_eq]
    constructor
    · rintro ⟨q, hq, h⟩
      rw [pt_beq, decide_eq_true_eq] at h
      exact h ▸ hq
    · intro h
      exact ⟨p, h, by simp⟩
  rw [e]
  by_cases h : p ∈ xs <;> simp [h]
def stepP (o : Bool) (xs : List Pt) (p : Pt) : List Pt := if o = true then (if p ∈ xs then xs else xs ++ [p]) else xs
theorem step_eq (o : Bool) (xs : List Pt) (p : Pt) : impl_meet.step o xs p.f0 p.f1 = stepP o xs p := by
  unfold impl_meet.step stepP; rw [add_eq]
theorem step_mem (o : Bool) (xs : List Pt) (p x : Pt) : x ∈ stepP o xs p ↔ x ∈ xs ∨ (o = true ∧ x = p) := by
  unfold stepP
  cases o
  · simp
  · by_cases h : p ∈ xs
    · simp only [if_true, if_pos h]; constructor
      · exact Or.inl
      · rintro (h1 | ⟨_, rfl⟩); exact h1; exact h
    · simp [h]
theorem step_nodup (o : Bool) (xs : List Pt) (p : Pt) (h : xs.Nodup) : (stepP o xs p).Nodup := by
  unfold stepP
  cases o
  · simpa using h
  · by_cases hp : p ∈ xs
    · simpa [hp] using h
    · simp only [if_true, if_neg hp]
      rw [List.nodup_append]
      exact ⟨h, by simp, fun a ha b hb => by simp at hb; subst hb; exact fun e => hp (e ▸ ha)⟩
theorem onW_eq {a b p : Pt} (ha : smp a) (hb : smp b) (hp : smp p) : impl_meet.onW a.f0 a.f1 b.f0 b.f1 p.f0 p.f1 = onP a b p := by
  unfold impl_meet.onW; rw [impl_on_eq ha.1 ha.2 hb.1 hb.2 hp.1 hp.2]; rfl
def endsP (a b c d : Pt) : List Pt := stepP (onP c d b) (stepP (onP c d a) (stepP (onP a b d) (stepP (onP a b c) [] c) d) a) b
theorem all_eq {a b c d : Pt} (ha : smp a) (hb : smp b) (hc : smp c) (hd : smp d) : impl_meet.all a.f0 a.f1 b.f0 b.f1 c.f0 c.f1 d.f0 d.f1 = endsP a b c d := by
  unfold impl_meet.all impl_meet.ends endsP
  simp only [show ¬ ((2 : Int) ≤ 0) by omega, show ¬ ((2 : Int) ≤ 1) by omega, if_false]
  rw [onW_eq ha hb hc, onW_eq ha hb hd, onW_eq hc hd ha, onW_eq hc hd hb]
  simp only [step_eq]
theorem ends_mem (a b c d x : Pt) : x ∈ endsP a b c d ↔ x ∈ shared a b c d := by
  unfold endsP shared
  simp only [step_mem, List.mem_append]
  cases onP a b c <;> cases onP a b d <;> cases onP c d a <;> cases onP c d b <;> simp <;> grind
theorem ends_nodup (a b c d : Pt) : (endsP a b c d).Nodup := step_nodup _ _ _ (step_nodup _ _ _ (step_nodup _ _ _ (step_nodup _ _ _ List.nodup_nil)))
theorem two_iff {l m : List Pt} (hn : l.Nodup) (hm : ∀ x, x ∈ l ↔ x ∈ m) : 1 < l.length ↔ two m := by
  match l, hn, hm with
  | [], _, hm =>
    constructor
    · intro h; simp at h
    · rintro ⟨x, hx, _⟩; exact absurd ((hm x).2 hx) (by simp)
  | [p], _, hm =>
    constructor
    · intro h; simp at h
    · rintro ⟨x, hx, y, hy, hxy⟩
      have h1 := (hm x).2 hx
      have h2 := (hm y).2 hy
      simp at h1 h2
      exact absurd (h1.trans h2.symm) hxy
  | p :: q :: r, hn, hm =>
    constructor
    · intro _
      exact ⟨p, (hm p).1 (by simp), q, (hm q).1 (by simp), fun e => by subst e; simp at hn⟩
    · intro _; simp
theorem nil_iff {l m : List Pt} (hm : ∀ x, x ∈ l ↔ x ∈ m) : l = [] ↔ m = [] := by
  constructor
  · rintro rfl; exact List.eq_nil_iff_forall_not_mem.2 fun x hx => absurd ((hm x).2 hx) (by simp)
  · rintro rfl; exact List.eq_nil_iff_forall_not_mem.2 fun x hx => absurd ((hm x).1 hx) (by simp)
theorem impl_meet_eq {a b c d : Pt} (ha : smp a) (hb : smp b) (hc : smp c) (hd : smp d) : impl_meet.f a.f0 a.f1 b.f0 b.f1 c.f0 c.f1 d.f0 d.f1 = some (meetI a b c d) := by
  unfold impl_meet.f meetI
  rw [all_eq ha hb hc hd]
  have h2 := two_iff (ends_nodup a b c d) (ends_mem a b c d)
  have h0 := nil_iff (ends_mem a b c d)
  by_cases ht : two (shared a b c d)
  · rw [if_pos (by have := h2.2 ht; omega), if_pos ht]
  · have hl : ¬ 1 < (endsP a b c d).length := fun h => ht (h2.1 h)
    rw [if_neg (by omega), if_neg ht]
    by_cases he : shared a b c d = []
    · have hl0 : (endsP a b c d).length = 0 := by rw [h0.2 he]; rfl
      rw [if_neg (by omega), if_pos he]
      rw [impl_cross_eq ha.1 ha.2 hb.1 hb.2 hc.1 hc.2, impl_cross_eq ha.1 ha.2 hb.1 hb.2 hd.1 hd.2, impl_cross_eq hc.1 hc.2 hd.1 hd.2 ha.1 ha.2, impl_cross_eq hc.1 hc.2 hd.1 hd.2 hb.1 hb.2]
      simp only [Option.bind_some, impl_sign_eq, sgn_mul_wrap]
      by_cases k1 : sgn (crossI a.f0 a.f1 b.f0 b.f1 c.f0 c.f1) * sgn (crossI a.f0 a.f1 b.f0 b.f1 d.f0 d.f1) < 0
      · by_cases k2 : sgn (crossI c.f0 c.f1 d.f0 d.f1 a.f0 a.f1) * sgn (crossI c.f0 c.f1 d.f0 d.f1 b.f0 b.f1) < 0
        · rw [if_pos k1, if_pos k2, if_pos (show crosses a b c d from ⟨k1, k2⟩)]
        · rw [if_pos k1, if_neg k2, if_neg (fun h : crosses a b c d => k2 h.2)]
      · rw [if_neg k1, if_neg (fun h : crosses a b c d => k1 h.1)]
    · have hl1 : (endsP a b c d).length = 1 := by
        have : ¬ endsP a b c d = [] := fun h => he (h0.1 h)
        have := List.length_pos_iff.2 this
        omega
      rw [if_pos (by omega), if_neg he]
/-! the reference's list of ends -/
theorem spec_onW_eq {a b p : Pt} (ha : smp a) (hb : smp b) (hp : smp p) : spec_l02Meet.onW a.f0 a.f1 b.f0 b.f1 p.f0 p.f1 = onP a b p := by
  unfold spec_l02Meet.onW; rw [spec_on_eq ha.1 ha.2 hb.1 hb.2 hp.1 hp.2]; rfl
theorem spec_all_eq {a b c d : Pt} (ha : smp a) (hb : smp b) (hc : smp c) (hd : smp d) : spec_l02Meet.all a.f0 a.f1 b.f0 b.f1 c.f0 c.f1 d.f0 d.f1 = shared a b c d := by
  unfold spec_l02Meet.all spec_l02Meet.ends spec_l02Meet.step shared
  simp only [show ¬ ((2 : Int) ≤ 0) by omega, show ¬ ((2 : Int) ≤ 1) by omega, if_false]
  rw [spec_onW_eq ha hb hc, spec_onW_eq ha hb hd, spec_onW_eq hc hd ha, spec_onW_eq hc hd hb]
  cases onP a b c <;> cases onP a b d <;> cases onP c d a <;> cases onP c d b <;> simp
theorem two_any (l : List Pt) (h : l ≠ []) : ((List.range l.length).any fun x => spec_l02Meet.neq l (x : Int)) = true ↔ two l := by
  obtain ⟨p, m, rfl⟩ := List.exists_cons_of_ne_nil h
  have hp : rd_T27 (p :: m) 0 = p := rd_at (p :: m) 0 (by simp)
  have hn : ∀ i (hi : i < (p :: m).length), spec_l02Meet.neq (p :: m) (i : Int) = decide ((p :: m)[i] ≠ p) := by
    intro i hi
    unfold spec_l02Meet.neq
    rw [rd_at _ i hi, hp, pt_beq, decide_not]
  rw [List.any_eq_true]
  constructor
  · rintro ⟨i, hi, e⟩
    rw [List.mem_range] at hi
    rw [hn i hi, decide_eq_true_eq] at e
    exact ⟨_, List.getElem_mem hi, p, by simp, e⟩
  · rintro ⟨x, hx, y, hy, hxy⟩
    have : ∃ z ∈ p :: m, z ≠ p := by
      by_cases hxp : x = p
      · exact ⟨y, hy, fun e => hxy (hxp.trans e.symm)⟩
      · exact ⟨x, hx, hxp⟩
    obtain ⟨z, hz, hzp⟩ := this
    obtain ⟨i, hi, rfl⟩ := List.mem_iff_getElem.1 hz
    exact ⟨i, List.mem_range.2 hi, by rw [hn i hi, decide_eq_true_eq]; exact hzp⟩
open Classical in
theorem tail_eq (l : List Pt) : spec_l02Meet.tail l = some (if two l then 3 else if l = [] then 0 else 1) := by
  unfold spec_l02Meet.tail
  by_cases h : l = []
  · subst h
    have : ¬ two ([] : List Pt) := by rintro ⟨x, hx, _⟩; simp at hx
    simp [this]
  · have hl : ¬ ((l.length : Int) = 0) := by
      have := List.length_pos_iff.2 h
      omega
    rw [if_neg hl, if_neg h]
    by_cases ht : two l
    · rw [if_pos ((two_any l h).2 ht), if_pos ht]
    · rw [if_neg (fun e => ht ((two_any l h).1 e)), if_neg ht]
theorem spec_l02Meet_eq {a b c d : Pt} (ha : smp a) (hb : smp b) (hc : smp c) (hd : smp d) : spec_l02Meet.f a.f0 a.f1 b.f0 b.f1 c.f0 c.f1 d.f0 d.f1 = some (meetI a b c d) := by
  unfold spec_l02Meet.f
  rw [spec_cross_eq ha.1 ha.2 hb.1 hb.2 hc.1 hc.2, spec_cross_eq ha.1 ha.2 hb.1 hb.2 hd.1 hd.2, spec_cross_eq hc.1 hc.2 hd.1 hd.2 ha.1 ha.2, spec_cross_eq hc.1 hc.2 hd.1 hd.2 hb.1 hb.2]
  simp only [Option.bind_some, spec_sign_eq, sgn_mul_wrap]
  rw [spec_all_eq ha hb hc hd, tail_eq]
  by_cases hx : crosses a b c d
  · have e : (decide (sgn (crossI a.f0 a.f1 b.f0 b.f1 c.f0 c.f1) * sgn (crossI a.f0 a.f1 b.f0 b.f1 d.f0 d.f1) < 0) && decide (sgn (crossI c.f0 c.f1 d.f0 d.f1 a.f0 a.f1) * sgn (crossI c.f0 c.f1 d.f0 d.f1 b.f0 b.f1) < 0)) = true := by
      rw [Bool.and_eq_true, decide_eq_true_eq, decide_eq_true_eq]; exact hx
    rw [if_pos e]
    unfold meetI
    have hs := crosses_shared hx
    have ht : ¬ two (shared a b c d) := by rw [hs]; rintro ⟨x, hx, _⟩; simp at hx
    rw [if_neg ht, if_pos hs, if_pos hx]
  · have e : ¬ (decide (sgn (crossI a.f0 a.f1 b.f0 b.f1 c.f0 c.f1) * sgn (crossI a.f0 a.f1 b.f0 b.f1 d.f0 d.f1) < 0) && decide (sgn (crossI c.f0 c.f1 d.f0 d.f1 a.f0 a.f1) * sgn (crossI c.f0 c.f1 d.f0 d.f1 b.f0 b.f1) < 0)) = true := by
      rw [Bool.and_eq_true, decide_eq_true_eq, decide_eq_true_eq]; exact hx
    rw [if_neg e]
    unfold meetI
    rw [if_neg hx]
end Go.Proofs.Ytlccpkggdmngaaa.G
/- When a list of points is a polygon: both functions answer alike. The bound on a list's length stands in each theorem. -/
namespace Go.Proofs.Ytlccpkggdmngaaa.G
open Go.RowKit Go.Proofs.YtlccpkggdmngaaaW.PrintWords Go.Proofs.YtlccpkggdmngaaaW.PrintLast Go.Proofs.YtlccpkggdmngaaaW.PrintMore
set_option linter.unusedSimpArgs false
set_option linter.unusedVariables false
/-- The i-th corner, around. -/
def pt (l : List Pt) (i : Nat) : Pt := l.getD (i % l.length) z27
theorem pt_at (l : List Pt) (i : Nat) (h : i < l.length) : pt l i = l[i] := by
  unfold pt; rw [Nat.mod_eq_of_lt h]; simp [List.getD_eq_getElem?_getD, List.getElem?_eq_getElem h]
theorem pt_mem (l : List Pt) (i : Nat) (h : 0 < l.length) : pt l i ∈ l := by
  unfold pt
  have h1 := Nat.mod_lt i h
  simp [List.getD_eq_getElem?_getD, List.getElem?_eq_getElem h1]
theorem rd_pt (l : List Pt) (i : Nat) (h : i < l.length) : rd_T27 l (i : Int) = pt l i := by rw [rd_at l i h, pt_at l i h]
theorem tmod_at (i n : Nat) : Int.tmod (i : Int) (n : Int) = ((i % n : Nat) : Int) := by
  rw [Int.tmod_eq_emod_of_nonneg (by omega)]; rfl
theorem rd_mod (l : List Pt) (i : Nat) (h : 0 < l.length) : rd_T27 l ((i % l.length : Nat) : Int) = pt l i := by
  rw [rd_pt l _ (Nat.mod_lt i h)]; unfold pt; rw [Nat.mod_mod]
/-- Two sides that meet in one point. -/
def adj (n i j : Nat) : Prop := j = i + 1 ∨ (i = 0 ∧ j = n - 1)
instance (n i j : Nat) : Decidable (adj n i j) := by unfold adj; exact inferInstance
def good (l : List Pt) (i j : Nat) : Prop := meetI (pt l i) (pt l (i + 1)) (pt l j) (pt l (j + 1)) = if adj l.length i j then 1 else 0
/-- A polygon. -/
structure Poly (l : List Pt) : Prop where
  n3 : 3 ≤ l.length
  n10 : l.length ≤ 10
  okp : ∀ p ∈ l, okp p = true
  ne : ∀ i, i < l.length → pt l i ≠ pt l (i + 1)
  good : ∀ i j, i < j → j < l.length → good l i j
theorem okp_smp {p : Pt} (h : okp p = true) : smp p := sm_ok h
theorem impl_meet_iff {a b c d : Pt} (ha : smp a) (hb : smp b) (hc : smp c) (hd : smp d) (n : Int) : (impl_meet.f a.f0 a.f1 b.f0 b.f1 c.f0 c.f1 d.f0 d.f1 == some n) = true ↔ meetI a b c d = n := by
  rw [impl_meet_eq ha hb hc hd, beq_iff_eq, Option.some.injEq]
theorem impl_pair_iff {l : List Pt} (hok : ∀ p ∈ l, okp p = true) {i j : Nat} (hij : i < j) (hj : j < l.length) : impl_PolygonOk.pair l (i : Int) (j : Int) = true ↔ pt l i ≠ pt l (i + 1) ∧ pt l j ≠ pt l (j + 1) ∧ good l i j := by
  have h0 : 0 < l.length := by omega
  have s : ∀ k, smp (pt l k) := fun k => okp_smp (hok _ (pt_mem l k h0))
  unfold impl_PolygonOk.pair good
  rw [rd_pt l i (by omega), rd_pt l j hj]
  have e1 : rd_T27 l ((i : Int) + 1) = pt l (i + 1) := by have := rd_pt l (i + 1) (by omega); push_cast at this; exact this
  have e2 : rd_T27 l (((j : Int) + 1) % (l.length : Int)) = pt l (j + 1) := by have := rd_mod l (j + 1) h0; push_cast at this; exact this
  rw [e1, e2, pt_beq, pt_beq, Bool.and_eq_true, Bool.and_eq_true, impl_meet_iff (s _) (s _) (s _) (s _)]
  have e3 : impl_PolygonOk.want (l.length : Int) (i : Int) (j : Int) = true ↔ adj l.length i j := by
    unfold impl_PolygonOk.want adj
    simp only [Bool.or_eq_true, Bool.and_eq_true, decide_eq_true_eq]
    omega
  simp only [e3, Bool.not_eq_true', decide_eq_false_iff_not]
theorem impl_ok_iff (l : List Pt) : impl_PolygonOk.ok l = true ↔ Poly l := by
  unfold impl_PolygonOk.ok
  simp only [Bool.and_eq_true, decide_eq_true_eq, List.all_eq_true]
  constructor
  · rintro ⟨h3, h10, hok, hall⟩
    have hp : ∀ i j, i < j → j < l.length → impl_PolygonOk.pair l (i : Int) (j : Int) = true := by
      intro i j hij hj
      unfold impl_PolygonOk.all impl_PolygonOk.row at hall
      simp only [List.all_eq_true, List.mem_range, Bool.or_eq_true, decide_eq_true_eq] at hall
      rcases hall i (by omega) j hj with h | h
      · omega
      · exact h
    refine ⟨h3, h10, hok, fun i hi => ?_, fun i j hij hj => ((impl_pair_iff hok hij hj).1 (hp i j hij hj)).2.2⟩
    by_cases h : i + 1 < l.length
    · exact ((impl_pair_iff hok (by omega : i < i + 1) h).1 (hp _ _ (by omega) h)).1
    · exact ((impl_pair_iff hok (by omega : 0 < i) hi).1 (hp _ _ (by omega) hi)).2.1
  · intro h
    refine ⟨h.n3, h.n10, h.okp, ?_⟩
    unfold impl_PolygonOk.all impl_PolygonOk.row
    simp only [List.all_eq_true, List.mem_range, Bool.or_eq_true, decide_eq_true_eq]
    intro i hi j hj
    by_cases hij : i < j
    · exact Or.inr ((impl_pair_iff h.okp hij hj).2 ⟨h.ne i hi, h.ne j hj, h.good i j hij hj⟩)
    · exact Or.inl (by omega)
theorem impl_PolygonOk_some (l : List Pt) : impl_PolygonOk.f l = some (impl_PolygonOk.ok l) := rfl
/-! the reference's loops -/
theorem or_comm4 (P Q : Prop) [Decidable P] [Decidable Q] : True := trivial
theorem sp_l23 {l : List Pt} (hok : ∀ p ∈ l, okp p = true) (hn : l.length ≤ 10) : ∀ (e i : Nat), i + e = l.length →
    (∀ k, e * 30 < k → ∃ b, spec_PolygonOk.l2 k l (l.length : Int) (l.length : Int) (i : Int) = some b ∧ (b = true ↔ ∀ x y, i ≤ x → x < y → y < l.length → good l x y)) := by
  intro e
  induction e with
  | zero =>
    intro i hi k hk
    obtain ⟨k, rfl⟩ : ∃ m, k = m + 1 := ⟨k - 1, by omega⟩
    simp only [spec_PolygonOk.l2]
    rw [if_neg (by omega)]
    exact ⟨true, rfl, by simp; intro x y h1 h2 h3; omega⟩
  | succ e ih =>
    intro i hi k hk
    obtain ⟨k, rfl⟩ : ∃ m, k = m + 1 := ⟨k - 1, by omega⟩
    simp only [spec_PolygonOk.l2]
    rw [if_pos (by omega), wrap64_id (by omega) (by omega)]
    have inner : ∀ (d j : Nat), j + d = l.length → i < j → ∀ k, e * 30 + d * 2 + 1 < k → ∃ b, spec_PolygonOk.l3 k l (l.length : Int) (i : Int) (j : Int) (l.length : Int) (i : Int) = some b ∧ (b = true ↔ (∀ y, j ≤ y → y < l.length → good l i y) ∧ ∀ x y, i + 1 ≤ x → x < y → y < l.length → good l x y) := by
      intro d
      induction d with
      | zero =>
        intro j hj hij k hk
        obtain ⟨k, rfl⟩ : ∃ m, k = m + 1 := ⟨k - 1, by omega⟩
        simp only [spec_PolygonOk.l3]
        rw [if_neg (by omega), wrap64_id (by omega) (by omega)]
        obtain ⟨b, hb, hb'⟩ := ih (i + 1) (by omega) k (by omega)
        push_cast at hb
        refine ⟨b, hb, hb'.trans ⟨fun h => ⟨fun y h1 h2 => by omega, h⟩, fun h => h.2⟩⟩
      | succ d ihd =>
        intro j hj hij k hk
        obtain ⟨k, rfl⟩ : ∃ m, k = m + 1 := ⟨k - 1, by omega⟩
        obtain ⟨k, rfl⟩ : ∃ m, k = m + 1 := ⟨k - 1, by omega⟩
        have h0 : 0 < l.length := by omega
        have hi' : i < l.length := by omega
        have hj' : j < l.length := by omega
        have s : ∀ k, smp (pt l k) := fun k => okp_smp (hok _ (pt_mem l k h0))
        have wi : wrap64 ((i : Int) + 1) = ((i + 1 : Nat) : Int) := by rw [wrap64_id (by omega) (by omega)]; rfl
        have wj : wrap64 ((j : Int) + 1) = ((j + 1 : Nat) : Int) := by rw [wrap64_id (by omega) (by omega)]; rfl
        have wn : wrap64 ((l.length : Int) - 1) = ((l.length - 1 : Nat) : Int) := by rw [wrap64_id (by omega) (by omega)]; omega
        have li := Nat.mod_lt (i + 1) h0
        have lj := Nat.mod_lt (j + 1) h0
        simp only [spec_PolygonOk.l3]
        rw [wi, wj, wn, tmod_at, tmod_at, rd_mod l (i + 1) h0, rd_mod l (j + 1) h0, rd_pt l i hi', rd_pt l j hj']
        rw [if_pos (by omega), if_pos (by omega), if_pos (by omega), if_neg (by omega), if_pos (by omega), if_pos (by omega), if_pos (by omega), if_pos (by omega), if_pos (by omega), if_pos (by omega)]
        rw [spec_l02Meet_eq (s _) (s _) (s _) (s _), Option.bind_some]
        have wm : ∀ B : Bool, (B = true ↔ adj l.length i j) → ∃ b, spec_PolygonOk.j4 (k + 1) l (l.length : Int) (i : Int) (j : Int) (meetI (pt l i) (pt l (i + 1)) (pt l j) (pt l (j + 1))) (l.length : Int) (i : Int) B = some b ∧ (b = true ↔ (∀ y, j ≤ y → y < l.length → good l i y) ∧ ∀ x y, i + 1 ≤ x → x < y → y < l.length → good l x y) := by
          intro B hB
          obtain ⟨b, hb, hb'⟩ := ihd (j + 1) (by omega) (by omega) k (by omega)
          simp only [spec_PolygonOk.j4]
          rw [wj]
          have pos : good l i j → ∃ b, spec_PolygonOk.l3 k l (l.length : Int) (i : Int) ((j + 1 : Nat) : Int) (l.length : Int) (i : Int) = some b ∧ (b = true ↔ (∀ y, j ≤ y → y < l.length → good l i y) ∧ ∀ x y, i + 1 ≤ x → x < y → y < l.length → good l x y) := by
            intro hg
            refine ⟨b, hb, hb'.trans ⟨fun h => ⟨fun y h1 h2 => ?_, h.2⟩, fun h => ⟨fun y h1 h2 => h.1 y (by omega) h2, h.2⟩⟩⟩
            by_cases hy : y = j
            · subst hy; exact hg
            · exact h.1 y (by omega) h2
          have neg : ¬ good l i j → ∃ b, (some false : Option Bool) = some b ∧ (b = true ↔ (∀ y, j ≤ y → y < l.length → good l i y) ∧ ∀ x y, i + 1 ≤ x → x < y → y < l.length → good l x y) := by
            intro hg
            exact ⟨false, rfl, by simp; intro h; exact absurd (h j (by omega) hj') hg⟩
          cases B
          · have ha : ¬ adj l.length i j := by rw [← hB]; simp
            rw [if_neg (by simp)]
            by_cases hm : meetI (pt l i) (pt l (i + 1)) (pt l j) (pt l (j + 1)) = 0
            · rw [if_pos hm]; exact pos (by unfold good; rw [if_neg ha]; exact hm)
            · rw [if_neg hm]; exact neg (by unfold good; rw [if_neg ha]; exact hm)
          · have ha : adj l.length i j := hB.1 rfl
            rw [if_pos rfl]
            by_cases hm : meetI (pt l i) (pt l (i + 1)) (pt l j) (pt l (j + 1)) = 1
            · rw [if_pos hm]; exact pos (by unfold good; rw [if_pos ha]; exact hm)
            · rw [if_neg hm]; exact neg (by unfold good; rw [if_pos ha]; exact hm)
        by_cases c1 : j = i + 1
        · rw [if_pos (by omega)]
          exact wm true (by simp [adj, c1])
        · rw [if_neg (by omega)]
          by_cases c2 : i = 0
          · rw [if_pos (by omega)]
            refine wm _ ?_
            rw [beq_iff_eq]; unfold adj; omega
          · rw [if_neg (by omega)]
            exact wm false (by simp [adj, c1, c2])
    obtain ⟨b, hb, hb'⟩ := inner e (i + 1) (by omega) (by omega) k (by omega)
    push_cast at hb
    refine ⟨b, hb, hb'.trans ⟨fun h x y h1 h2 h3 => ?_, fun h => ⟨fun y h1 h2 => h i y (by omega) (by omega) h2, fun x y h1 h2 h3 => h x y (by omega) h2 h3⟩⟩⟩
    by_cases hx : x = i
    · subst hx; exact h.1 y (by omega) h3
    · exact h.2 x y (by omega) h2 h3
theorem sp_l1 {l : List Pt} (hok : ∀ p ∈ l, okp p = true) (hn : l.length ≤ 10) : ∀ (e i : Nat), i + e = l.length →
    (∀ k, 400 + e < k → ∃ b, spec_PolygonOk.l1 k l (l.length : Int) (l.length : Int) (i : Int) = some b ∧ (b = true ↔ (∀ x, i ≤ x → x < l.length → pt l x ≠ pt l (x + 1)) ∧ ∀ x y, x < y → y < l.length → good l x y)) := by
  intro e
  induction e with
  | zero =>
    intro i hi k hk
    obtain ⟨k, rfl⟩ : ∃ m, k = m + 1 := ⟨k - 1, by omega⟩
    simp only [spec_PolygonOk.l1]
    rw [if_neg (by omega)]
    obtain ⟨b, hb, hb'⟩ := sp_l23 hok hn l.length 0 (by omega) k (by omega)
    refine ⟨b, hb, hb'.trans ⟨fun h => ⟨fun x h1 h2 => by omega, fun x y h1 h2 => h x y (by omega) h1 h2⟩, fun h x y _ h1 h2 => h.2 x y h1 h2⟩⟩
  | succ e ih =>
    intro i hi k hk
    obtain ⟨k, rfl⟩ : ∃ m, k = m + 1 := ⟨k - 1, by omega⟩
    have h0 : 0 < l.length := by omega
    have hi' : i < l.length := by omega
    have wi : wrap64 ((i : Int) + 1) = ((i + 1 : Nat) : Int) := by rw [wrap64_id (by omega) (by omega)]; rfl
    have li := Nat.mod_lt (i + 1) h0
    simp only [spec_PolygonOk.l1]
    rw [wi, tmod_at, rd_mod l (i + 1) h0, rd_pt l i hi', pt_beq]
    rw [if_pos (by omega), if_pos (by omega), if_pos (by omega), if_neg (by omega), if_pos (by omega), if_pos (by omega)]
    by_cases hp : pt l i = pt l (i + 1)
    · rw [if_pos (by simpa using hp)]
      exact ⟨false, rfl, by simp; intro h; exact absurd hp (h i (by omega) hi')⟩
    · rw [if_neg (by simpa using hp)]
      obtain ⟨b, hb, hb'⟩ := ih (i + 1) (by omega) k (by omega)
      refine ⟨b, hb, hb'.trans ⟨fun h => ⟨fun x h1 h2 => ?_, h.2⟩, fun h => ⟨fun x h1 h2 => h.1 x (by omega) h2, h.2⟩⟩⟩
      by_cases hx : x = i
      · subst hx; exact hp
      · exact h.1 x (by omega) h2
theorem sp_l0 {l : List Pt} (hn : l.length ≤ 10) : ∀ (e i : Nat), i + e = l.length → (∀ j (h : j < l.length), j < i → okp l[j] = true) →
    (∀ k, 420 + e < k → ∃ b, spec_PolygonOk.l0 k l l (l.length : Int) (i : Int) = some b ∧ (b = true ↔ (∀ p ∈ l, okp p = true) ∧ (∀ x, x < l.length → pt l x ≠ pt l (x + 1)) ∧ ∀ x y, x < y → y < l.length → good l x y)) := by
  intro e
  induction e with
  | zero =>
    intro i hi hp k hk
    obtain ⟨k, rfl⟩ : ∃ m, k = m + 1 := ⟨k - 1, by omega⟩
    simp only [spec_PolygonOk.l0]
    rw [if_neg (by omega)]
    have hok : ∀ p ∈ l, okp p = true := by
      intro p hp'
      obtain ⟨j, hj, rfl⟩ := List.mem_iff_getElem.1 hp'
      exact hp j hj (by omega)
    obtain ⟨b, hb, hb'⟩ := sp_l1 hok hn l.length 0 (by omega) k (by omega)
    refine ⟨b, hb, hb'.trans ⟨fun h => ⟨hok, fun x h1 => h.1 x (by omega) h1, h.2⟩, fun h => ⟨fun x _ h1 => h.2.1 x h1, h.2.2⟩⟩⟩
  | succ e ih =>
    intro i hi hp k hk
    obtain ⟨k, rfl⟩ : ∃ m, k = m + 1 := ⟨k - 1, by omega⟩
    have hi' : i < l.length := by omega
    simp only [spec_PolygonOk.l0]
    rw [rd_at l i hi', spec_PointOk_eq, Option.bind_some, if_pos (by omega), if_pos (by omega), if_pos (by omega), wrap64_id (by omega) (by omega)]
    by_cases h : ok l[i].f0 l[i].f1 = true
    · rw [if_pos h]
      have := ih (i + 1) (by omega) (fun j hj hji => by
        by_cases he : j = i
        · subst he; exact h
        · exact hp j hj (by omega)) k (by omega)
      push_cast at this
      exact this
    · rw [if_neg h]
      exact ⟨false, rfl, by simp; intro hq; exact absurd (hq _ (List.getElem_mem hi')) h⟩
theorem spec_PolygonOk_eq (l : List Pt) (hl : l.length ≤ 9223372036854775807) (k : Nat) (hk : 500 < k) : spec_PolygonOk.f k l = some (impl_PolygonOk.ok l) := by
  unfold spec_PolygonOk.f spec_l01In.f
  by_cases h3 : 3 ≤ l.length
  · by_cases h10 : l.length ≤ 10
    · obtain ⟨b, hb, hb'⟩ := sp_l0 h10 l.length 0 (by omega) (fun j _ h => by omega) k (by omega)
      rw [if_pos (by omega)]
      have e : (some (decide ((l.length : Int) ≤ 10))).bind (fun t101 => if t101 = true then spec_PolygonOk.l0 k l l (l.length : Int) 0 else some false) = spec_PolygonOk.l0 k l l (l.length : Int) 0 := by
        rw [Option.bind_some, if_pos (by simp; omega)]
      refine e.trans (hb.trans ?_)
      congr 1
      rw [Bool.eq_iff_iff, hb', impl_ok_iff]
      exact ⟨fun h => ⟨h3, h10, h.1, h.2.1, h.2.2⟩, fun h => ⟨h.okp, h.ne, h.good⟩⟩
    · rw [if_pos (by omega), Option.bind_some, if_neg (by simp; omega)]
      congr 1
      symm
      rw [← Bool.not_eq_true, impl_ok_iff]
      exact fun h => h10 h.n10
  · rw [if_neg (by omega), Option.bind_some, if_neg (by simp)]
    congr 1
    symm
    rw [← Bool.not_eq_true, impl_ok_iff]
    exact fun h => h3 h.n3
end Go.Proofs.Ytlccpkggdmngaaa.G
/- Sums and scans around a polygon: area, points on the sides, box, widest pair. The bounds stand in each theorem. -/
namespace Go.Proofs.Ytlccpkggdmngaaa.G
open Go.RowKit Go.Proofs.YtlccpkggdmngaaaW.PrintWords Go.Proofs.YtlccpkggdmngaaaW.PrintLast Go.Proofs.YtlccpkggdmngaaaW.PrintMore
set_option linter.unusedSimpArgs false
set_option linter.unusedVariables false
theorem okp_iff {p : Pt} : okp p = true ↔ 0 ≤ p.f0 ∧ p.f0 ≤ 40 ∧ 0 ≤ p.f1 ∧ p.f1 ≤ 40 := ok_iff
/-- One side's part of twice the area. -/
def tw (l : List Pt) (i : Nat) : Int := (pt l i).f0 * (pt l (i + 1)).f1 - (pt l i).f1 * (pt l (i + 1)).f0
def twS (l : List Pt) : Nat → Int
  | 0 => 0
  | i + 1 => twS l i + tw l i
theorem mul_small {a b : Int} (h1 : 0 ≤ a) (h2 : a ≤ 40) (h3 : 0 ≤ b) (h4 : b ≤ 40) : 0 ≤ a * b ∧ a * b ≤ 1600 := by
  have e1 := Int.mul_nonneg h1 h3
  have e2 := Int.mul_nonneg (show 0 ≤ 40 - a by omega) (show 0 ≤ b by omega)
  have e3 : (40 - a) * b = 40 * b - a * b := by grind
  omega
theorem pt_ok {l : List Pt} (hok : ∀ p ∈ l, okp p = true) (h0 : 0 < l.length) (i : Nat) : 0 ≤ (pt l i).f0 ∧ (pt l i).f0 ≤ 40 ∧ 0 ≤ (pt l i).f1 ∧ (pt l i).f1 ≤ 40 := okp_iff.1 (hok _ (pt_mem l i h0))
theorem tw_parts {l : List Pt} (hok : ∀ p ∈ l, okp p = true) (h0 : 0 < l.length) (i : Nat) : 0 ≤ (pt l i).f0 * (pt l (i + 1)).f1 ∧ (pt l i).f0 * (pt l (i + 1)).f1 ≤ 1600 ∧ 0 ≤ (pt l i).f1 * (pt l (i + 1)).f0 ∧ (pt l i).f1 * (pt l (i + 1)).f0 ≤ 1600 := by
  have h1 := pt_ok hok h0 i
  have h2 := pt_ok hok h0 (i + 1)
  have e1 := mul_small h1.1 h1.2.1 h2.2.2.1 h2.2.2.2
  have e2 := mul_small h1.2.2.1 h1.2.2.2 h2.1 h2.2.1
  exact ⟨e1.1, e1.2, e2.1, e2.2⟩
theorem twS_bound {l : List Pt} (hok : ∀ p ∈ l, okp p = true) (h0 : 0 < l.length) : ∀ i : Nat, -1600 * (i : Int) ≤ twS l i ∧ twS l i ≤ 1600 * (i : Int)
  | 0 => by simp [twS]
  | i + 1 => by
    have := twS_bound hok h0 i
    have := tw_parts hok h0 i
    simp only [twS, tw]
    omega
end Go.Proofs.Ytlccpkggdmngaaa.G
/- Corners around: the corner before, and what comes to the same around. The bounds stand in each theorem. -/
namespace Go.Proofs.Ytlccpkggdmngaaa.G
open Go.RowKit Go.Proofs.YtlccpkggdmngaaaW.PrintWords Go.Proofs.YtlccpkggdmngaaaW.PrintLast Go.Proofs.YtlccpkggdmngaaaW.PrintMore
set_option linter.unusedSimpArgs false
set_option linter.unusedVariables false
theorem pt_add (l : List Pt) (i : Nat) : pt l (i + l.length) = pt l i := by unfold pt; rw [Nat.add_mod_right]
theorem prev_at (l : List Pt) (i : Nat) (hi : i < l.length) (hn : l.length ≤ 1000000) : Int.tmod (wrap64 ((wrap64 ((i : Int) + (l.length : Int))) - 1)) (l.length : Int) = (((i + l.length - 1) % l.length : Nat) : Int) := by
  rw [wrap64_id (x := (i : Int) + (l.length : Int)) (by omega) (by omega), wrap64_id (by omega) (by omega)]
  have e : (i : Int) + (l.length : Int) - 1 = ((i + l.length - 1 : Nat) : Int) := by omega
  rw [e, tmod_at]
/-- What one side's turn is: at the corner after i. -/
def turnC (l : List Pt) (i : Nat) : Int := crossP (pt l i) (pt l (i + 1)) (pt l (i + 2))
theorem turnC_add (l : List Pt) (i : Nat) : turnC l (i + l.length) = turnC l i := by
  unfold turnC
  have e1 : i + l.length + 1 = i + 1 + l.length := by omega
  have e2 : i + l.length + 2 = i + 2 + l.length := by omega
  rw [e1, e2, pt_add, pt_add, pt_add]
theorem around_iff {P : Nat → Prop} {n : Nat} (hn : 0 < n) (hp : ∀ i, P (i + n) ↔ P i) : (∃ i, i < n ∧ P (i + n - 1)) ↔ ∃ i, i < n ∧ P i := by
  constructor
  · rintro ⟨i, hi, h⟩
    by_cases h0 : i = 0
    · subst h0
      exact ⟨n - 1, by omega, by rw [show 0 + n - 1 = n - 1 by omega] at h; exact h⟩
    · exact ⟨i - 1, by omega, by rw [show i + n - 1 = i - 1 + n by omega] at h; exact (hp _).1 h⟩
  · rintro ⟨i, hi, h⟩
    by_cases h0 : i = n - 1
    · subst h0
      exact ⟨0, by omega, by rw [show 0 + n - 1 = n - 1 by omega]; exact h⟩
    · exact ⟨i + 1, by omega, by rw [show i + 1 + n - 1 = i + n by omega]; exact (hp _).2 h⟩
theorem sgn_mn (neg : Bool) (c : Int) : mn (if neg = true then -1 else 0) (sgn c) = if (neg || decide (c < 0)) = true then -1 else 0 := by
  unfold mn sgn
  cases neg <;> by_cases h : c < 0 <;> by_cases h' : 0 < c <;> simp [h, h'] <;> omega
theorem sgn_mx (pos : Bool) (c : Int) : mx (if pos = true then 1 else 0) (sgn c) = if (pos || decide (c > 0)) = true then 1 else 0 := by
  unfold mx sgn
  cases pos <;> by_cases h : c < 0 <;> by_cases h' : 0 < c <;> simp [h, h'] <;> omega
theorem low_high (pos neg : Bool) : (if (if neg = true then (-1 : Int) else 0) = 0 then (some true : Option Bool) else some ((if pos = true then (1 : Int) else 0) == 0)) = some (!(pos && neg)) := by
  cases pos <;> cases neg <;> simp
theorem pos_neg (pos neg : Bool) : (if pos = true then (some (!neg) : Option Bool) else some true) = some (!(pos && neg)) := by
  cases pos <;> cases neg <;> simp
end Go.Proofs.Ytlccpkggdmngaaa.G
