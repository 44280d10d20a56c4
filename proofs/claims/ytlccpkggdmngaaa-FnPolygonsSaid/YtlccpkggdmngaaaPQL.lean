/- Plain laws of points and polygons. The conditions stand in each theorem. -/
import Derived.Test.YtlccpkggdmngaaaFQA
import Derived.Test.YtlccpkggdmngaaaFQG
import Derived.Test.YtlccpkggdmngaaaFQB
import Derived.Test.YtlccpkggdmngaaaFQH
import Derived.Test.YtlccpkggdmngaaaFQC
import Derived.Test.YtlccpkggdmngaaaFQK
import Derived.Test.YtlccpkggdmngaaaFQF
import Derived.Test.YtlccpkggdmngaaaPv
import Derived.Test.YtlccpkggdmngaaaFQE
import Derived.Test.YtlccpkggdmngaaaFQI
namespace Go.Proofs.Ytlccpkggdmngaaa.G
open Go.RowKit Go.Proofs.YtlccpkggdmngaaaW.PrintWords Go.Proofs.YtlccpkggdmngaaaW.PrintLast Go.Proofs.YtlccpkggdmngaaaW.PrintMore
set_option linter.unusedSimpArgs false
set_option linter.unusedVariables false
def smp (p : Pt) : Prop := sm p.f0 ∧ sm p.f1
def crossP (a b p : Pt) : Int := crossI a.f0 a.f1 b.f0 b.f1 p.f0 p.f1
def onP (a b p : Pt) : Bool := onI a.f0 a.f1 b.f0 b.f1 p.f0 p.f1
theorem pt_beq (p q : Pt) : (p.f0 == q.f0 && (p.f1 == q.f1)) = decide (p = q) := by
  by_cases h : p = q
  · subst h; simp
  · rw [decide_eq_false h, ← Bool.not_eq_true, Bool.and_eq_true, beq_iff_eq, beq_iff_eq]
    exact fun ⟨h0, h1⟩ => h (pt_ext h0 h1)
def shared (a b c d : Pt) : List Pt := (if onP c d a then [a] else []) ++ ((if onP c d b then [b] else []) ++ ((if onP a b c then [c] else []) ++ (if onP a b d then [d] else [])))
def crosses (a b c d : Pt) : Prop := sgn (crossP a b c) * sgn (crossP a b d) < 0 ∧ sgn (crossP c d a) * sgn (crossP c d b) < 0
instance (a b c d : Pt) : Decidable (crosses a b c d) := by unfold crosses; exact inferInstance
def two (l : List Pt) : Prop := ∃ x ∈ l, ∃ y ∈ l, x ≠ y
open Classical in
noncomputable def meetI (a b c d : Pt) : Int := if two (shared a b c d) then 3 else if shared a b c d = [] then (if crosses a b c d then 2 else 0) else 1
theorem sgn_cases (n : Int) : sgn n = 1 ∨ sgn n = -1 ∨ sgn n = 0 := by unfold sgn; split; simp; split <;> simp
theorem sgn_mul_wrap (m n : Int) : wrap64 (sgn m * sgn n) = sgn m * sgn n := by
  rcases sgn_cases m with h | h | h <;> rcases sgn_cases n with g | g | g <;> rw [h, g] <;> exact wrap64_id (by omega) (by omega)
theorem sgn_zero : sgn 0 = 0 := rfl
theorem onP_cross {a b p : Pt} (h : onP a b p = true) : crossP a b p = 0 := by
  unfold onP onI at h; simp only [Bool.and_eq_true, decide_eq_true_eq] at h; exact h.1.1.1.1
theorem crosses_shared {a b c d : Pt} (h : crosses a b c d) : shared a b c d = [] := by
  obtain ⟨h1, h2⟩ := h
  have ha : onP c d a = false := by rw [← Bool.not_eq_true]; intro e; rw [onP_cross e, sgn_zero, Int.zero_mul] at h2; omega
  have hb : onP c d b = false := by rw [← Bool.not_eq_true]; intro e; rw [onP_cross e, sgn_zero, Int.mul_zero] at h2; omega
  have hc : onP a b c = false := by rw [← Bool.not_eq_true]; intro e; rw [onP_cross e, sgn_zero, Int.zero_mul] at h1; omega
  have hd : onP a b d = false := by rw [← Bool.not_eq_true]; intro e; rw [onP_cross e, sgn_zero, Int.mul_zero] at h1; omega
  simp [shared, ha, hb, hc, hd]
theorem add_eq (xs : List Pt) (p : Pt) : impl_meet.add xs p.f0 p.f1 = if p ∈ xs then xs else xs ++ [p] := by
  unfold impl_meet.add
  have e : (xs.any fun q => p.f0 == q.f0 && (p.f1 == q.f1)) = decide (p ∈ xs) := by
    rw [Bool.eq_iff_iff, List.any_eq_true, decide_eq_true_eq]
    constructor
    · rintro ⟨q, hq, h⟩
      rw [pt_beq, decide_eq_true_eq] at h
      exact h ▸ hq
    · intro h
      exact ⟨p, h, by simp⟩
  rw [e]
  by_cases h : p ∈ xs <;> simp [h]
def stepP (o : Bool) (xs : List Pt) (p : Pt) : List Pt := if o = true then (if p ∈ xs then xs else xs ++ [p]) else xs
theorem step_eq (o : Bool) (xs : List Pt) (p : Pt) : impl_meet.step o xs p.f0 p.f1 = stepP o xs p := by
  unfold impl_meet.step stepP; rw [add_eq]
theorem step_mem (o : Bool) (xs : List Pt) (p x : Pt) : x ∈ stepP o xs p ↔ x ∈ xs ∨ (o = true ∧ x = p) := by
  unfold stepP
  cases o
  · simp
  · by_cases h : p ∈ xs
    · simp only [if_true, if_pos h]; constructor
      · exact Or.inl
      · rintro (h1 | ⟨_, rfl⟩); exact h1; exact h
    · simp [h]
theorem step_nodup (o : Bool) (xs : List Pt) (p : Pt) (h : xs.Nodup) : (stepP o xs p).Nodup := by
  unfold stepP
  cases o
  · simpa using h
  · by_cases hp : p ∈ xs
    · simpa [hp] using h
    · simp only [if_true, if_neg hp]
      rw [List.nodup_append]
      exact ⟨h, by simp, fun a ha b hb => by simp at hb; subst hb; exact fun e => hp (e ▸ ha)⟩
theorem onW_eq {a b p : Pt} (ha : smp a) (hb : smp b) (hp : smp p) : impl_meet.onW a.f0 a.f1 b.f0 b.f1 p.f0 p.f1 = onP a b p := by
  unfold impl_meet.onW; rw [impl_on_eq ha.1 ha.2 hb.1 hb.2 hp.1 hp.2]; rfl
def endsP (a b c d : Pt) : List Pt := stepP (onP c d b) (stepP (onP c d a) (stepP (onP a b d) (stepP (onP a b c) [] c) d) a) b
theorem all_eq {a b c d : Pt} (ha : smp a) (hb : smp b) (hc : smp c) (hd : smp d) : impl_meet.all a.f0 a.f1 b.f0 b.f1 c.f0 c.f1 d.f0 d.f1 = endsP a b c d := by
  unfold impl_meet.all impl_meet.ends endsP
  simp only [show ¬ ((2 : Int) ≤ 0) by omega, show ¬ ((2 : Int) ≤ 1) by omega, if_false]
  rw [onW_eq ha hb hc, onW_eq ha hb hd, onW_eq hc hd ha, onW_eq hc hd hb]
  simp only [step_eq]
theorem ends_mem (a b c d x : Pt) : x ∈ endsP a b c d ↔ x ∈ shared a b c d := by
  unfold endsP shared
  simp only [step_mem, List.mem_append]
  cases onP a b c <;> cases onP a b d <;> cases onP c d a <;> cases onP c d b <;> simp <;> grind
theorem ends_nodup (a b c d : Pt) : (endsP a b c d).Nodup := step_nodup _ _ _ (step_nodup _ _ _ (step_nodup _ _ _ (step_nodup _ _ _ List.nodup_nil)))
theorem two_iff {l m : List Pt} (hn : l.Nodup) (hm : ∀ x, x ∈ l ↔ x ∈ m) : 1 < l.length ↔ two m := by
  match l, hn, hm with
  | [], _, hm =>
    constructor
    · intro h; simp at h
    · rintro ⟨x, hx, _⟩; exact absurd ((hm x).2 hx) (by simp)
  | [p], _, hm =>
    constructor
    · intro h; simp at h
    · rintro ⟨x, hx, y, hy, hxy⟩
      have h1 := (hm x).2 hx
      have h2 := (hm y).2 hy
      simp at h1 h2
      exact absurd (h1.trans h2.symm) hxy
  | p :: q :: r, hn, hm =>
    constructor
    · intro _
      exact ⟨p, (hm p).1 (by simp), q, (hm q).1 (by simp), fun e => by subst e; simp at hn⟩
    · intro _; simp
theorem nil_iff {l m : List Pt} (hm : ∀ x, x ∈ l ↔ x ∈ m) : l = [] ↔ m = [] := by
  constructor
  · rintro rfl; exact List.eq_nil_iff_forall_not_mem.2 fun x hx => absurd ((hm x).2 hx) (by simp)
  · rintro rfl; exact List.eq_nil_iff_forall_not_mem.2 fun x hx => absurd ((hm x).1 hx) (by simp)
theorem impl_meet_eq {a b c d : Pt} (ha : smp a) (hb : smp b) (hc : smp c) (hd : smp d) : impl_meet.f a.f0 a.f1 b.f0 b.f1 c.f0 c.f1 d.f0 d.f1 = some (meetI a b c d) := by
  unfold impl_meet.f meetI
  rw [all_eq ha hb hc hd]
  have h2 := two_iff (ends_nodup a b c d) (ends_mem a b c d)
  have h0 := nil_iff (ends_mem a b c d)
  by_cases ht : two (shared a b c d)
  · rw [if_pos (by have := h2.2 ht; omega), if_pos ht]
  · have hl : ¬ 1 < (endsP a b c d).length := fun h => ht (h2.1 h)
    rw [if_neg (by omega), if_neg ht]
    by_cases he : shared a b c d = []
    · have hl0 : (endsP a b c d).length = 0 := by rw [h0.2 he]; rfl
      rw [if_neg (by omega), if_pos he]
      rw [impl_cross_eq ha.1 ha.2 hb.1 hb.2 hc.1 hc.2, impl_cross_eq ha.1 ha.2 hb.1 hb.2 hd.1 hd.2, impl_cross_eq hc.1 hc.2 hd.1 hd.2 ha.1 ha.2, impl_cross_eq hc.1 hc.2 hd.1 hd.2 hb.1 hb.2]
      simp only [Option.bind_some, impl_sign_eq, sgn_mul_wrap]
      by_cases k1 : sgn (crossI a.f0 a.f1 b.f0 b.f1 c.f0 c.f1) * sgn (crossI a.f0 a.f1 b.f0 b.f1 d.f0 d.f1) < 0
      · by_cases k2 : sgn (crossI c.f0 c.f1 d.f0 d.f1 a.f0 a.f1) * sgn (crossI c.f0 c.f1 d.f0 d.f1 b.f0 b.f1) < 0
        · rw [if_pos k1, if_pos k2, if_pos (show crosses a b c d from ⟨k1, k2⟩)]
        · rw [if_pos k1, if_neg k2, if_neg (fun h : crosses a b c d => k2 h.2)]
      · rw [if_neg k1, if_neg (fun h : crosses a b c d => k1 h.1)]
    · have hl1 : (endsP a b c d).length = 1 := by
        have : ¬ endsP a b c d = [] := fun h => he (h0.1 h)
        have := List.length_pos_iff.2 this
        omega
      rw [if_pos (by omega), if_neg he]
theorem spec_onW_eq {a b p : Pt} (ha : smp a) (hb : smp b) (hp : smp p) : spec_l02Meet.onW a.f0 a.f1 b.f0 b.f1 p.f0 p.f1 = onP a b p := by
  unfold spec_l02Meet.onW; rw [spec_on_eq ha.1 ha.2 hb.1 hb.2 hp.1 hp.2]; rfl
theorem spec_all_eq {a b c d : Pt} (ha : smp a) (hb : smp b) (hc : smp c) (hd : smp d) : spec_l02Meet.all a.f0 a.f1 b.f0 b.f1 c.f0 c.f1 d.f0 d.f1 = shared a b c d := by
  unfold spec_l02Meet.all spec_l02Meet.ends spec_l02Meet.step shared
  simp only [show ¬ ((2 : Int) ≤ 0) by omega, show ¬ ((2 : Int) ≤ 1) by omega, if_false]
  rw [spec_onW_eq ha hb hc, spec_onW_eq ha hb hd, spec_onW_eq hc hd ha, spec_onW_eq hc hd hb]
  cases onP a b c <;> cases onP a b d <;> cases onP c d a <;> cases onP c d b <;> simp
theorem two_any (l : List Pt) (h : l ≠ []) : ((List.range l.length).any fun x => spec_l02Meet.neq l (x : Int)) = true ↔ two l := by
  obtain ⟨p, m, rfl⟩ := List.exists_cons_of_ne_nil h
  have hp : rd_T27 (p :: m) 0 = p := rd_at (p :: m) 0 (by simp)
  have hn : ∀ i (hi : i < (p :: m).length), spec_l02Meet.neq (p :: m) (i : Int) = decide ((p :: m)[i] ≠ p) := by
    intro i hi
    unfold spec_l02Meet.neq
    rw [rd_at _ i hi, hp, pt_beq, decide_not]
  rw [List.any_eq_true]
  constructor
  · rintro ⟨i, hi, e⟩
    rw [List.mem_range] at hi
    rw [hn i hi, decide_eq_true_eq] at e
    exact ⟨_, List.getElem_mem hi, p, by simp, e⟩
  · rintro ⟨x, hx, y, hy, hxy⟩
    have : ∃ z ∈ p :: m, z ≠ p := by
      by_cases hxp : x = p
      · exact ⟨y, hy, fun e => hxy (hxp.trans e.symm)⟩
      · exact ⟨x, hx, hxp⟩
    obtain ⟨z, hz, hzp⟩ := this
    obtain ⟨i, hi, rfl⟩ := List.mem_iff_getElem.1 hz
    exact ⟨i, List.mem_range.2 hi, by rw [hn i hi, decide_eq_true_eq]; exact hzp⟩
open Classical in
theorem tail_eq (l : List Pt) : spec_l02Meet.tail l = some (if two l then 3 else if l = [] then 0 else 1) := by
  unfold spec_l02Meet.tail
  by_cases h : l = []
  · subst h
    have : ¬ two ([] : List Pt) := by rintro ⟨x, hx, _⟩; simp at hx
    simp [this]
  · have hl : ¬ ((l.length : Int) = 0) := by
      have := List.length_pos_iff.2 h
      omega
    rw [if_neg hl, if_neg h]
    by_cases ht : two l
    · rw [if_pos ((two_any l h).2 ht), if_pos ht]
    · rw [if_neg (fun e => ht ((two_any l h).1 e)), if_neg ht]
theorem spec_l02Meet_eq {a b c d : Pt} (ha : smp a) (hb : smp b) (hc : smp c) (hd : smp d) : spec_l02Meet.f a.f0 a.f1 b.f0 b.f1 c.f0 c.f1 d.f0 d.f1 = some (meetI a b c d) := by
  unfold spec_l02Meet.f
  rw [spec_cross_eq ha.1 ha.2 hb.1 hb.2 hc.1 hc.2, spec_cross_eq ha.1 ha.2 hb.1 hb.2 hd.1 hd.2, spec_cross_eq hc.1 hc.2 hd.1 hd.2 ha.1 ha.2, spec_cross_eq hc.1 hc.2 hd.1 hd.2 hb.1 hb.2]
  simp only [Option.bind_some, spec_sign_eq, sgn_mul_wrap]
  rw [spec_all_eq ha hb hc hd, tail_eq]
  by_cases hx : crosses a b c d
  · have e : (decide (sgn (crossI a.f0 a.f1 b.f0 b.f1 c.f0 c.f1) * sgn (crossI a.f0 a.f1 b.f0 b.f1 d.f0 d.f1) < 0) && decide (sgn (crossI c.f0 c.f1 d.f0 d.f1 a.f0 a.f1) * sgn (crossI c.f0 c.f1 d.f0 d.f1 b.f0 b.f1) < 0)) = true := by
      rw [Bool.and_eq_true, decide_eq_true_eq, decide_eq_true_eq]; exact hx
    rw [if_pos e]
    unfold meetI
    have hs := crosses_shared hx
    have ht : ¬ two (shared a b c d) := by rw [hs]; rintro ⟨x, hx, _⟩; simp at hx
    rw [if_neg ht, if_pos hs, if_pos hx]
  · have e : ¬ (decide (sgn (crossI a.f0 a.f1 b.f0 b.f1 c.f0 c.f1) * sgn (crossI a.f0 a.f1 b.f0 b.f1 d.f0 d.f1) < 0) && decide (sgn (crossI c.f0 c.f1 d.f0 d.f1 a.f0 a.f1) * sgn (crossI c.f0 c.f1 d.f0 d.f1 b.f0 b.f1) < 0)) = true := by
      rw [Bool.and_eq_true, decide_eq_true_eq, decide_eq_true_eq]; exact hx
    rw [if_neg e]
    unfold meetI
    rw [if_neg hx]
def pt (l : List Pt) (i : Nat) : Pt := l.getD (i % l.length) z27
theorem pt_at (l : List Pt) (i : Nat) (h : i < l.length) : pt l i = l[i] := by
  unfold pt; rw [Nat.mod_eq_of_lt h]; simp [List.getD_eq_getElem?_getD, List.getElem?_eq_getElem h]
theorem pt_mem (l : List Pt) (i : Nat) (h : 0 < l.length) : pt l i ∈ l := by
  unfold pt
  have h1 := Nat.mod_lt i h
  simp [List.getD_eq_getElem?_getD, List.getElem?_eq_getElem h1]
theorem rd_pt (l : List Pt) (i : Nat) (h : i < l.length) : rd_T27 l (i : Int) = pt l i := by rw [rd_at l i h, pt_at l i h]
theorem tmod_at (i n : Nat) : Int.tmod (i : Int) (n : Int) = ((i % n : Nat) : Int) := by
  rw [Int.tmod_eq_emod_of_nonneg (by omega)]; rfl
theorem rd_mod (l : List Pt) (i : Nat) (h : 0 < l.length) : rd_T27 l ((i % l.length : Nat) : Int) = pt l i := by
  rw [rd_pt l _ (Nat.mod_lt i h)]; unfold pt; rw [Nat.mod_mod]
def adj (n i j : Nat) : Prop := j = i + 1 ∨ (i = 0 ∧ j = n - 1)
instance (n i j : Nat) : Decidable (adj n i j) := by unfold adj; exact inferInstance
def good (l : List Pt) (i j : Nat) : Prop := meetI (pt l i) (pt l (i + 1)) (pt l j) (pt l (j + 1)) = if adj l.length i j then 1 else 0
structure Poly (l : List Pt) : Prop where
  n3 : 3 ≤ l.length
  n10 : l.length ≤ 10
  okp : ∀ p ∈ l, okp p = true
  ne : ∀ i, i < l.length → pt l i ≠ pt l (i + 1)
  good : ∀ i j, i < j → j < l.length → good l i j
theorem okp_smp {p : Pt} (h : okp p = true) : smp p := sm_ok h
theorem impl_meet_iff {a b c d : Pt} (ha : smp a) (hb : smp b) (hc : smp c) (hd : smp d) (n : Int) : (impl_meet.f a.f0 a.f1 b.f0 b.f1 c.f0 c.f1 d.f0 d.f1 == some n) = true ↔ meetI a b c d = n := by
  rw [impl_meet_eq ha hb hc hd, beq_iff_eq, Option.some.injEq]
theorem impl_pair_iff {l : List Pt} (hok : ∀ p ∈ l, okp p = true) {i j : Nat} (hij : i < j) (hj : j < l.length) : impl_PolygonOk.pair l (i : Int) (j : Int) = true ↔ pt l i ≠ pt l (i + 1) ∧ pt l j ≠ pt l (j + 1) ∧ good l i j := by
  have h0 : 0 < l.length := by omega
  have s : ∀ k, smp (pt l k) := fun k => okp_smp (hok _ (pt_mem l k h0))
  unfold impl_PolygonOk.pair good
  rw [rd_pt l i (by omega), rd_pt l j hj]
  have e1 : rd_T27 l ((i : Int) + 1) = pt l (i + 1) := by have := rd_pt l (i + 1) (by omega); push_cast at this; exact this
  have e2 : rd_T27 l (((j : Int) + 1) % (l.length : Int)) = pt l (j + 1) := by have := rd_mod l (j + 1) h0; push_cast at this; exact this
  rw [e1, e2, pt_beq, pt_beq, Bool.and_eq_true, Bool.and_eq_true, impl_meet_iff (s _) (s _) (s _) (s _)]
  have e3 : impl_PolygonOk.want (l.length : Int) (i : Int) (j : Int) = true ↔ adj l.length i j := by
    unfold impl_PolygonOk.want adj
    simp only [Bool.or_eq_true, Bool.and_eq_true, decide_eq_true_eq]
    omega
  simp only [e3, Bool.not_eq_true', decide_eq_false_iff_not]
theorem impl_ok_iff (l : List Pt) : impl_PolygonOk.ok l = true ↔ Poly l := by
  unfold impl_PolygonOk.ok
  simp only [Bool.and_eq_true, decide_eq_true_eq, List.all_eq_true]
  constructor
  · rintro ⟨h3, h10, hok, hall⟩
    have hp : ∀ i j, i < j → j < l.length → impl_PolygonOk.pair l (i : Int) (j : Int) = true := by
      intro i j hij hj
      unfold impl_PolygonOk.all impl_PolygonOk.row at hall
      simp only [List.all_eq_true, List.mem_range, Bool.or_eq_true, decide_eq_true_eq] at hall
      rcases hall i (by omega) j hj with h | h
      · omega
      · exact h
    refine ⟨h3, h10, hok, fun i hi => ?_, fun i j hij hj => ((impl_pair_iff hok hij hj).1 (hp i j hij hj)).2.2⟩
    by_cases h : i + 1 < l.length
    · exact ((impl_pair_iff hok (by omega : i < i + 1) h).1 (hp _ _ (by omega) h)).1
    · exact ((impl_pair_iff hok (by omega : 0 < i) hi).1 (hp _ _ (by omega) hi)).2.1
  · intro h
    refine ⟨h.n3, h.n10, h.okp, ?_⟩
    unfold impl_PolygonOk.all impl_PolygonOk.row
    simp only [List.all_eq_true, List.mem_range, Bool.or_eq_true, decide_eq_true_eq]
    intro i hi j hj
    by_cases hij : i < j
    · exact Or.inr ((impl_pair_iff h.okp hij hj).2 ⟨h.ne i hi, h.ne j hj, h.good i j hij hj⟩)
    · exact Or.inl (by omega)
theorem impl_PolygonOk_some (l : List Pt) : impl_PolygonOk.f l = some (impl_PolygonOk.ok l) := rfl
theorem sp_l23 {l : List Pt} (hok : ∀ p ∈ l, okp p = true) (hn : l.length ≤ 10) : ∀ (e i : Nat), i + e = l.length →
    (∀ k, e * 30 < k → ∃ b, spec_PolygonOk.l2 k l (l.length : Int) (l.length : Int) (i : Int) = some b ∧ (b = true ↔ ∀ x y, i ≤ x → x < y → y < l.length → good l x y)) := by
  intro e
  induction e with
  | zero =>
    intro i hi k hk
    obtain ⟨k, rfl⟩ : ∃ m, k = m + 1 := ⟨k - 1, by omega⟩
    simp only [spec_PolygonOk.l2]
    rw [if_neg (by omega)]
    exact ⟨true, rfl, by simp; intro x y h1 h2 h3; omega⟩
  | succ e ih =>
    intro i hi k hk
    obtain ⟨k, rfl⟩ : ∃ m, k = m + 1 := ⟨k - 1, by omega⟩
    simp only [spec_PolygonOk.l2]
    rw [if_pos (by omega), wrap64_id (by omega) (by omega)]
    have inner : ∀ (d j : Nat), j + d = l.length → i < j → ∀ k, e * 30 + d * 2 + 1 < k → ∃ b, spec_PolygonOk.l3 k l (l.length : Int) (i : Int) (j : Int) (l.length : Int) (i : Int) = some b ∧ (b = true ↔ (∀ y, j ≤ y → y < l.length → good l i y) ∧ ∀ x y, i + 1 ≤ x → x < y → y < l.length → good l x y) := by
      intro d
      induction d with
      | zero =>
        intro j hj hij k hk
        obtain ⟨k, rfl⟩ : ∃ m, k = m + 1 := ⟨k - 1, by omega⟩
        simp only [spec_PolygonOk.l3]
        rw [if_neg (by omega), wrap64_id (by omega) (by omega)]
        obtain ⟨b, hb, hb'⟩ := ih (i + 1) (by omega) k (by omega)
        push_cast at hb
        refine ⟨b, hb, hb'.trans ⟨fun h => ⟨fun y h1 h2 => by omega, h⟩, fun h => h.2⟩⟩
      | succ d ihd =>
        intro j hj hij k hk
        obtain ⟨k, rfl⟩ : ∃ m, k = m + 1 := ⟨k - 1, by omega⟩
        obtain ⟨k, rfl⟩ : ∃ m, k = m + 1 := ⟨k - 1, by omega⟩
        have h0 : 0 < l.length := by omega
        have hi' : i < l.length := by omega
        have hj' : j < l.length := by omega
        have s : ∀ k, smp (pt l k) := fun k => okp_smp (hok _ (pt_mem l k h0))
        have wi : wrap64 ((i : Int) + 1) = ((i + 1 : Nat) : Int) := by rw [wrap64_id (by omega) (by omega)]; rfl
        have wj : wrap64 ((j : Int) + 1) = ((j + 1 : Nat) : Int) := by rw [wrap64_id (by omega) (by omega)]; rfl
        have wn : wrap64 ((l.length : Int) - 1) = ((l.length - 1 : Nat) : Int) := by rw [wrap64_id (by omega) (by omega)]; omega
        have li := Nat.mod_lt (i + 1) h0
        have lj := Nat.mod_lt (j + 1) h0
        simp only [spec_PolygonOk.l3]
        rw [wi, wj, wn, tmod_at, tmod_at, rd_mod l (i + 1) h0, rd_mod l (j + 1) h0, rd_pt l i hi', rd_pt l j hj']
        rw [if_pos (by omega), if_pos (by omega), if_pos (by omega), if_neg (by omega), if_pos (by omega), if_pos (by omega), if_pos (by omega), if_pos (by omega), if_pos (by omega), if_pos (by omega)]
        rw [spec_l02Meet_eq (s _) (s _) (s _) (s _), Option.bind_some]
        have wm : ∀ B : Bool, (B = true ↔ adj l.length i j) → ∃ b, spec_PolygonOk.j4 (k + 1) l (l.length : Int) (i : Int) (j : Int) (meetI (pt l i) (pt l (i + 1)) (pt l j) (pt l (j + 1))) (l.length : Int) (i : Int) B = some b ∧ (b = true ↔ (∀ y, j ≤ y → y < l.length → good l i y) ∧ ∀ x y, i + 1 ≤ x → x < y → y < l.length → good l x y) := by
          intro B hB
          obtain ⟨b, hb, hb'⟩ := ihd (j + 1) (by omega) (by omega) k (by omega)
          simp only [spec_PolygonOk.j4]
          rw [wj]
          have pos : good l i j → ∃ b, spec_PolygonOk.l3 k l (l.length : Int) (i : Int) ((j + 1 : Nat) : Int) (l.length : Int) (i : Int) = some b ∧ (b = true ↔ (∀ y, j ≤ y → y < l.length → good l i y) ∧ ∀ x y, i + 1 ≤ x → x < y → y < l.length → good l x y) := by
            intro hg
            refine ⟨b, hb, hb'.trans ⟨fun h => ⟨fun y h1 h2 => ?_, h.2⟩, fun h => ⟨fun y h1 h2 => h.1 y (by omega) h2, h.2⟩⟩⟩
            by_cases hy : y = j
            · subst hy; exact hg
            · exact h.1 y (by omega) h2
          have neg : ¬ good l i j → ∃ b, (some false : Option Bool) = some b ∧ (b = true ↔ (∀ y, j ≤ y → y < l.length → good l i y) ∧ ∀ x y, i + 1 ≤ x → x < y → y < l.length → good l x y) := by
            intro hg
            exact ⟨false, rfl, by simp; intro h; exact absurd (h j (by omega) hj') hg⟩
          cases B
          · have ha : ¬ adj l.length i j := by rw [← hB]; simp
            rw [if_neg (by simp)]
            by_cases hm : meetI (pt l i) (pt l (i + 1)) (pt l j) (pt l (j + 1)) = 0
            · rw [if_pos hm]; exact pos (by unfold good; rw [if_neg ha]; exact hm)
            · rw [if_neg hm]; exact neg (by unfold good; rw [if_neg ha]; exact hm)
          · have ha : adj l.length i j := hB.1 rfl
            rw [if_pos rfl]
            by_cases hm : meetI (pt l i) (pt l (i + 1)) (pt l j) (pt l (j + 1)) = 1
            · rw [if_pos hm]; exact pos (by unfold good; rw [if_pos ha]; exact hm)
            · rw [if_neg hm]; exact neg (by unfold good; rw [if_pos ha]; exact hm)
        by_cases c1 : j = i + 1
        · rw [if_pos (by omega)]
          exact wm true (by simp [adj, c1])
        · rw [if_neg (by omega)]
          by_cases c2 : i = 0
          · rw [if_pos (by omega)]
            refine wm _ ?_
            rw [beq_iff_eq]; unfold adj; omega
          · rw [if_neg (by omega)]
            exact wm false (by simp [adj, c1, c2])
    obtain ⟨b, hb, hb'⟩ := inner e (i + 1) (by omega) (by omega) k (by omega)
    push_cast at hb
    refine ⟨b, hb, hb'.trans ⟨fun h x y h1 h2 h3 => ?_, fun h => ⟨fun y h1 h2 => h i y (by omega) (by omega) h2, fun x y h1 h2 h3 => h x y (by omega) h2 h3⟩⟩⟩
    by_cases hx : x = i
    · subst hx; exact h.1 y (by omega) h3
    · exact h.2 x y (by omega) h2 h3
theorem sp_l1 {l : List Pt} (hok : ∀ p ∈ l, okp p = true) (hn : l.length ≤ 10) : ∀ (e i : Nat), i + e = l.length →
    (∀ k, 400 + e < k → ∃ b, spec_PolygonOk.l1 k l (l.length : Int) (l.length : Int) (i : Int) = some b ∧ (b = true ↔ (∀ x, i ≤ x → x < l.length → pt l x ≠ pt l (x + 1)) ∧ ∀ x y, x < y → y < l.length → good l x y)) := by
  intro e
  induction e with
  | zero =>
    intro i hi k hk
    obtain ⟨k, rfl⟩ : ∃ m, k = m + 1 := ⟨k - 1, by omega⟩
    simp only [spec_PolygonOk.l1]
    rw [if_neg (by omega)]
    obtain ⟨b, hb, hb'⟩ := sp_l23 hok hn l.length 0 (by omega) k (by omega)
    refine ⟨b, hb, hb'.trans ⟨fun h => ⟨fun x h1 h2 => by omega, fun x y h1 h2 => h x y (by omega) h1 h2⟩, fun h x y _ h1 h2 => h.2 x y h1 h2⟩⟩
  | succ e ih =>
    intro i hi k hk
    obtain ⟨k, rfl⟩ : ∃ m, k = m + 1 := ⟨k - 1, by omega⟩
    have h0 : 0 < l.length := by omega
    have hi' : i < l.length := by omega
    have wi : wrap64 ((i : Int) + 1) = ((i + 1 : Nat) : Int) := by rw [wrap64_id (by omega) (by omega)]; rfl
    have li := Nat.mod_lt (i + 1) h0
    simp only [spec_PolygonOk.l1]
    rw [wi, tmod_at, rd_mod l (i + 1) h0, rd_pt l i hi', pt_beq]
    rw [if_pos (by omega), if_pos (by omega), if_pos (by omega), if_neg (by omega), if_pos (by omega), if_pos (by omega)]
    by_cases hp : pt l i = pt l (i + 1)
    · rw [if_pos (by simpa using hp)]
      exact ⟨false, rfl, by simp; intro h; exact absurd hp (h i (by omega) hi')⟩
    · rw [if_neg (by simpa using hp)]
      obtain ⟨b, hb, hb'⟩ := ih (i + 1) (by omega) k (by omega)
      refine ⟨b, hb, hb'.trans ⟨fun h => ⟨fun x h1 h2 => ?_, h.2⟩, fun h => ⟨fun x h1 h2 => h.1 x (by omega) h2, h.2⟩⟩⟩
      by_cases hx : x = i
      · subst hx; exact hp
      · exact h.1 x (by omega) h2
theorem sp_l0 {l : List Pt} (hn : l.length ≤ 10) : ∀ (e i : Nat), i + e = l.length → (∀ j (h : j < l.length), j < i → okp l[j] = true) →
    (∀ k, 420 + e < k → ∃ b, spec_PolygonOk.l0 k l l (l.length : Int) (i : Int) = some b ∧ (b = true ↔ (∀ p ∈ l, okp p = true) ∧ (∀ x, x < l.length → pt l x ≠ pt l (x + 1)) ∧ ∀ x y, x < y → y < l.length → good l x y)) := by
  intro e
  induction e with
  | zero =>
    intro i hi hp k hk
    obtain ⟨k, rfl⟩ : ∃ m, k = m + 1 := ⟨k - 1, by omega⟩
    simp only [spec_PolygonOk.l0]
    rw [if_neg (by omega)]
    have hok : ∀ p ∈ l, okp p = true := by
      intro p hp'
      obtain ⟨j, hj, rfl⟩ := List.mem_iff_getElem.1 hp'
      exact hp j hj (by omega)
    obtain ⟨b, hb, hb'⟩ := sp_l1 hok hn l.length 0 (by omega) k (by omega)
    refine ⟨b, hb, hb'.trans ⟨fun h => ⟨hok, fun x h1 => h.1 x (by omega) h1, h.2⟩, fun h => ⟨fun x _ h1 => h.2.1 x h1, h.2.2⟩⟩⟩
  | succ e ih =>
    intro i hi hp k hk
    obtain ⟨k, rfl⟩ : ∃ m, k = m + 1 := ⟨k - 1, by omega⟩
    have hi' : i < l.length := by omega
    simp only [spec_PolygonOk.l0]
    rw [rd_at l i hi', spec_PointOk_eq, Option.bind_some, if_pos (by omega), if_pos (by omega), if_pos (by omega), wrap64_id (by omega) (by omega)]
    by_cases h : ok l[i].f0 l[i].f1 = true
    · rw [if_pos h]
      have := ih (i + 1) (by omega) (fun j hj hji => by
        by_cases he : j = i
        · subst he; exact h
        · exact hp j hj (by omega)) k (by omega)
      push_cast at this
      exact this
    · rw [if_neg h]
      exact ⟨false, rfl, by simp; intro hq; exact absurd (hq _ (List.getElem_mem hi')) h⟩
theorem spec_PolygonOk_eq (l : List Pt) (hl : l.length ≤ 9223372036854775807) (k : Nat) (hk : 500 < k) : spec_PolygonOk.f k l = some (impl_PolygonOk.ok l) := by
  unfold spec_PolygonOk.f spec_l01In.f
  by_cases h3 : 3 ≤ l.length
  · by_cases h10 : l.length ≤ 10
    · obtain ⟨b, hb, hb'⟩ := sp_l0 h10 l.length 0 (by omega) (fun j _ h => by omega) k (by omega)
      rw [if_pos (by omega)]
      have e : (some (decide ((l.length : Int) ≤ 10))).bind (fun t101 => if t101 = true then spec_PolygonOk.l0 k l l (l.length : Int) 0 else some false) = spec_PolygonOk.l0 k l l (l.length : Int) 0 := by
        rw [Option.bind_some, if_pos (by simp; omega)]
      refine e.trans (hb.trans ?_)
      congr 1
      rw [Bool.eq_iff_iff, hb', impl_ok_iff]
      exact ⟨fun h => ⟨h3, h10, h.1, h.2.1, h.2.2⟩, fun h => ⟨h.okp, h.ne, h.good⟩⟩
    · rw [if_pos (by omega), Option.bind_some, if_neg (by simp; omega)]
      congr 1
      symm
      rw [← Bool.not_eq_true, impl_ok_iff]
      exact fun h => h10 h.n10
  · rw [if_neg (by omega), Option.bind_some, if_neg (by simp)]
    congr 1
    symm
    rw [← Bool.not_eq_true, impl_ok_iff]
    exact fun h => h3 h.n3
theorem okp_iff {p : Pt} : okp p = true ↔ 0 ≤ p.f0 ∧ p.f0 ≤ 40 ∧ 0 ≤ p.f1 ∧ p.f1 ≤ 40 := ok_iff
def tw (l : List Pt) (i : Nat) : Int := (pt l i).f0 * (pt l (i + 1)).f1 - (pt l i).f1 * (pt l (i + 1)).f0
def twS (l : List Pt) : Nat → Int
  | 0 => 0
  | i + 1 => twS l i + tw l i
theorem mul_small {a b : Int} (h1 : 0 ≤ a) (h2 : a ≤ 40) (h3 : 0 ≤ b) (h4 : b ≤ 40) : 0 ≤ a * b ∧ a * b ≤ 1600 := by
  have e1 := Int.mul_nonneg h1 h3
  have e2 := Int.mul_nonneg (show 0 ≤ 40 - a by omega) (show 0 ≤ b by omega)
  have e3 : (40 - a) * b = 40 * b - a * b := by grind
  omega
theorem pt_ok {l : List Pt} (hok : ∀ p ∈ l, okp p = true) (h0 : 0 < l.length) (i : Nat) : 0 ≤ (pt l i).f0 ∧ (pt l i).f0 ≤ 40 ∧ 0 ≤ (pt l i).f1 ∧ (pt l i).f1 ≤ 40 := okp_iff.1 (hok _ (pt_mem l i h0))
theorem tw_parts {l : List Pt} (hok : ∀ p ∈ l, okp p = true) (h0 : 0 < l.length) (i : Nat) : 0 ≤ (pt l i).f0 * (pt l (i + 1)).f1 ∧ (pt l i).f0 * (pt l (i + 1)).f1 ≤ 1600 ∧ 0 ≤ (pt l i).f1 * (pt l (i + 1)).f0 ∧ (pt l i).f1 * (pt l (i + 1)).f0 ≤ 1600 := by
  have h1 := pt_ok hok h0 i
  have h2 := pt_ok hok h0 (i + 1)
  have e1 := mul_small h1.1 h1.2.1 h2.2.2.1 h2.2.2.2
  have e2 := mul_small h1.2.2.1 h1.2.2.2 h2.1 h2.2.1
  exact ⟨e1.1, e1.2, e2.1, e2.2⟩
theorem twS_bound {l : List Pt} (hok : ∀ p ∈ l, okp p = true) (h0 : 0 < l.length) : ∀ i : Nat, -1600 * (i : Int) ≤ twS l i ∧ twS l i ≤ 1600 * (i : Int)
  | 0 => by simp [twS]
  | i + 1 => by
    have := twS_bound hok h0 i
    have := tw_parts hok h0 i
    simp only [twS, tw]
    omega
theorem pt_add (l : List Pt) (i : Nat) : pt l (i + l.length) = pt l i := by unfold pt; rw [Nat.add_mod_right]
theorem prev_at (l : List Pt) (i : Nat) (hi : i < l.length) (hn : l.length ≤ 1000000) : Int.tmod (wrap64 ((wrap64 ((i : Int) + (l.length : Int))) - 1)) (l.length : Int) = (((i + l.length - 1) % l.length : Nat) : Int) := by
  rw [wrap64_id (x := (i : Int) + (l.length : Int)) (by omega) (by omega), wrap64_id (by omega) (by omega)]
  have e : (i : Int) + (l.length : Int) - 1 = ((i + l.length - 1 : Nat) : Int) := by omega
  rw [e, tmod_at]
end Go.Proofs.Ytlccpkggdmngaaa.G
namespace Go.Proofs.Ytlccpkggdmngaaa.G
open Go.RowKit Go.Proofs.YtlccpkggdmngaaaW.PrintWords Go.Proofs.YtlccpkggdmngaaaW.PrintLast Go.Proofs.YtlccpkggdmngaaaW.PrintMore
set_option linter.unusedSimpArgs false
set_option linter.unusedVariables false
def tog (l : List Pt) (x : Pt) (i : Nat) : Bool :=
  (decide ((pt l i).f1 ≤ x.f1) && decide (x.f1 < (pt l (i + 1)).f1) && decide (0 < crossP (pt l i) (pt l (i + 1)) x)) ||
  (decide ((pt l (i + 1)).f1 ≤ x.f1) && decide (x.f1 < (pt l i).f1) && decide (crossP (pt l i) (pt l (i + 1)) x < 0))
def par (l : List Pt) (x : Pt) : Nat → Bool
  | 0 => false
  | i + 1 => if tog l x i = true then !par l x i else par l x i
def rimP (l : List Pt) (x : Pt) (i : Nat) : Bool := onP (pt l i) (pt l (i + 1)) x
open Classical in
theorem isin_l0 {l : List Pt} (hok : ∀ p ∈ l, smp p) (hn : l.length ≤ 1000000) (h0 : 0 < l.length) {x : Pt} (hx : smp x) (d : Nat) : ∀ (k i : Nat), i + d = l.length → d < k →
    impl_isIn.l0 k l (par l x i) l (l.length : Int) (i : Int) x.f0 x.f1 = some (if ∃ j, i ≤ j ∧ j < l.length ∧ rimP l x j = true then true else par l x l.length) := by
  induction d with
  | zero =>
    intro k i hi hk
    obtain ⟨k, rfl⟩ : ∃ m, k = m + 1 := ⟨k - 1, by omega⟩
    obtain rfl : i = l.length := by omega
    simp only [impl_isIn.l0]; rw [if_neg (by omega), if_neg]
    rintro ⟨j, h1, h2, _⟩; omega
  | succ d ih =>
    intro k i hi hk
    obtain ⟨k, rfl⟩ : ∃ m, k = m + 1 := ⟨k - 1, by omega⟩
    have wi : wrap64 ((i : Int) + 1) = ((i + 1 : Nat) : Int) := by rw [wrap64_id (by omega) (by omega)]; rfl
    have li := Nat.mod_lt (i + 1) h0
    have s : ∀ k, smp (pt l k) := fun k => hok _ (pt_mem l k h0)
    simp only [impl_isIn.l0]
    rw [wi, tmod_at, rd_mod l (i + 1) h0, rd_pt l i (by omega), if_pos (by omega), if_pos (by omega), if_pos (by omega), if_neg (by omega), if_pos (by omega), if_pos (by omega)]
    rw [impl_on_eq (s _).1 (s _).2 (s _).1 (s _).2 hx.1 hx.2, Option.bind_some]
    by_cases hr : rimP l x i = true
    · rw [if_pos (show onI (pt l i).f0 (pt l i).f1 (pt l (i + 1)).f0 (pt l (i + 1)).f1 x.f0 x.f1 = true from hr), if_pos ⟨i, by omega, by omega, hr⟩]
    rw [if_neg (show ¬ onI (pt l i).f0 (pt l i).f1 (pt l (i + 1)).f0 (pt l (i + 1)).f1 x.f0 x.f1 = true from hr)]
    have er : (if ∃ j, i ≤ j ∧ j < l.length ∧ rimP l x j = true then true else par l x l.length) = (if ∃ j, i + 1 ≤ j ∧ j < l.length ∧ rimP l x j = true then true else par l x l.length) := by
      have : (∃ j, i ≤ j ∧ j < l.length ∧ rimP l x j = true) ↔ ∃ j, i + 1 ≤ j ∧ j < l.length ∧ rimP l x j = true := by
        constructor
        · rintro ⟨j, h1, h2, h3⟩
          by_cases hj : j = i
          · subst hj; exact absurd h3 hr
          · exact ⟨j, by omega, h2, h3⟩
        · rintro ⟨j, h1, h2, h3⟩
          exact ⟨j, by omega, h2, h3⟩
      by_cases hq : ∃ j, i + 1 ≤ j ∧ j < l.length ∧ rimP l x j = true
      · rw [if_pos hq, if_pos (this.2 hq)]
      · rw [if_neg hq, if_neg (fun g => hq (this.1 g))]
    rw [er, ← ih k (i + 1) (by omega) (by omega)]
    rw [impl_cross_eq (s _).1 (s _).2 (s _).1 (s _).2 hx.1 hx.2, impl_cross_eq (s _).1 (s _).2 (s _).1 (s _).2 hx.1 hx.2, Option.bind_some, Option.bind_some]
    have e : crossI (pt l i).f0 (pt l i).f1 (pt l (i + 1)).f0 (pt l (i + 1)).f1 x.f0 x.f1 = crossP (pt l i) (pt l (i + 1)) x := rfl
    have e' : crossI (pt l (i + 1)).f0 (pt l (i + 1)).f1 (pt l i).f0 (pt l i).f1 x.f0 x.f1 = - crossP (pt l i) (pt l (i + 1)) x := by unfold crossP crossI; grind
    rw [e, e']
    have ht : tog l x i = true ↔ ((pt l i).f1 ≤ x.f1 ∧ x.f1 < (pt l (i + 1)).f1 ∧ 0 < crossP (pt l i) (pt l (i + 1)) x) ∨ ((pt l (i + 1)).f1 ≤ x.f1 ∧ x.f1 < (pt l i).f1 ∧ crossP (pt l i) (pt l (i + 1)) x < 0) := by
      unfold tog; simp only [Bool.or_eq_true, Bool.and_eq_true, decide_eq_true_eq, and_assoc]
    simp only [par]
    generalize crossP (pt l i) (pt l (i + 1)) x = c at *
    generalize (pt l i).f1 = u at *
    generalize (pt l (i + 1)).f1 = v at *
    by_cases h : tog l x i = true
    · rw [if_pos h]
      have := ht.1 h
      by_cases h1 : u > v
      · rw [if_pos h1, if_pos (by omega), if_pos (by omega), if_pos (by omega)]
      · rw [if_neg h1, if_pos (by omega), if_pos (by omega), if_pos (by omega)]
    · rw [if_neg h]
      have hn : ¬ _ := fun g => h (ht.2 g)
      by_cases h1 : u > v
      · rw [if_pos h1]
        by_cases h2 : v ≤ x.f1
        · rw [if_pos h2]
          by_cases h3 : x.f1 < u
          · rw [if_pos h3, if_neg (by omega)]
          · rw [if_neg h3]
        · rw [if_neg h2]
      · rw [if_neg h1]
        by_cases h2 : u ≤ x.f1
        · rw [if_pos h2]
          by_cases h3 : x.f1 < v
          · rw [if_pos h3, if_neg (by omega)]
          · rw [if_neg h3]
        · rw [if_neg h2]
open Classical in
theorem impl_isIn_eq {l : List Pt} (hp : Poly l) {x : Pt} (hx : smp x) (k : Nat) (hk : 11 < k) : impl_isIn.f k l x.f0 x.f1 = some (if ∃ j, j < l.length ∧ rimP l x j = true then true else par l x l.length) := by
  have h3 := hp.n3
  have h10 := hp.n10
  unfold impl_isIn.f
  have := isin_l0 (fun p h => okp_smp (hp.okp p h)) (by omega) (by omega) hx l.length k 0 (by omega) (by omega)
  simpa [par] using this
theorem mx_abs {a : Int} (h : sm a) : mx a (wrap64 (-a)) = (a.natAbs : Int) := by
  unfold sm at h; rw [wrap64_id (by omega) (by omega)]; unfold mx; omega
theorem common_l0 (m : Nat) : ∀ (k : Nat) (a b : Int), sm a → sm b → b.natAbs = m → m < k → impl_common.l0 k a b = some (Int.gcd a b : Int) := by
  induction m using Nat.strongRecOn with
  | _ m ih =>
    intro k a b ha hb hm hk
    obtain ⟨k, rfl⟩ : ∃ q, k = q + 1 := ⟨k - 1, by omega⟩
    simp only [impl_common.l0]
    by_cases h0 : b = 0
    · subst h0; rw [if_pos rfl, mx_abs ha]; simp
    · have h1 : (Int.tmod a b).natAbs = a.natAbs % b.natAbs := Int.natAbs_tmod a b
      have h2 : a.natAbs % b.natAbs < b.natAbs := Nat.mod_lt _ (by omega)
      rw [if_neg h0, ih (Int.tmod a b).natAbs (by omega) k b (Int.tmod a b) hb (by unfold sm at *; omega) rfl (by omega)]
      congr 2
      rw [Int.gcd_comm a b, Int.gcd, Int.gcd, h1, Nat.gcd_comm, ← Nat.gcd_rec]
theorem common_eq {a b : Int} (ha : sm a) (hb : sm b) (k : Nat) (hk : 1000 < k) : impl_common.f k a b = some (Int.gcd a b : Int) := by
  unfold impl_common.f; exact common_l0 _ k a b ha hb rfl (by unfold sm at hb; omega)
theorem onP_iff {a b p : Pt} : onP a b p = true ↔ crossP a b p = 0 ∧ mn a.f0 b.f0 ≤ p.f0 ∧ p.f0 ≤ mx a.f0 b.f0 ∧ mn a.f1 b.f1 ≤ p.f1 ∧ p.f1 ≤ mx a.f1 b.f1 := by
  unfold onP onI crossP; simp only [Bool.and_eq_true, decide_eq_true_eq, and_assoc]
theorem crossP_cyc (a b p : Pt) : crossP a b p = crossP b p a := by unfold crossP crossI; grind
theorem crossP_swap (a b p : Pt) : crossP a b p = - crossP b a p := by unfold crossP crossI; grind
theorem onP_left (a b : Pt) : onP a b a = true := by
  rw [onP_iff]; refine ⟨by unfold crossP crossI; grind, ?_⟩; unfold mn mx; omega
theorem onP_right (a b : Pt) : onP a b b = true := by
  rw [onP_iff]; refine ⟨by unfold crossP crossI; grind, ?_⟩; unfold mn mx; omega
theorem pos_of_mul_eq {u v a b : Int} (h : u * b = a * v) (hu : 0 < u) (hv : 0 < v) (ha : 0 < a) : 0 < b := by
  rcases Int.lt_trichotomy b 0 with hb | hb | hb
  · have := Int.mul_neg_of_pos_of_neg hu hb
    have := Int.mul_pos ha hv
    omega
  · subst hb; have := Int.mul_pos ha hv; simp at h; omega
  · exact hb
theorem le_of_mul_eq {u v a b : Int} (h : u * b = a * v) (hu : 0 < u) (huv : u ≤ v) (hb : 0 ≤ b) (ha : 0 ≤ a) : a ≤ b := by
  rcases Int.lt_or_le b a with hab | hab
  · have h1 : u * b ≤ v * b := Int.mul_le_mul_of_nonneg_right huv hb
    have h2 : v * b < v * a := Int.mul_lt_mul_of_pos_left hab (by omega)
    have h3 : a * v = v * a := Int.mul_comm a v
    omega
  · exact hab
def oppS (u v : Int) : Prop := (u ≤ 0 ∧ 0 ≤ v) ∨ (v ≤ 0 ∧ 0 ≤ u)
def leS (u v : Int) : Prop := (0 ≤ u ∧ u ≤ v) ∨ (v ≤ u ∧ u ≤ 0)
theorem line_key {u0 u1 v0 v1 : Int} (h0 : 0 ≤ u0) (h1 : 0 ≤ u1) (h : u0 * v1 = u1 * v0) : (oppS u0 v0 ∧ oppS u1 v1) ∨ (leS u0 v0 ∧ leS u1 v1) ∨ (leS v0 u0 ∧ leS v1 u1) := by
  unfold oppS leS
  by_cases z0 : u0 = 0
  · subst z0
    rw [Int.zero_mul] at h
    rcases Int.mul_eq_zero.1 h.symm with z | z <;> omega
  · by_cases z1 : u1 = 0
    · subst z1
      rw [Int.zero_mul] at h
      rcases Int.mul_eq_zero.1 h with z | z <;> omega
    · have p0 : 0 < u0 := by omega
      have p1 : 0 < u1 := by omega
      rcases Int.lt_trichotomy v0 0 with hv | hv | hv
      · have h' : u0 * (-v1) = u1 * (-v0) := by rw [Int.mul_neg, Int.mul_neg, h]
        have := pos_of_mul_eq h' p0 (by omega) p1
        omega
      · subst hv
        rw [Int.mul_zero] at h
        rcases Int.mul_eq_zero.1 h with z | z <;> omega
      · have q := pos_of_mul_eq h p0 hv p1
        rcases Int.le_total u0 v0 with hle | hle
        · have := le_of_mul_eq h p0 hle (by omega) (by omega)
          omega
        · have h' : v0 * u1 = v1 * u0 := by rw [Int.mul_comm v0, Int.mul_comm v1, h]
          have := le_of_mul_eq h' hv hle (by omega) (by omega)
          omega
theorem line_all {u0 u1 v0 v1 : Int} (h : u0 * v1 = u1 * v0) : (oppS u0 v0 ∧ oppS u1 v1) ∨ (leS u0 v0 ∧ leS u1 v1) ∨ (leS v0 u0 ∧ leS v1 u1) := by
  rcases Int.le_total 0 u0 with h0 | h0 <;> rcases Int.le_total 0 u1 with h1 | h1
  · exact line_key h0 h1 h
  · have := line_key (u0 := u0) (u1 := -u1) (v0 := v0) (v1 := -v1) h0 (by omega) (by rw [Int.mul_neg, Int.neg_mul, h])
    unfold oppS leS at *; omega
  · have := line_key (u0 := -u0) (u1 := u1) (v0 := -v0) (v1 := v1) (by omega) h1 (by rw [Int.mul_neg, Int.neg_mul, h])
    unfold oppS leS at *; omega
  · have := line_key (u0 := -u0) (u1 := -u1) (v0 := -v0) (v1 := -v1) (by omega) (by omega) (by rw [Int.neg_mul_neg, Int.neg_mul_neg, h])
    unfold oppS leS at *; omega
theorem line_between {a x b : Pt} (h : crossP a x b = 0) : onP a b x = true ∨ onP x b a = true ∨ onP a x b = true := by
  have h0 : (a.f0 - x.f0) * (b.f1 - x.f1) = (a.f1 - x.f1) * (b.f0 - x.f0) := by unfold crossP crossI at h; grind
  have c1 : crossP a b x = 0 := by unfold crossP crossI at *; grind
  have c2 : crossP x b a = 0 := by unfold crossP crossI at *; grind
  rw [onP_iff, onP_iff, onP_iff]
  have := line_all h0
  unfold oppS leS at this
  unfold mn mx
  rcases this with t | t | t
  · refine Or.inl ⟨c1, ?_⟩; omega
  · refine Or.inr (Or.inl ⟨c2, ?_⟩); omega
  · refine Or.inr (Or.inr ⟨h, ?_⟩); omega
theorem touch {a b c d : Pt} (h : meetI a b c d = 1) {x y : Pt} (hx : x ∈ shared a b c d) (hy : y ∈ shared a b c d) : x = y := by
  unfold meetI at h
  by_cases ht : two (shared a b c d)
  · rw [if_pos ht] at h; omega
  · exact Classical.byContradiction fun e => ht ⟨x, hx, y, hy, e⟩
theorem mem_shared_c {a b c d : Pt} (h : onP a b c = true) : c ∈ shared a b c d := by simp [shared, h]
theorem mem_shared_d {a b c d : Pt} (h : onP a b d = true) : d ∈ shared a b c d := by simp [shared, h]
theorem mem_shared_a {a b c d : Pt} (h : onP c d a = true) : a ∈ shared a b c d := by simp [shared, h]
theorem mem_shared_b {a b c d : Pt} (h : onP c d b = true) : b ∈ shared a b c d := by simp [shared, h]
theorem no_back {l : List Pt} (hp : Poly l) {i : Nat} (hi : i < l.length) : onP (pt l i) (pt l (i + 1)) (pt l (i + 2)) = false ∧ onP (pt l (i + 1)) (pt l (i + 2)) (pt l i) = false := by
  have h3 := hp.n3
  have ne0 : pt l i ≠ pt l (i + 1) := hp.ne i hi
  have ne1 : pt l (i + 1) ≠ pt l (i + 2) := by
    by_cases h : i + 1 < l.length
    · exact hp.ne (i + 1) h
    · have e : i + 1 = 0 + l.length := by omega
      have e2 : i + 2 = 1 + l.length := by omega
      rw [e, e2, pt_add, pt_add]; exact hp.ne 0 (by omega)
  by_cases h : i + 1 < l.length
  · have g := hp.good i (i + 1) (by omega) h
    unfold good at g
    rw [if_pos (show adj l.length i (i + 1) from Or.inl rfl)] at g
    constructor
    · rw [← Bool.not_eq_true]; intro ho
      exact ne1 (touch g (mem_shared_c (onP_right _ _)) (mem_shared_d ho))
    · rw [← Bool.not_eq_true]; intro ho
      exact ne0 (touch g (mem_shared_a ho) (mem_shared_b (onP_left _ _)))
  · have g := hp.good 0 i (by omega) hi
    unfold good at g
    rw [if_pos (show adj l.length 0 i from Or.inr ⟨rfl, by omega⟩)] at g
    have e : i + 1 = 0 + l.length := by omega
    have e2 : i + 2 = 1 + l.length := by omega
    rw [e, pt_add] at g ne0 ne1
    rw [e2, pt_add] at ne1
    rw [e, e2, pt_add, pt_add]
    constructor
    · rw [← Bool.not_eq_true]; intro ho
      exact ne1 (touch g (mem_shared_a (onP_right _ _)) (mem_shared_b ho))
    · rw [← Bool.not_eq_true]; intro ho
      exact ne0 (touch g (mem_shared_c ho) (mem_shared_d (onP_left _ _)))
theorem straight_iff {l : List Pt} (hp : Poly l) {i : Nat} (hi : i < l.length) : crossP (pt l i) (pt l (i + 1)) (pt l (i + 2)) = 0 ↔ onP (pt l i) (pt l (i + 2)) (pt l (i + 1)) = true := by
  constructor
  · intro h
    obtain ⟨n1, n2⟩ := no_back hp hi
    rcases line_between h with g | g | g
    · exact g
    · rw [g] at n2; cases n2
    · rw [g] at n1; cases n1
  · intro h
    have := (onP_iff.1 h).1
    unfold crossP crossI at *; grind
def bent (l : List Pt) : Nat → List Pt
  | 0 => []
  | i + 1 => if crossP (pt l (i + l.length - 1)) (pt l i) (pt l (i + 1)) = 0 then bent l i else bent l i ++ [pt l i]
theorem bent_len (l : List Pt) : ∀ i, (bent l i).length ≤ i
  | 0 => by simp [bent]
  | i + 1 => by
    have := bent_len l i
    simp only [bent]; split
    · omega
    · simp; omega
theorem straight_prev {l : List Pt} (hp : Poly l) {i : Nat} (hi : i < l.length) : crossP (pt l (i + l.length - 1)) (pt l i) (pt l (i + 1)) = 0 ↔ onP (pt l (i + l.length - 1)) (pt l (i + 1)) (pt l i) = true := by
  have h3 := hp.n3
  by_cases h0 : i = 0
  · subst h0
    have := straight_iff hp (i := l.length - 1) (by omega)
    rw [show l.length - 1 + 1 = 0 + l.length by omega, show l.length - 1 + 2 = 1 + l.length by omega, pt_add, pt_add] at this
    rw [show 0 + l.length - 1 = l.length - 1 by omega]
    exact this
  · have := straight_iff hp (i := i - 1) (by omega)
    rw [show i - 1 + 1 = i by omega, show i - 1 + 2 = i + 1 by omega] at this
    rw [show i + l.length - 1 = i - 1 + l.length by omega, pt_add]
    exact this
def vp (p : Pt) : Pick.V := ⟨p.f0, p.f1⟩
def vr (l : List Pt) (j : Nat) : Pick.V := vp (pt l j)
theorem vp_ne {a b : Pt} (h : a ≠ b) : vp a ≠ vp b := fun e => h (pt_ext (congrArg Pick.V.x e) (congrArg Pick.V.y e))
theorem vp_cross (a b c : Pt) : Pick.cross (vp a) (vp b) (vp c) = crossP a b c := rfl
theorem vp_on (a b c : Pt) : Pick.on (vp a) (vp b) (vp c) ↔ onP a b c = true := by
  rw [onP_iff, ← vp_cross]
  unfold Pick.on Pick.btw vp mn mx
  simp only []
  omega
theorem sgn_cl (n : Int) : (0 < n ∧ sgn n = 1) ∨ (n < 0 ∧ sgn n = -1) ∨ (n = 0 ∧ sgn n = 0) := by
  unfold sgn
  rcases Int.lt_trichotomy n 0 with h | h | h
  · exact Or.inr (Or.inl ⟨h, by rw [if_neg (by omega), if_pos h]⟩)
  · exact Or.inr (Or.inr ⟨h, by rw [if_neg (by omega), if_neg (by omega)]⟩)
  · exact Or.inl ⟨h, if_pos h⟩
theorem sgn_opp (m n : Int) : sgn m * sgn n < 0 ↔ Pick.opp m n := by
  unfold Pick.opp
  rcases sgn_cl m with ⟨h, e⟩ | ⟨h, e⟩ | ⟨h, e⟩ <;> rcases sgn_cl n with ⟨g, f⟩ | ⟨g, f⟩ | ⟨g, f⟩ <;> rw [e, f] <;> omega
theorem apart_of {a b c d : Pt} (h : meetI a b c d = 0) : Pick.Apart (vp a) (vp b) (vp c) (vp d) := by
  unfold meetI at h
  have ht : ¬ two (shared a b c d) := fun k => by rw [if_pos k] at h; omega
  rw [if_neg ht] at h
  have hs : shared a b c d = [] := Classical.byContradiction fun k => by rw [if_neg k] at h; omega
  rw [if_pos hs] at h
  have hc : ¬ crosses a b c d := fun k => by rw [if_pos k] at h; omega
  have none : ∀ x, x ∉ shared a b c d := fun x hx => by rw [hs] at hx; simp at hx
  refine ⟨fun k => none c (mem_shared_c ((vp_on _ _ _).mp k)), fun k => none d (mem_shared_d ((vp_on _ _ _).mp k)), fun k => none a (mem_shared_a ((vp_on _ _ _).mp k)), fun k => none b (mem_shared_b ((vp_on _ _ _).mp k)), fun k => hc ?_⟩
  exact ⟨(sgn_opp _ _).mpr k.1, (sgn_opp _ _).mpr k.2⟩
theorem pt_mod (l : List Pt) (i : Nat) : pt l i = pt l (i % l.length) := by unfold pt; rw [Nat.mod_mod]
theorem pt_mod1 (l : List Pt) (i : Nat) : pt l (i + 1) = pt l (i % l.length + 1) := by unfold pt; rw [Nat.mod_add_mod]
theorem pt_mod2 (l : List Pt) (i : Nat) : pt l (i + 2) = pt l (i % l.length + 2) := by unfold pt; rw [Nat.mod_add_mod]
theorem mod_cases {i j n : Nat} (hn : 0 < n) (h1 : i + 2 ≤ j) (h2 : j + 2 ≤ i + n) : (i % n < j % n ∧ ¬ adj n (i % n) (j % n)) ∨ (j % n < i % n ∧ ¬ adj n (j % n) (i % n)) := by
  have e1 := Nat.mod_add_div i n
  have e2 := Nat.mod_add_div j n
  have l1 := Nat.mod_lt i hn
  have l2 := Nat.mod_lt j hn
  generalize i % n = a at *
  generalize j % n = b at *
  generalize i / n = u at *
  generalize j / n = v at *
  have hv : v = u ∨ v = u + 1 := by
    rcases Nat.lt_or_ge v u with g | g
    · have := Nat.mul_le_mul_left n (show v + 1 ≤ u from g)
      rw [Nat.mul_add, Nat.mul_one] at this
      omega
    · rcases Nat.lt_or_ge (u + 1) v with g' | g'
      · have := Nat.mul_le_mul_left n (show u + 2 ≤ v from g')
        rw [Nat.mul_add] at this
        omega
      · omega
  unfold adj
  rcases hv with rfl | rfl
  · left; omega
  · right; rw [Nat.mul_add, Nat.mul_one] at e2; omega
theorem poly_road {l : List Pt} (hp : Poly l) : Pick.Road (vr l) l.length := by
  have h3 := hp.n3
  have ne : ∀ i, pt l i ≠ pt l (i + 1) := fun i => by
    rw [pt_mod, pt_mod1]
    exact hp.ne _ (Nat.mod_lt _ (by omega))
  refine ⟨h3, fun j => congrArg vp (pt_add l j), fun i => ?_, fun i j h1 h2 => ?_⟩
  · have nb := no_back hp (Nat.mod_lt i (show 0 < l.length by omega))
    rw [← pt_mod, ← pt_mod1, ← pt_mod2] at nb
    exact ⟨vp_ne (ne i), vp_ne (ne (i + 1)), fun k => Bool.noConfusion (nb.1.symm.trans ((vp_on _ _ _).mp k)), fun k => Bool.noConfusion (nb.2.symm.trans ((vp_on _ _ _).mp k))⟩
  · unfold vr
    rw [pt_mod l i, pt_mod1 l i, pt_mod l j, pt_mod1 l j]
    rcases mod_cases (show 0 < l.length by omega) h1 h2 with ⟨a, b⟩ | ⟨a, b⟩
    · have g := hp.good _ _ a (Nat.mod_lt _ (by omega))
      unfold good at g
      rw [if_neg b] at g
      exact apart_of g
    · have g := hp.good _ _ a (Nat.mod_lt _ (by omega))
      unfold good at g
      rw [if_neg b] at g
      exact (apart_of g).flip
theorem A2_eq (l : List Pt) : ∀ n, Pick.A2 (vr l) n = twS l n
  | 0 => rfl
  | n + 1 => by
    have := A2_eq l n
    unfold Pick.A2 at this ⊢
    rw [Pick.su_succ, this]
    rfl
def rimN (l : List Pt) : Nat → Int
  | 0 => 0
  | i + 1 => rimN l i + (Int.gcd ((pt l (i + 1)).f0 - (pt l i).f0) ((pt l (i + 1)).f1 - (pt l i).f1) : Int)
theorem B_eq (l : List Pt) : ∀ n, Pick.B (vr l) n = rimN l n
  | 0 => rfl
  | n + 1 => by
    have := B_eq l n
    unfold Pick.B at this ⊢
    rw [Pick.su_succ, this]
    rfl
theorem tog_cr (l : List Pt) (x : Pt) (i : Nat) : Pick.cr (vr l i) (vr l (i + 1)) (vp x) = (if (pt l i).f1 < (pt l (i + 1)).f1 then 1 else -1) * (if tog l x i = true then 1 else 0) := by
  have ht : tog l x i = true ↔ ((pt l i).f1 ≤ x.f1 ∧ x.f1 < (pt l (i + 1)).f1 ∧ 0 < crossP (pt l i) (pt l (i + 1)) x) ∨ ((pt l (i + 1)).f1 ≤ x.f1 ∧ x.f1 < (pt l i).f1 ∧ crossP (pt l i) (pt l (i + 1)) x < 0) := by
    unfold tog; simp only [Bool.or_eq_true, Bool.and_eq_true, decide_eq_true_eq, and_assoc]
  have e : Pick.cr (vr l i) (vr l (i + 1)) (vp x) = if (pt l i).f1 ≤ x.f1 ∧ x.f1 < (pt l (i + 1)).f1 ∧ 0 < crossP (pt l i) (pt l (i + 1)) x then 1 else if (pt l (i + 1)).f1 ≤ x.f1 ∧ x.f1 < (pt l i).f1 ∧ crossP (pt l i) (pt l (i + 1)) x < 0 then -1 else 0 := rfl
  rw [e]
  by_cases c1 : (pt l i).f1 ≤ x.f1 ∧ x.f1 < (pt l (i + 1)).f1 ∧ 0 < crossP (pt l i) (pt l (i + 1)) x
  · rw [if_pos c1, if_pos (ht.mpr (Or.inl c1)), if_pos (by omega)]; rfl
  · rw [if_neg c1]
    by_cases c2 : (pt l (i + 1)).f1 ≤ x.f1 ∧ x.f1 < (pt l i).f1 ∧ crossP (pt l i) (pt l (i + 1)) x < 0
    · rw [if_pos c2, if_pos (ht.mpr (Or.inr c2)), if_neg (by omega)]; rfl
    · rw [if_neg c2, if_neg (fun k => (ht.mp k).elim c1 c2), Int.mul_zero]
theorem par_su (l : List Pt) (x : Pt) : ∀ i, par l x i = decide (Pick.su (fun j => Pick.cr (vr l j) (vr l (j + 1)) (vp x)) i % 2 = 1)
  | 0 => rfl
  | i + 1 => by
    have ih := par_su l x i
    have t := tog_cr l x i
    rw [Pick.su_succ, t]
    simp only [par]
    rw [ih]
    generalize Pick.su (fun j => Pick.cr (vr l j) (vr l (j + 1)) (vp x)) i = s
    by_cases h : tog l x i = true
    · rw [if_pos h, if_pos h, Bool.eq_iff_iff]
      simp only [Bool.not_eq_true', decide_eq_false_iff_not, decide_eq_true_eq]
      split <;> omega
    · rw [if_neg h, if_neg h, Int.mul_zero, Int.add_zero]
theorem off_iff {l : List Pt} (h0 : 0 < l.length) (x : Pt) : Pick.Off (vr l) (vp x) ↔ ¬ ∃ j, j < l.length ∧ rimP l x j = true := by
  unfold Pick.Off rimP
  constructor
  · rintro h ⟨j, _, hj⟩
    exact h j ((vp_on _ _ _).mpr hj)
  · intro h j hj
    refine h ⟨j % l.length, Nat.mod_lt _ h0, ?_⟩
    rw [← pt_mod, ← pt_mod1]
    exact (vp_on _ _ _).mp hj
theorem ins_iff {l : List Pt} (hp : Poly l) (x : Pt) : (Pick.Off (vr l) (vp x) ∧ Pick.W (vr l) l.length (vp x) ≠ 0) ↔ ((¬ ∃ j, j < l.length ∧ rimP l x j = true) ∧ par l x l.length = true) := by
  have h3 := hp.n3
  rw [off_iff (by omega)]
  refine and_congr_right (fun off => ?_)
  have j := Pick.W_jordan (poly_road hp) ((off_iff (by omega) x).mpr off)
  have r := Pick.R_01 (poly_road hp)
  rw [par_su, decide_eq_true_eq]
  show Pick.W (vr l) l.length (vp x) ≠ 0 ↔ Pick.W (vr l) l.length (vp x) % 2 = 1
  omega
noncomputable def innerN (l : List Pt) (X Y : Int) (k m : Nat) : Int := Pick.bx (Pick.ins (vr l) l.length) X Y k m
theorem pick_poly {l : List Pt} (hp : Poly l) {X Y : Int} {k m : Nat} (hx : ∀ j, X ≤ (pt l j).f0 ∧ (pt l j).f0 < X + k) (hy : ∀ j, Y ≤ (pt l j).f1 ∧ (pt l j).f1 < Y + m) : ((twS l l.length).natAbs : Int) = 2 * innerN l X Y k m + rimN l l.length - 2 := by
  have pk := Pick.pick (poly_road hp) (X := X) (Y := Y) (k := k) (l := m) hx hy
  rw [A2_eq, B_eq] at pk
  have r := Pick.R_01 (poly_road hp)
  have h3 := hp.n3
  have b3 : ∀ n : Nat, (n : Int) ≤ rimN l n := by
    intro n
    induction n with
    | zero => exact Int.le_refl _
    | succ n ih =>
      have g : 0 < Int.gcd ((pt l (n + 1)).f0 - (pt l n).f0) ((pt l (n + 1)).f1 - (pt l n).f1) := by
        apply Nat.pos_of_ne_zero
        intro z
        rw [Int.gcd_eq_zero_iff] at z
        have ne := ((poly_road hp).bend n).ab
        exact ne (Pick.V.ext' (show (pt l n).f0 = (pt l (n + 1)).f0 by omega) (show (pt l n).f1 = (pt l (n + 1)).f1 by omega))
      have e : rimN l (n + 1) = rimN l n + (Int.gcd ((pt l (n + 1)).f0 - (pt l n).f0) ((pt l (n + 1)).f1 - (pt l n).f1) : Int) := rfl
      omega
  have b := b3 l.length
  have i0 : 0 ≤ innerN l X Y k m := by
    have nn : ∀ (f : Nat → Int) (n : Nat), (∀ t, 0 ≤ f t) → 0 ≤ Pick.su f n := by
      intro f n h
      induction n with
      | zero => exact Int.le_refl _
      | succ n ih => have := h n; rw [Pick.su_succ]; omega
    have z : ∀ q, 0 ≤ Pick.ins (vr l) l.length q := by
      intro q
      unfold Pick.ins Pick.ind
      split <;> omega
    exact nn _ _ (fun t => nn _ _ (fun u => z _))
  unfold innerN at i0 ⊢
  generalize Pick.bx (Pick.ins (vr l) l.length) X Y k m = I at *
  generalize twS l l.length = A at *
  generalize rimN l l.length = B at *
  rcases r with r | r
  · rw [r] at pk
    have e : A = 2 * I + B - 2 := by omega
    omega
  · rw [r] at pk
    have e : A = - (2 * I + B - 2) := by omega
    omega
theorem gcd_flipV (a b c d : Int) : Int.gcd (a - b) (c - d) = Int.gcd (b - a) (d - c) := by
  rw [← Int.neg_sub b a, ← Int.neg_sub d c]; simp
theorem gcd_leV (a b : Int) : Int.gcd a b ≤ a.natAbs + b.natAbs := by
  unfold Int.gcd
  by_cases h : a.natAbs = 0
  · rw [h, Nat.gcd_zero_left]; omega
  · have := Nat.gcd_le_left b.natAbs (show 0 < a.natAbs by omega)
    omega
theorem rimN_bound {l : List Pt} (hok : ∀ p ∈ l, okp p = true) (h0 : 0 < l.length) : ∀ i : Nat, 0 ≤ rimN l i ∧ rimN l i ≤ 100 * (i : Int)
  | 0 => by simp [rimN]
  | i + 1 => by
    have := rimN_bound hok h0 i
    have h1 := pt_ok hok h0 i
    have h2 := pt_ok hok h0 (i + 1)
    have g := gcd_leV ((pt l (i + 1)).f0 - (pt l i).f0) ((pt l (i + 1)).f1 - (pt l i).f1)
    simp only [rimN]
    omega
theorem impl_stepsV {l : List Pt} (hok : ∀ p ∈ l, okp p = true) (h0 : 0 < l.length) (i k : Nat) (hk : 1000 < k) : impl_StepsOf.f k (pt l i).f0 (pt l i).f1 (pt l (i + 1)).f0 (pt l (i + 1)).f1 = some (Int.gcd ((pt l (i + 1)).f0 - (pt l i).f0) ((pt l (i + 1)).f1 - (pt l i).f1) : Int) := by
  have h1 := pt_ok hok h0 i
  have h2 := pt_ok hok h0 (i + 1)
  have hm1 := hok _ (pt_mem l i h0)
  have hm2 := hok _ (pt_mem l (i + 1) h0)
  unfold impl_StepsOf.f
  rw [impl_arePoints_eq _ (by simp) k (by simp; omega)]
  have e : List.all [(⟨(pt l i).f0, (pt l i).f1⟩ : Pt), ⟨(pt l (i + 1)).f0, (pt l (i + 1)).f1⟩] G.okp = true := by
    simp only [List.all_cons, List.all_nil, Bool.and_true]
    rw [Bool.and_eq_true]; exact ⟨hm1, hm2⟩
  rw [e, Option.bind_some, if_pos rfl, wrap64_id (by omega) (by omega), wrap64_id (by omega) (by omega), common_eq (by unfold sm; omega) (by unfold sm; omega) k hk, gcd_flipV]; rfl
theorem impl_rimV_l0 {l : List Pt} (hok : ∀ p ∈ l, okp p = true) (hn : l.length ≤ 1000000) (h0 : 0 < l.length) (d : Nat) : ∀ (k i : Nat), i + d = l.length → 1000 + d < k → impl_RimPoints.l0 k l (rimN l i) l (l.length : Int) (i : Int) = some (rimN l l.length) := by
  induction d with
  | zero =>
    intro k i hi hk
    obtain ⟨k, rfl⟩ : ∃ m, k = m + 1 := ⟨k - 1, by omega⟩
    obtain rfl : i = l.length := by omega
    simp only [impl_RimPoints.l0]; rw [if_neg (by omega)]
  | succ d ih =>
    intro k i hi hk
    obtain ⟨k, rfl⟩ : ∃ m, k = m + 1 := ⟨k - 1, by omega⟩
    have wi : wrap64 ((i : Int) + 1) = ((i + 1 : Nat) : Int) := by rw [wrap64_id (by omega) (by omega)]; rfl
    have li := Nat.mod_lt (i + 1) h0
    have b := rimN_bound hok h0 (i + 1)
    simp only [impl_RimPoints.l0]
    rw [wi, tmod_at, rd_mod l (i + 1) h0, rd_pt l i (by omega), if_pos (by omega), if_pos (by omega), if_pos (by omega), if_neg (by omega), if_pos (by omega), if_pos (by omega)]
    rw [impl_stepsV hok h0 i k (by omega), Option.bind_some]
    rw [show rimN l i + (Int.gcd ((pt l (i + 1)).f0 - (pt l i).f0) ((pt l (i + 1)).f1 - (pt l i).f1) : Int) = rimN l (i + 1) from rfl, wrap64_id (by omega) (by omega)]
    exact ih k (i + 1) (by omega) (by omega)
theorem impl_rimV {l : List Pt} (hp : Poly l) (k : Nat) (hk : 1100 < k) : impl_RimPoints.f k l = some (rimN l l.length) := by
  have h3 := hp.n3
  have h10 := hp.n10
  unfold impl_RimPoints.f
  rw [impl_PolygonOk_some, Option.bind_some, if_pos ((impl_ok_iff _).2 hp)]
  exact impl_rimV_l0 hp.okp (by omega) (by omega) l.length k 0 (by omega) (by omega)
theorem impl_twV_l0 {l : List Pt} (hok : ∀ p ∈ l, okp p = true) (hn : l.length ≤ 1000000) (h0 : 0 < l.length) (d : Nat) : ∀ (k i : Nat), i + d = l.length → d < k → impl_twice.l0 k l (twS l i) l (l.length : Int) (i : Int) = some (twS l l.length) := by
  induction d with
  | zero =>
    intro k i hi hk
    obtain ⟨k, rfl⟩ : ∃ m, k = m + 1 := ⟨k - 1, by omega⟩
    obtain rfl : i = l.length := by omega
    simp only [impl_twice.l0]; rw [if_neg (by omega)]
  | succ d ih =>
    intro k i hi hk
    obtain ⟨k, rfl⟩ : ∃ m, k = m + 1 := ⟨k - 1, by omega⟩
    have wi : wrap64 ((i : Int) + 1) = ((i + 1 : Nat) : Int) := by rw [wrap64_id (by omega) (by omega)]; rfl
    have li := Nat.mod_lt (i + 1) h0
    have b1 := tw_parts hok h0 i
    have b2 := twS_bound hok h0 i
    simp only [impl_twice.l0]
    rw [wi, tmod_at, rd_mod l (i + 1) h0, rd_pt l i (by omega), if_pos (by omega), if_pos (by omega), if_pos (by omega), if_neg (by omega), if_pos (by omega), if_pos (by omega)]
    rw [wrap64_id (x := (pt l i).f0 * (pt l (i + 1)).f1) (by omega) (by omega), wrap64_id (x := (pt l i).f1 * (pt l (i + 1)).f0) (by omega) (by omega), wrap64_id (x := (pt l i).f0 * (pt l (i + 1)).f1 - (pt l i).f1 * (pt l (i + 1)).f0) (by omega) (by omega), wrap64_id (by omega) (by omega)]
    exact ih k (i + 1) (by omega) (by omega)
theorem impl_twV {l : List Pt} (hp : Poly l) (k : Nat) (hk : 11 < k) : impl_twice.f k l = some (twS l l.length) := by
  have := hp.n3; have := hp.n10
  unfold impl_twice.f; exact impl_twV_l0 hp.okp (by omega) (by omega) l.length k 0 (by omega) (by omega)
theorem impl_inner {l : List Pt} (hp : Poly l) {X Y : Int} {w h : Nat} (hx : ∀ j, X ≤ (pt l j).f0 ∧ (pt l j).f0 < X + w) (hy : ∀ j, Y ≤ (pt l j).f1 ∧ (pt l j).f1 < Y + h) (k : Nat) (hk : 1100 < k) : impl_InnerPoints.f k l = some (innerN l X Y w h) := by
  have h3 := hp.n3
  have h10 := hp.n10
  have pk := pick_poly hp hx hy
  have b1 := twS_bound hp.okp (by omega) l.length
  have b2 := rimN_bound hp.okp (by omega) l.length
  unfold impl_InnerPoints.f
  rw [impl_PolygonOk_some, Option.bind_some, if_pos ((impl_ok_iff _).2 hp), impl_twV hp k (by omega), Option.bind_some]
  unfold impl_size.f
  rw [Option.bind_some, impl_rimV hp k hk, Option.bind_some]
  have m : mx (twS l l.length) (wrap64 (-twS l l.length)) = ((twS l l.length).natAbs : Int) := by
    rw [wrap64_id (by omega) (by omega)]; unfold mx; omega
  rw [m, pk, wrap64_id (x := 2 * innerN l X Y w h + rimN l l.length - 2 - rimN l l.length) (by omega) (by omega)]
  rw [wrap64_id (x := 2 * innerN l X Y w h + rimN l l.length - 2 - rimN l l.length + 2) (by omega) (by omega)]
  rw [show 2 * innerN l X Y w h + rimN l l.length - 2 - rimN l l.length + 2 = innerN l X Y w h * 2 by omega]
  rw [Int.mul_tdiv_cancel _ (by omega), wrap64_id (by omega) (by omega)]
theorem and255 (x : Int) : 0 ≤ Go.bits .and .i64 x 255 ∧ Go.bits .and .i64 x 255 ≤ 255 := by
  unfold Go.bits
  simp only
  have h : (BitVec.ofInt IntKind.i64.bits x &&& BitVec.ofInt IntKind.i64.bits 255).toNat ≤ 255 := by
    rw [BitVec.toNat_and]
    exact Nat.and_le_right
  generalize (BitVec.ofInt IntKind.i64.bits x &&& BitVec.ofInt IntKind.i64.bits 255).toNat = n at h
  have e : IntKind.i64.wrap (n : Int) = wrap64 (n : Int) := i64_w _
  rw [e, wrap64_id (by omega) (by omega)]
  omega
theorem byte_eq (l : List Int) (hl : l.length ≤ 1099511627776) (i h : Int) (hi : 0 ≤ i) : ∃ b i' h', spec_l01Byte.f l i h = some (b, i', h') ∧ 0 ≤ b ∧ b ≤ 255 ∧ 0 ≤ i' := by
  unfold spec_l01Byte.f
  by_cases c : i < (l.length : Int)
  · rw [if_pos c, if_pos hi]
    exact ⟨_, _, _, rfl, (and255 _).1, (and255 _).2, by rw [wrap64_id (by omega) (by omega)]; omega⟩
  · rw [if_neg c]
    exact ⟨_, _, _, rfl, (and255 _).1, (and255 _).2, hi⟩
theorem below_eq (l : List Int) (hl : l.length ≤ 1099511627776) (i h n : Int) (hi : 0 ≤ i) (h0 : 0 < n) (h1 : n ≤ 256) : ∃ b i' h', spec_l01Below.f l i h n = some (b, i', h') ∧ 0 ≤ b ∧ b < n ∧ 0 ≤ i' := by
  obtain ⟨b, i', h', e, b0, b1, hi'⟩ := byte_eq l hl i h hi
  unfold spec_l01Below.f
  rw [if_neg (by omega), if_pos h1, e, Option.bind_some, if_neg (by omega)]
  refine ⟨_, _, _, rfl, Int.tmod_nonneg _ b0, ?_, hi'⟩
  have := Int.tmod_lt_of_pos b h0
  exact this
theorem new_l0 (l : List Int) (hl : l.length ≤ 1099511627776) (d : Nat) : ∀ (i : Nat) (h : Int), i ≤ 4000 → 4000 - i ≤ d → ∃ h', ∀ k, d < k → spec_l01New.l0 k l h (i : Int) = some (l, 0, h') := by
  induction d with
  | zero =>
    intro i h hi hd
    refine ⟨h, fun k hk => ?_⟩
    obtain ⟨k, rfl⟩ : ∃ m, k = m + 1 := ⟨k - 1, by omega⟩
    simp only [spec_l01New.l0]
    by_cases c : (i : Int) < (l.length : Int)
    · rw [if_pos c, if_neg (by omega)]
    · rw [if_neg c]
  | succ d ih =>
    intro i h hi hd
    by_cases c : (i : Int) < (l.length : Int)
    · by_cases c2 : (i : Int) < 4000
      · obtain ⟨h', hh⟩ := ih (i + 1) (Go.bits .and .i64 (wrap64 ((wrap64 ((wrap64 (h * 179)) + (wrap64 (rd l (i : Int))))) + 7)) 1073741823) (by omega) (by omega)
        refine ⟨h', fun k hk => ?_⟩
        obtain ⟨k, rfl⟩ : ∃ m, k = m + 1 := ⟨k - 1, by omega⟩
        simp only [spec_l01New.l0]
        rw [if_pos c, if_pos c2, if_pos (by omega), wrap64_id (x := (i : Int) + 1) (by omega) (by omega)]
        exact hh k (by omega)
      · refine ⟨h, fun k hk => ?_⟩
        obtain ⟨k, rfl⟩ : ∃ m, k = m + 1 := ⟨k - 1, by omega⟩
        simp only [spec_l01New.l0]
        rw [if_pos c, if_neg c2]
    · refine ⟨h, fun k hk => ?_⟩
      obtain ⟨k, rfl⟩ : ∃ m, k = m + 1 := ⟨k - 1, by omega⟩
      simp only [spec_l01New.l0]
      rw [if_neg c]
theorem new_eq (l : List Int) (hl : l.length ≤ 1099511627776) : ∃ h, ∀ k, 4000 < k → spec_l01New.f k l = some (l, 0, h) := by
  obtain ⟨h, hh⟩ := new_l0 l hl 4000 0 (wrap64 (2173 + (l.length : Int))) (by omega) (by omega)
  exact ⟨h, fun k hk => hh k hk⟩
theorem l31_l0 (l : List Int) (hl : l.length ≤ 1099511627776) (n : Nat) (hn : n ≤ 1000) (d : Nat) : ∀ (j : Nat) (i h : Int), 0 ≤ i → j + d = n → ∃ i' h', 0 ≤ i' ∧ ∀ k, d < k → spec_l31New.l0 k (n : Int) (j : Int) l i h = some (l, i', h') := by
  induction d with
  | zero =>
    intro j i h hi hj
    refine ⟨i, h, hi, fun k hk => ?_⟩
    obtain ⟨k, rfl⟩ : ∃ m, k = m + 1 := ⟨k - 1, by omega⟩
    simp only [spec_l31New.l0]
    rw [if_neg (by omega)]
  | succ d ih =>
    intro j i h hi hj
    obtain ⟨b, i1, h1, e, _, _, hi1⟩ := byte_eq l hl i h hi
    obtain ⟨i', h', hi', hh⟩ := ih (j + 1) i1 h1 hi1 (by omega)
    refine ⟨i', h', hi', fun k hk => ?_⟩
    obtain ⟨k, rfl⟩ : ∃ m, k = m + 1 := ⟨k - 1, by omega⟩
    simp only [spec_l31New.l0]
    rw [if_pos (by omega), e, Option.bind_some, wrap64_id (x := (j : Int) + 1) (by omega) (by omega)]
    exact hh k (by omega)
theorem l31_eq (l : List Int) (hl : l.length ≤ 1099511627776) (n : Nat) (hn : n ≤ 1000) : ∃ i h, 0 ≤ i ∧ ∀ k, 4000 < k → spec_l31New.f k l (n : Int) = some (l, i, h) := by
  obtain ⟨h0, e0⟩ := new_eq l hl
  obtain ⟨i, h, hi, e⟩ := l31_l0 l hl n hn n 0 0 h0 (by omega) (by omega)
  refine ⟨i, h, hi, fun k hk => ?_⟩
  unfold spec_l31New.f
  rw [e0 k hk, Option.bind_some]
  exact e k (by omega)
def turnL (l : List Pt) : List Pt := l.take 1 ++ (l.drop 1).reverse
def rotL (l : List Pt) (k : Nat) : List Pt := l.drop k ++ l.take k
theorem turnL_length (l : List Pt) : (turnL l).length = l.length := by unfold turnL; simp; omega
theorem rotL_length (l : List Pt) (k : Nat) : (rotL l k).length = l.length := by unfold rotL; simp; omega
theorem mem_turnL {l : List Pt} {x : Pt} : x ∈ turnL l ↔ x ∈ l := by
  cases l with
  | nil => simp [turnL]
  | cons a r => simp [turnL]
theorem mem_rotL {l : List Pt} {k : Nat} {x : Pt} : x ∈ rotL l k ↔ x ∈ l := by
  unfold rotL
  rw [List.mem_append, Or.comm, ← List.mem_append, List.take_append_drop]
theorem turnL_turnL (l : List Pt) : turnL (turnL l) = l := by
  cases l with
  | nil => rfl
  | cons a r => simp [turnL]
theorem turn_rot {l : List Pt} {k : Nat} (hk : k < l.length) : ∃ j, j < l.length ∧ turnL (rotL l k) = rotL (turnL l) j := by
  by_cases h0 : k = 0
  · subst h0
    exact ⟨0, hk, by simp [rotL]⟩
  · match l, hk with
    | a :: r, hk =>
      obtain ⟨k, rfl⟩ : ∃ m, k = m + 1 := ⟨k - 1, by omega⟩
      have hk' : k < r.length := by simpa using hk
      have e : r = r.take k ++ r[k] :: r.drop (k + 1) := by rw [← List.drop_eq_getElem_cons hk', List.take_append_drop]
      generalize ht : r.take k = t at e
      generalize hd : r.drop (k + 1) = d at e
      generalize hx : r[k] = x at e
      have lt : t.length = k := by rw [← ht]; simp; omega
      have ld : d.length = r.length - (k + 1) := by rw [← hd]; simp
      refine ⟨d.length + 1, by simp; omega, ?_⟩
      have e1 : rotL (a :: r) (k + 1) = x :: d ++ a :: t := by
        unfold rotL
        simp only [List.drop_succ_cons, List.take_succ_cons]
        rw [ht, List.drop_eq_getElem_cons hk', hd, hx]
      have e2 : turnL (a :: r) = (a :: d.reverse) ++ x :: t.reverse := by
        unfold turnL; rw [e]; simp
      rw [e1, e2]
      have e3 : rotL ((a :: d.reverse) ++ x :: t.reverse) (d.length + 1) = x :: t.reverse ++ a :: d.reverse := by
        unfold rotL
        rw [List.drop_left' (by simp), List.take_left' (by simp)]
      rw [e3]
      simp [turnL]
theorem rot_turn {l : List Pt} {k : Nat} (hk : k < l.length) : ∃ j, j < l.length ∧ rotL (turnL l) k = turnL (rotL l j) := by
  obtain ⟨j, hj, e⟩ := turn_rot (l := turnL l) (k := k) (by rw [turnL_length]; exact hk)
  rw [turnL_turnL] at e
  refine ⟨j, by rw [turnL_length] at hj; exact hj, ?_⟩
  rw [← e, turnL_turnL]
theorem onP_false {a b c : Pt} (h : ¬ Pick.on (vp a) (vp b) (vp c)) : onP a b c = false := by
  rw [← Bool.not_eq_true]; exact fun k => h ((vp_on _ _ _).mpr k)
theorem two_one {l : List Pt} {b : Pt} (h : ∀ x ∈ l, x = b) : ¬ two l := by
  rintro ⟨x, hx, y, hy, hxy⟩
  exact hxy ((h x hx).trans (h y hy).symm)
theorem meet_touch {a b c : Pt} (h : Pick.Bend (vp a) (vp b) (vp c)) : meetI a b b c = 1 ∧ meetI b c a b = 1 := by
  have o1 := onP_false h.h1
  have o2 := onP_false h.h2
  have s1 : shared a b b c = [b, b] := by unfold shared; rw [o1, o2, onP_left, onP_right]; rfl
  have s2 : shared b c a b = [b, b] := by unfold shared; rw [o1, o2, onP_left, onP_right]; rfl
  have t : ¬ two [b, b] := two_one (b := b) (by simp)
  unfold meetI
  rw [s1, s2]
  exact ⟨(if_neg t).trans (if_neg (by simp)), (if_neg t).trans (if_neg (by simp))⟩
theorem meet_none {a b c d : Pt} (h : Pick.Apart (vp a) (vp b) (vp c) (vp d)) : meetI a b c d = 0 := by
  have s : shared a b c d = [] := by
    unfold shared; rw [onP_false h.h1, onP_false h.h2, onP_false h.h3, onP_false h.h4]; rfl
  have t : ¬ two ([] : List Pt) := by rintro ⟨x, hx, _⟩; simp at hx
  have c : ¬ crosses a b c d := fun k => h.h5 ⟨(sgn_opp _ _).mp k.1, (sgn_opp _ _).mp k.2⟩
  unfold meetI
  rw [s, if_neg t, if_pos rfl, if_neg c]
theorem road_poly {l : List Pt} (h10 : l.length ≤ 10) (hok : ∀ p ∈ l, okp p = true) (h : Pick.Road (vr l) l.length) : Poly l := by
  have h3 := h.n3
  refine ⟨h3, h10, hok, fun i _ e => (h.bend i).ab (congrArg vp e), fun i j hij hj => ?_⟩
  show meetI _ _ _ _ = _
  by_cases c : adj l.length i j
  · rw [if_pos c]
    rcases c with rfl | ⟨rfl, rfl⟩
    · exact (meet_touch (h.bend i)).1
    · have b := h.bend (l.length - 1)
      rw [show l.length - 1 + 1 = 0 + l.length by omega, show l.length - 1 + 2 = 1 + l.length by omega, h.per, h.per] at b
      rw [show l.length - 1 + 1 = 0 + l.length by omega, pt_add]
      exact (meet_touch b).2
  · rw [if_neg c]
    unfold adj at c
    exact meet_none (h.far i j (by omega) (by omega))
theorem vr_per (l : List Pt) (j : Nat) : vr l (j + l.length) = vr l j := congrArg vp (pt_add l j)
theorem pt_rot (l : List Pt) {k : Nat} (hk : k ≤ l.length) (j : Nat) : pt (rotL l k) j = pt l (k + j) := by
  unfold pt
  rw [rotL_length]
  by_cases h0 : l.length = 0
  · have : l = [] := List.length_eq_zero_iff.mp h0
    subst this; simp [rotL]
  have lt := Nat.mod_lt j (show 0 < l.length by omega)
  have e : (k + j) % l.length = (k + j % l.length) % l.length := by rw [Nat.add_mod_mod]
  rw [e]
  generalize j % l.length = r at *
  unfold rotL
  rw [List.getD_eq_getElem?_getD, List.getD_eq_getElem?_getD]
  congr 1
  by_cases c : k + r < l.length
  · rw [Nat.mod_eq_of_lt c, List.getElem?_append_left (by simp; omega), List.getElem?_drop]
  · rw [Nat.mod_eq_sub_mod (by omega), Nat.mod_eq_of_lt (by omega), List.getElem?_append_right (by simp; omega), List.length_drop, List.getElem?_take_of_lt (by omega)]
    congr 1; omega
theorem vr_rot (l : List Pt) {k : Nat} (hk : k ≤ l.length) : vr (rotL l k) = fun j => vr l (k + j) := funext fun j => congrArg vp (pt_rot l hk j)
theorem poly_rot {l : List Pt} (hp : Poly l) {k : Nat} (hk : k ≤ l.length) : Poly (rotL l k) := by
  refine road_poly (by rw [rotL_length]; exact hp.n10) (fun p h => hp.okp p (mem_rotL.mp h)) ?_
  rw [rotL_length, vr_rot l hk]
  exact (poly_road hp).shift k
theorem twS_rot (l : List Pt) {k : Nat} (hk : k ≤ l.length) : twS (rotL l k) (rotL l k).length = twS l l.length := by
  rw [← A2_eq, ← A2_eq, rotL_length, vr_rot l hk]
  exact Pick.A2_shift (vr_per l) k
theorem pt_turn {l : List Pt} (h0 : 0 < l.length) (j : Nat) (hj : j ≤ 2 * l.length) : pt (turnL l) j = pt l (2 * l.length - j) := by
  unfold pt
  rw [turnL_length]
  have e : (2 * l.length - j) % l.length = (l.length - j % l.length) % l.length := by
    have f := Nat.mod_add_div j l.length
    have lt := Nat.mod_lt j h0
    have d : j / l.length ≤ 2 := Nat.div_le_of_le_mul (by omega)
    generalize j % l.length = r at *
    generalize j / l.length = q at *
    have : q = 0 ∨ q = 1 ∨ q = 2 := by omega
    rcases this with rfl | rfl | rfl
    · rw [show 2 * l.length - j = (l.length - r) + l.length by omega, Nat.add_mod_right]
    · rw [show 2 * l.length - j = l.length - r by omega]
    · have hr : r = 0 := by omega
      subst hr
      rw [show 2 * l.length - j = 0 by omega, Nat.sub_zero, Nat.mod_self, Nat.zero_mod]
  rw [e]
  have lt := Nat.mod_lt j h0
  generalize j % l.length = r at *
  rw [List.getD_eq_getElem?_getD, List.getD_eq_getElem?_getD]
  congr 1
  match l, h0 with
  | a :: t, _ =>
    unfold turnL
    by_cases c : r = 0
    · subst c; simp
    · obtain ⟨s, rfl⟩ : ∃ s, r = s + 1 := ⟨r - 1, by omega⟩
      have hs : s < t.length := by simp at lt; omega
      simp only [List.take_succ_cons, List.take_zero, List.drop_succ_cons, List.drop_zero, List.cons_append, List.nil_append, List.getElem?_cons_succ, List.length_cons]
      rw [List.getElem?_reverse hs, show t.length + 1 - (s + 1) = t.length - 1 - s + 1 by omega, Nat.mod_eq_of_lt (by omega), List.getElem?_cons_succ]
theorem vr_turn {l : List Pt} (h0 : 0 < l.length) (j : Nat) (hj : j ≤ 2 * l.length) : vr (turnL l) j = vr l (2 * l.length - j) := congrArg vp (pt_turn h0 j hj)
theorem poly_turn {l : List Pt} (hp : Poly l) : Poly (turnL l) := by
  have h3 := hp.n3
  refine road_poly (by rw [turnL_length]; exact hp.n10) (fun p h => hp.okp p (mem_turnL.mp h)) ?_
  have := vr_per (turnL l)
  rw [turnL_length] at this ⊢
  exact (poly_road hp).back (fun j hj => vr_turn (by omega) j hj) this
theorem twS_turn {l : List Pt} (h0 : 0 < l.length) : twS (turnL l) (turnL l).length = - twS l l.length := by
  rw [← A2_eq, ← A2_eq, turnL_length]
  exact Pick.A2_back (vr_per l) (fun j hj => vr_turn h0 j hj)
theorem pt_init (l : List Pt) (x : Pt) {j : Nat} (hj : j < l.length) : pt l j = pt (l ++ [x]) j := by
  unfold pt
  rw [List.length_append, List.length_singleton, Nat.mod_eq_of_lt hj, Nat.mod_eq_of_lt (by omega), List.getD_eq_getElem?_getD, List.getD_eq_getElem?_getD, List.getElem?_append_left hj]
theorem pt_last (l : List Pt) (x : Pt) : pt (l ++ [x]) l.length = x := by
  unfold pt
  rw [List.length_append, List.length_singleton, Nat.mod_eq_of_lt (by omega), List.getD_eq_getElem?_getD, List.getElem?_append_right (by omega)]
  simp
def strt (l : List Pt) (i : Nat) : Prop := crossP (pt l (i + l.length - 1)) (pt l i) (pt l (i + 1)) = 0
instance (l : List Pt) (i : Nat) : Decidable (strt l i) := by unfold strt; exact inferInstance
theorem four_of {l : List Pt} (hp : Poly l) {i : Nat} (hi : i < l.length) (h : strt l i) : 4 ≤ l.length := by
  have h3 := hp.n3
  by_cases c : l.length = 3
  · exfalso
    have r := poly_road hp
    have o := (straight_prev hp hi).1 h
    have b1 := r.bend i
    have b2 := r.bend (i + 1)
    have e : vr l (i + 1 + 2) = vr l i := by rw [show i + 1 + 2 = i + l.length by omega]; exact vr_per l i
    have e2 : vr l (i + l.length - 1) = vr l (i + 2) := by rw [show i + l.length - 1 = i + 2 by omega]
    rw [e] at b2
    have o' := (vp_on _ _ _).mpr o
    have o2 : Pick.on (vr l (i + 2)) (vr l (i + 1)) (vr l i) := by rw [← e2]; exact o'
    exact b2.h1 (Pick.on_swap o2)
  · omega
theorem drop_road {l : List Pt} {x : Pt} (hp : Poly (l ++ [x])) (h : strt (l ++ [x]) l.length) : Poly l ∧ twS l l.length = twS (l ++ [x]) (l ++ [x]).length := by
  have n4 := four_of hp (by simp) h
  have h10 := hp.n10
  have ln : (l ++ [x]).length = l.length + 1 := by simp
  rw [ln] at n4 h10
  obtain ⟨m, hm⟩ : ∃ m, l.length = m + 3 := ⟨l.length - 3, by omega⟩
  have r := poly_road hp
  have pr := vr_per (l ++ [x])
  have pr' := vr_per l
  have o := (straight_prev hp (i := l.length) (by rw [ln]; omega)).1 h
  have o' := (vp_on _ _ _).mpr o
  have e : ∀ j, j < m + 3 → vr l j = vr (l ++ [x]) j := fun j hj => congrArg vp (pt_init l x (by omega))
  have o2 : Pick.on (vr (l ++ [x]) (m + 2)) (vr (l ++ [x]) (m + 4)) (vr (l ++ [x]) (m + 3)) := by
    have e2 : vr (l ++ [x]) (l.length + (l ++ [x]).length - 1) = vr (l ++ [x]) (m + 2) := by
      rw [show l.length + (l ++ [x]).length - 1 = (m + 2) + (l ++ [x]).length by omega]; exact pr _
    rw [← e2]
    rw [show m + 4 = l.length + 1 by omega, show m + 3 = l.length by omega]
    exact o'
  rw [ln, show l.length + 1 = m + 4 by omega] at r pr
  rw [hm] at pr'
  refine ⟨road_poly (by omega) (fun p hm' => hp.okp p (by simp [hm'])) ?_, ?_⟩
  · rw [hm]; exact r.drop o2 e pr'
  · rw [← A2_eq, ← A2_eq, ln, show l.length + 1 = m + 4 by omega, hm]
    exact Pick.A2_drop pr (by
      have := o2.1
      have e3 : Pick.cross (vr (l ++ [x]) (m + 2)) (vr (l ++ [x]) (m + 3)) (vr (l ++ [x]) (m + 4)) = - Pick.cross (vr (l ++ [x]) (m + 2)) (vr (l ++ [x]) (m + 4)) (vr (l ++ [x]) (m + 3)) := by unfold Pick.cross; grind
      rw [e3, this]; rfl) e pr'
theorem pt_modk (l : List Pt) (i u : Nat) : pt l (i + u) = pt l (i % l.length + u) := by unfold pt; rw [Nat.mod_add_mod]
theorem bend_cross {a b c : Pick.V} (h : Pick.cross a b c ≠ 0) : Pick.Bend a b c :=
  ⟨fun e => h (by rw [e]; unfold Pick.cross; grind), fun e => h (by rw [e]; unfold Pick.cross; grind), fun k => h k.1, fun k => h (by rw [← Pick.cyc]; exact k.1)⟩
theorem apart_cross {a b c d : Pick.V} (h1 : 0 < Pick.cross a b c) (h2 : 0 < Pick.cross a b d) (h3 : 0 < Pick.cross c d a) (h4 : 0 < Pick.cross c d b) : Pick.Apart a b c d :=
  ⟨fun k => by have := k.1; omega, fun k => by have := k.1; omega, fun k => by have := k.1; omega, fun k => by have := k.1; omega, fun k => by have := k.1; unfold Pick.opp at this; omega⟩
theorem tri_poly {a b c : Pt} (hok : ∀ p ∈ [a, b, c], okp p = true) (h : crossP a b c ≠ 0) : Poly [a, b, c] := by
  have n3 : [a, b, c].length = 3 := rfl
  refine road_poly (by rw [n3]; omega) hok ⟨Nat.le_refl _, vr_per _, fun i => ?_, fun i j h1 h2 => by rw [n3] at h2; omega⟩
  have e0 : vr [a, b, c] i = vp (pt [a, b, c] (i % 3)) := congrArg vp (pt_mod _ i)
  have e1 : vr [a, b, c] (i + 1) = vp (pt [a, b, c] (i % 3 + 1)) := congrArg vp (pt_modk _ i 1)
  have e2 : vr [a, b, c] (i + 2) = vp (pt [a, b, c] (i % 3 + 2)) := congrArg vp (pt_modk _ i 2)
  rw [e0, e1, e2]
  have lt := Nat.mod_lt i (show 0 < 3 by omega)
  generalize i % 3 = r at *
  have h' : Pick.cross (vp a) (vp b) (vp c) ≠ 0 := h
  have q1 := Pick.cyc (vp a) (vp b) (vp c)
  have q2 := Pick.cyc (vp b) (vp c) (vp a)
  have hr : r = 0 ∨ r = 1 ∨ r = 2 := by omega
  have p0 : pt [a, b, c] 0 = a := by simp [pt]
  have p1 : pt [a, b, c] 1 = b := by simp [pt]
  have p2 : pt [a, b, c] 2 = c := by simp [pt]
  have p3 : pt [a, b, c] 3 = a := by simp [pt]
  have p4 : pt [a, b, c] 4 = b := by simp [pt]
  rcases hr with rfl | rfl | rfl
  · rw [p0, show 0 + 1 = 1 from rfl, show 0 + 2 = 2 from rfl, p1, p2]; exact bend_cross h'
  · rw [p1, show 1 + 1 = 2 from rfl, show 1 + 2 = 3 from rfl, p2, p3]; exact bend_cross (show Pick.cross (vp b) (vp c) (vp a) ≠ 0 by omega)
  · rw [p2, show 2 + 1 = 3 from rfl, show 2 + 2 = 4 from rfl, p3, p4]; exact bend_cross (show Pick.cross (vp c) (vp a) (vp b) ≠ 0 by omega)
theorem quad_poly {a b c d : Pt} (hok : ∀ p ∈ [a, b, c, d], okp p = true) (h1 : 0 < crossP a b c) (h2 : 0 < crossP b c d) (h3 : 0 < crossP c d a) (h4 : 0 < crossP d a b) : Poly [a, b, c, d] := by
  have n4 : [a, b, c, d].length = 4 := rfl
  have g1 : 0 < Pick.cross (vp a) (vp b) (vp c) := h1
  have g2 : 0 < Pick.cross (vp b) (vp c) (vp d) := h2
  have g3 : 0 < Pick.cross (vp c) (vp d) (vp a) := h3
  have g4 : 0 < Pick.cross (vp d) (vp a) (vp b) := h4
  have c1 := Pick.cyc (vp a) (vp b) (vp c)
  have c2 := Pick.cyc (vp b) (vp c) (vp d)
  have c3 := Pick.cyc (vp c) (vp d) (vp a)
  have c4 := Pick.cyc (vp d) (vp a) (vp b)
  have c5 := Pick.cyc (vp b) (vp c) (vp a)
  have c6 := Pick.cyc (vp c) (vp d) (vp b)
  have c7 := Pick.cyc (vp d) (vp a) (vp c)
  have c8 := Pick.cyc (vp a) (vp b) (vp d)
  have p0 : pt [a, b, c, d] 0 = a := by simp [pt]
  have p1 : pt [a, b, c, d] 1 = b := by simp [pt]
  have p2 : pt [a, b, c, d] 2 = c := by simp [pt]
  have p3 : pt [a, b, c, d] 3 = d := by simp [pt]
  have p4 : pt [a, b, c, d] 4 = a := by simp [pt]
  have p5 : pt [a, b, c, d] 5 = b := by simp [pt]
  have p6 : pt [a, b, c, d] 6 = c := by simp [pt]
  refine road_poly (by rw [n4]; omega) hok ⟨by rw [n4]; omega, vr_per _, fun i => ?_, fun i j i1 i2 => ?_⟩
  · have e0 : vr [a, b, c, d] i = vp (pt [a, b, c, d] (i % 4)) := congrArg vp (pt_mod _ i)
    have e1 : vr [a, b, c, d] (i + 1) = vp (pt [a, b, c, d] (i % 4 + 1)) := congrArg vp (pt_modk _ i 1)
    have e2 : vr [a, b, c, d] (i + 2) = vp (pt [a, b, c, d] (i % 4 + 2)) := congrArg vp (pt_modk _ i 2)
    rw [e0, e1, e2]
    have lt := Nat.mod_lt i (show 0 < 4 by omega)
    generalize i % 4 = r at *
    have hr : r = 0 ∨ r = 1 ∨ r = 2 ∨ r = 3 := by omega
    rcases hr with rfl | rfl | rfl | rfl
    · rw [p0, show 0 + 1 = 1 from rfl, show 0 + 2 = 2 from rfl, p1, p2]; exact bend_cross (show Pick.cross (vp a) (vp b) (vp c) ≠ 0 by omega)
    · rw [p1, show 1 + 1 = 2 from rfl, show 1 + 2 = 3 from rfl, p2, p3]; exact bend_cross (show Pick.cross (vp b) (vp c) (vp d) ≠ 0 by omega)
    · rw [p2, show 2 + 1 = 3 from rfl, show 2 + 2 = 4 from rfl, p3, p4]; exact bend_cross (show Pick.cross (vp c) (vp d) (vp a) ≠ 0 by omega)
    · rw [p3, show 3 + 1 = 4 from rfl, show 3 + 2 = 5 from rfl, p4, p5]; exact bend_cross (show Pick.cross (vp d) (vp a) (vp b) ≠ 0 by omega)
  · rw [n4] at i2
    obtain rfl : j = i + 2 := by omega
    have e0 : vr [a, b, c, d] i = vp (pt [a, b, c, d] (i % 4)) := congrArg vp (pt_mod _ i)
    have e1 : vr [a, b, c, d] (i + 1) = vp (pt [a, b, c, d] (i % 4 + 1)) := congrArg vp (pt_modk _ i 1)
    have e2 : vr [a, b, c, d] (i + 2) = vp (pt [a, b, c, d] (i % 4 + 2)) := congrArg vp (pt_modk _ i 2)
    have e3 : vr [a, b, c, d] (i + 2 + 1) = vp (pt [a, b, c, d] (i % 4 + 3)) := congrArg vp (pt_modk _ i 3)
    rw [e0, e1, e2, e3]
    have lt := Nat.mod_lt i (show 0 < 4 by omega)
    generalize i % 4 = r at *
    have hr : r = 0 ∨ r = 1 ∨ r = 2 ∨ r = 3 := by omega
    have A1 : Pick.Apart (vp a) (vp b) (vp c) (vp d) := apart_cross (by omega) (by omega) (by omega) (by omega)
    have A2 : Pick.Apart (vp b) (vp c) (vp d) (vp a) := apart_cross (by omega) (by omega) (by omega) (by omega)
    rcases hr with rfl | rfl | rfl | rfl
    · rw [p0, show 0 + 1 = 1 from rfl, show 0 + 2 = 2 from rfl, show 0 + 3 = 3 from rfl, p1, p2, p3]; exact A1
    · rw [p1, show 1 + 1 = 2 from rfl, show 1 + 2 = 3 from rfl, show 1 + 3 = 4 from rfl, p2, p3, p4]; exact A2
    · rw [p2, show 2 + 1 = 3 from rfl, show 2 + 2 = 4 from rfl, show 2 + 3 = 5 from rfl, p3, p4, p5]; exact A1.flip
    · rw [p3, show 3 + 1 = 4 from rfl, show 3 + 2 = 5 from rfl, show 3 + 3 = 6 from rfl, p4, p5, p6]; exact A2.flip
theorem once_eq (l : List Int) (hl : l.length ≤ 1099511627776) (i h n : Int) (hi : 0 ≤ i) (h0 : 0 < n) (h1 : n ≤ 256) : ∃ b i' h', spec_l01Once.f l i h n = some (b, i', h') ∧ 0 ≤ i' := by
  obtain ⟨b, i', h', e, _, _, hi'⟩ := below_eq l hl i h n hi h0 h1
  unfold spec_l01Once.f
  rw [e, Option.bind_some]
  exact ⟨_, _, _, rfl, hi'⟩
theorem turnV_l0 {l : List Pt} (hn : l.length ≤ 1000) (d : Nat) : ∀ (k : Nat), d + 1 ≤ l.length → d < k →
    spec_l03Turn.l0 k l (l.take 1 ++ (l.drop (d + 1)).reverse) (d : Int) = some (turnL l) := by
  induction d with
  | zero =>
    intro k h hk
    obtain ⟨k, rfl⟩ : ∃ m, k = m + 1 := ⟨k - 1, by omega⟩
    simp only [spec_l03Turn.l0]
    rw [if_neg (by omega)]
    rfl
  | succ d ih =>
    intro k h hk
    obtain ⟨k, rfl⟩ : ∃ m, k = m + 1 := ⟨k - 1, by omega⟩
    have hi : d + 1 < l.length := by omega
    have w : wrap64 (((d + 1 : Nat) : Int) - 1) = (d : Int) := by rw [wrap64_id (by omega) (by omega)]; omega
    simp only [spec_l03Turn.l0]
    rw [if_pos (by omega), if_pos (by omega), if_pos (by omega), if_pos (by simp; omega), w, rd_at l (d + 1) hi]
    have e : (l.take 1 ++ (l.drop (d + 1 + 1)).reverse) ++ [(⟨(l[d + 1]).f0, (l[d + 1]).f1⟩ : Pt)] = l.take 1 ++ (l.drop (d + 1)).reverse := by
      rw [List.drop_eq_getElem_cons hi, List.reverse_cons, List.append_assoc]
    rw [e]
    exact ih k (by omega) (by omega)
theorem turnV_eq {l : List Pt} (hn : l.length ≤ 1000) (h0 : 0 < l.length) (k : Nat) (hk : 1000 < k) : spec_l03Turn.f k l = some (turnL l) := by
  unfold spec_l03Turn.f
  have g0 : rd_T27 l 0 = l[0] := rd_at l 0 h0
  have w : wrap64 ((l.length : Int) - 1) = ((l.length - 1 : Nat) : Int) := by rw [wrap64_id (by omega) (by omega)]; omega
  rw [if_pos (by omega), g0, w]
  have := turnV_l0 hn (l.length - 1) k (by omega) (by omega)
  rw [show l.length - 1 + 1 = l.length by omega, List.drop_length, List.reverse_nil, List.append_nil] at this
  have e : l.take 1 = [l[0]] := by
    match l, h0 with
    | a :: r, _ => rfl
  rw [e] at this
  exact this
theorem draw_l0 (l : List Int) (hl : l.length ≤ 1099511627776) (d : Nat) : ∀ (x : List Pt) (i h : Int), Poly x → 0 ≤ i → d ≤ 1000 →
    ∃ r i' h', Poly r ∧ ∀ k, d + 3000 < k → spec_l03Draw.l0 k x (d : Int) l i h = some (r, i', h') := by
  induction d with
  | zero =>
    intro x i h hx hi hd
    obtain ⟨b, i1, h1, e1, hi1⟩ := once_eq l hl i h 3 hi (by omega) (by omega)
    have n3 := hx.n3
    have n10 := hx.n10
    refine ⟨if b = true then turnL x else x, i1, h1, by split; exact poly_turn hx; exact hx, fun k hk => ?_⟩
    obtain ⟨k, rfl⟩ : ∃ m, k = m + 1 := ⟨k - 1, by omega⟩
    simp only [spec_l03Draw.l0]
    rw [if_neg (by omega), e1, Option.bind_some]
    by_cases c : b = true
    · rw [if_pos c, if_pos c, turnV_eq (by omega) (by omega) k (by omega)]; rfl
    · rw [if_neg c, if_neg c]
  | succ d ih =>
    intro x i h hx hi hd
    have n3 := hx.n3
    have n10 := hx.n10
    obtain ⟨b, i1, h1, e1, b0, b1, hi1⟩ := below_eq l hl i h (x.length : Int) hi (by omega) (by omega)
    obtain ⟨u, i2, h2, e2, u0, u1, hi2⟩ := below_eq l hl i1 h1 10 hi1 (by omega) (by omega)
    obtain ⟨v, i3, h3, e3, v0, v1, hi3⟩ := below_eq l hl i2 h2 10 hi2 (by omega) (by omega)
    have wd : wrap64 (((d + 1 : Nat) : Int) - 1) = (d : Int) := by rw [wrap64_id (by omega) (by omega)]; omega
    have wb : wrap64 (b + 1) = b + 1 := wrap64_id (by omega) (by omega)
    let q : List Pt := ([] : List Pt) ++ x.take (b + 1).toNat ++ [(⟨u, v⟩ : Pt)] ++ x.drop (b + 1).toNat
    have step : ∀ k, 3000 < k → spec_l03Draw.l0 (k + 1) x ((d + 1 : Nat) : Int) l i h = spec_l03Draw.l0 k (if impl_PolygonOk.ok q = true then q else x) (d : Int) l i3 h3 := by
      intro k hk
      have lt1 : (x.take (b + 1).toNat).length ≤ x.length := by simp; omega
      have lt2 : (x.drop (b + 1).toNat).length ≤ x.length := by simp
      simp only [spec_l03Draw.l0]
      rw [if_pos (by omega), e1, Option.bind_some]
      simp only []
      rw [e2, Option.bind_some]
      simp only []
      rw [e3, Option.bind_some]
      simp only [Option.bind_some]
      rw [wb, if_pos (by omega), if_pos (by omega), if_pos (by simp only [List.length_append, List.length_nil, List.length_cons, List.length_take, List.length_drop]; omega), if_pos (by simp only [List.length_append, List.length_nil, List.length_cons, List.length_take, List.length_drop]; omega), if_pos (by simp only [List.length_append, List.length_nil, List.length_cons, List.length_take, List.length_drop]; omega), wd]
      rw [spec_PolygonOk_eq q (by simp only [q, List.length_append, List.length_nil, List.length_cons, List.length_take, List.length_drop]; omega) k (by omega), Option.bind_some]
      by_cases c : impl_PolygonOk.ok q = true
      · rw [if_pos c, if_pos c]
      · rw [if_neg c, if_neg c]
    have hq : Poly (if impl_PolygonOk.ok q = true then q else x) := by
      by_cases c : impl_PolygonOk.ok q = true
      · rw [if_pos c]; exact (impl_ok_iff _).1 c
      · rw [if_neg c]; exact hx
    obtain ⟨r, i', h', hr, e⟩ := ih _ i3 h3 hq hi3 (by omega)
    refine ⟨r, i', h', hr, fun k hk => ?_⟩
    obtain ⟨k, rfl⟩ : ∃ m, k = m + 1 := ⟨k - 1, by omega⟩
    rw [step k (by omega)]
    exact e k (by omega)
theorem draw_j0 (l : List Int) (hl : l.length ≤ 1099511627776) (x : List Pt) (i h : Int) (hx : Poly x) (hi : 0 ≤ i) :
    ∃ r i' h', Poly r ∧ ∀ k, 4000 < k → spec_l03Draw.j0 k x l i h = some (r, i', h') := by
  obtain ⟨b, i1, h1, e1, b0, b1, hi1⟩ := below_eq l hl i h 5 hi (by omega) (by omega)
  obtain ⟨r, i', h', hr, e⟩ := draw_l0 l hl b.toNat x i1 h1 hx hi1 (by omega)
  refine ⟨r, i', h', hr, fun k hk => ?_⟩
  obtain ⟨k, rfl⟩ : ∃ m, k = m + 1 := ⟨k - 1, by omega⟩
  simp only [spec_l03Draw.j0]
  rw [e1, Option.bind_some]
  have := e k (by omega)
  rw [show ((b.toNat : Nat) : Int) = b by omega] at this
  exact this
theorem draw_eq (l : List Int) (hl : l.length ≤ 1099511627776) (i h : Int) (hi : 0 ≤ i) :
    ∃ r i' h', Poly r ∧ ∀ k, 4000 < k → spec_l03Draw.f k l i h = some (r, i', h') := by
  obtain ⟨b1, i1, h1, e1, b1a, b1b, hi1⟩ := below_eq l hl i h 2 hi (by omega) (by omega)
  obtain ⟨b2, i2, h2, e2, b2a, b2b, hi2⟩ := below_eq l hl i1 h1 4 hi1 (by omega) (by omega)
  obtain ⟨b3, i3, h3, e3, b3a, b3b, hi3⟩ := below_eq l hl i2 h2 3 hi2 (by omega) (by omega)
  obtain ⟨b4, i4, h4, e4, b4a, b4b, hi4⟩ := below_eq l hl i3 h3 5 hi3 (by omega) (by omega)
  obtain ⟨b5, i5, h5, e5, b5a, b5b, hi5⟩ := below_eq l hl i4 h4 4 hi4 (by omega) (by omega)
  obtain ⟨b6, i6, h6, e6, hi6⟩ := once_eq l hl i5 h5 3 hi5 (by omega) (by omega)
  obtain ⟨b7, i7, h7, e7, b7a, b7b, hi7⟩ := below_eq l hl i6 h6 6 hi6 (by omega) (by omega)
  obtain ⟨b8, i8, h8, e8, b8a, b8b, hi8⟩ := below_eq l hl i7 h7 6 hi7 (by omega) (by omega)
  have head : ∀ k, spec_l03Draw.f k l i h = if b6 = true then spec_l03Draw.j0 k [(⟨1, 1⟩ : Pt), ⟨3 + b7, 1⟩, ⟨3 + b7, 3 + b8⟩, ⟨1, 3 + b8⟩] l i8 h8 else spec_l03Draw.j0 k [(⟨1 + b1, 1⟩ : Pt), ⟨5 + b2, 1 + b3⟩, ⟨3 + b4, 5 + b5⟩] l i6 h6 := by
    intro k
    unfold spec_l03Draw.f
    rw [e1, Option.bind_some]; simp only []
    rw [e2, Option.bind_some]; simp only []
    rw [e3, Option.bind_some]; simp only []
    rw [e4, Option.bind_some]; simp only []
    rw [e5, Option.bind_some]; simp only []
    rw [e6, Option.bind_some]; simp only []
    by_cases c : b6 = true
    · rw [if_pos c, if_pos c, e7, Option.bind_some]; simp only []
      rw [e8, Option.bind_some]; simp only []
      rw [wrap64_id (x := 2 + b7) (by omega) (by omega), wrap64_id (x := 2 + b8) (by omega) (by omega), wrap64_id (x := 1 + (2 + b7)) (by omega) (by omega), wrap64_id (x := 1 + (2 + b8)) (by omega) (by omega), show 1 + (2 + b7) = 3 + b7 by omega, show 1 + (2 + b8) = 3 + b8 by omega]
    · rw [if_neg c, if_neg c]
      rw [wrap64_id (x := 1 + b1) (by omega) (by omega), wrap64_id (x := 5 + b2) (by omega) (by omega), wrap64_id (x := 1 + b3) (by omega) (by omega), wrap64_id (x := 3 + b4) (by omega) (by omega), wrap64_id (x := 5 + b5) (by omega) (by omega)]
  by_cases c : b6 = true
  · have hp : Poly [(⟨1, 1⟩ : Pt), ⟨3 + b7, 1⟩, ⟨3 + b7, 3 + b8⟩, ⟨1, 3 + b8⟩] := by
      have m := Pick.pp (show 0 < 2 + b7 by omega) (show 0 < 2 + b8 by omega)
      have m' := Int.mul_comm (2 + b7) (2 + b8)
      refine quad_poly (fun p hm => ?_) ?_ ?_ ?_ ?_
      · simp only [List.mem_cons, List.not_mem_nil, or_false] at hm
        rcases hm with rfl | rfl | rfl | rfl <;> exact ok_iff.2 (by simp only []; omega)
      · have e : crossP (⟨1, 1⟩ : Pt) ⟨3 + b7, 1⟩ ⟨3 + b7, 3 + b8⟩ = (2 + b7) * (2 + b8) := by unfold crossP crossI; simp only []; grind
        omega
      · have e : crossP (⟨3 + b7, 1⟩ : Pt) ⟨3 + b7, 3 + b8⟩ ⟨1, 3 + b8⟩ = (2 + b7) * (2 + b8) := by unfold crossP crossI; simp only []; grind
        omega
      · have e : crossP (⟨3 + b7, 3 + b8⟩ : Pt) ⟨1, 3 + b8⟩ ⟨1, 1⟩ = (2 + b7) * (2 + b8) := by unfold crossP crossI; simp only []; grind
        omega
      · have e : crossP (⟨1, 3 + b8⟩ : Pt) ⟨1, 1⟩ ⟨3 + b7, 1⟩ = (2 + b7) * (2 + b8) := by unfold crossP crossI; simp only []; grind
        omega
    obtain ⟨r, i', h', hr, e⟩ := draw_j0 l hl _ i8 h8 hp hi8
    exact ⟨r, i', h', hr, fun k hk => by rw [head, if_pos c]; exact e k hk⟩
  · have hp : Poly [(⟨1 + b1, 1⟩ : Pt), ⟨5 + b2, 1 + b3⟩, ⟨3 + b4, 5 + b5⟩] := by
      refine tri_poly (fun p hm => ?_) ?_
      · simp only [List.mem_cons, List.not_mem_nil, or_false] at hm
        rcases hm with rfl | rfl | rfl <;> exact ok_iff.2 (by simp only []; omega)
      · have e : crossP (⟨1 + b1, 1⟩ : Pt) ⟨5 + b2, 1 + b3⟩ ⟨3 + b4, 5 + b5⟩ = (4 + b2 - b1) * (4 + b5) - b3 * (2 + b4 - b1) := by unfold crossP crossI; simp only []; grind
        have m1 := Pick.zn (show 0 ≤ 4 + b2 - b1 - 3 by omega) (show 0 ≤ 4 + b5 - 4 by omega)
        have m1' : (4 + b2 - b1 - 3) * (4 + b5 - 4) = (4 + b2 - b1) * (4 + b5) - 4 * (4 + b2 - b1) - 3 * (4 + b5) + 12 := by grind
        have m2 := Pick.zn (show 0 ≤ 2 - b3 by omega) (show 0 ≤ 2 + b4 - b1 by omega)
        have m2' : (2 - b3) * (2 + b4 - b1) = 2 * (2 + b4 - b1) - b3 * (2 + b4 - b1) := by grind
        omega
    obtain ⟨r, i', h', hr, e⟩ := draw_j0 l hl _ i6 h6 hp hi6
    exact ⟨r, i', h', hr, fun k hk => by rw [head, if_neg c]; exact e k hk⟩
theorem makePolygon_eq (l : List Int) (hl : l.length ≤ 1099511627776) : ∃ r : List Pt, Poly r ∧ ∀ k, 5000 < k → spec_MakePolygon.f k l 0 = some r := by
  obtain ⟨i, h, hi, e⟩ := l31_eq l hl 0 (by omega)
  obtain ⟨r, i', h', hr, e2⟩ := draw_eq l hl i h hi
  refine ⟨r, hr, fun k hk => ?_⟩
  unfold spec_MakePolygon.f
  have e' : spec_l31New.f k l 0 = some (l, i, h) := e k (by omega)
  rw [e', Option.bind_some]; simp only []
  rw [e2 k (by omega), Option.bind_some]
theorem size_l1 (d : Nat) : ∀ (x : Int) (k : Nat), 0 ≤ x → x + d ≤ 1000000 → d ≤ 1000 → d < k → spec_MakeSize.l1 k x (d : Int) = some (x + d) := by
  induction d with
  | zero =>
    intro x k _ _ _ hk
    obtain ⟨k, rfl⟩ : ∃ m, k = m + 1 := ⟨k - 1, by omega⟩
    simp only [spec_MakeSize.l1]
    rw [if_neg (by omega)]; congr 1; omega
  | succ d ih =>
    intro x k x0 x1 hd hk
    obtain ⟨k, rfl⟩ : ∃ m, k = m + 1 := ⟨k - 1, by omega⟩
    simp only [spec_MakeSize.l1]
    rw [if_pos (by omega), wrap64_id (by omega) (by omega), wrap64_id (by omega) (by omega), show ((d + 1 : Nat) : Int) - 1 = (d : Int) by omega, ih (x + 1) k (by omega) (by omega) (by omega) (by omega)]
    congr 1; omega
theorem size_j1 (l : List Int) (hl : l.length ≤ 1099511627776) (s : Int) (h1 : 1 ≤ s) (h2 : s ≤ 100) : ∃ r, 0 ≤ r ∧ r < s ∧ ∀ k, 5000 < k → spec_MakeSize.j1 k l 40 0 s = some r := by
  obtain ⟨i, h, hi, e⟩ := l31_eq l hl 40 (by omega)
  obtain ⟨b, i', h', e2, b0, b1, _⟩ := below_eq l hl i h s hi (by omega) (by omega)
  refine ⟨b, b0, b1, fun k hk => ?_⟩
  obtain ⟨k, rfl⟩ : ∃ m, k = m + 1 := ⟨k - 1, by omega⟩
  have e' : spec_l31New.f k l 40 = some (l, i, h) := e k (by omega)
  simp only [spec_MakeSize.j1]
  rw [e', Option.bind_some]; simp only []
  rw [e2, Option.bind_some]; simp only []
  have := size_l1 b.toNat 0 k (by omega) (by omega) (by omega) (by omega)
  rw [show ((b.toNat : Nat) : Int) = b by omega] at this
  rw [this]; congr 1; omega
theorem size_l0 (l : List Int) (hl : l.length ≤ 1099511627776) (n : Int) (hn : n ≤ 50) (d : Nat) : ∀ (x : Int), 0 ≤ x → x + d = n → ∃ r, 0 ≤ r ∧ r ≤ n ∧ ∀ k, d + 5001 < k → spec_MakeSize.l0 k l 40 0 n (x + 1) x = some r := by
  induction d with
  | zero =>
    intro x x0 hx
    obtain ⟨r, r0, r1, e⟩ := size_j1 l hl (x + 1) (by omega) (by omega)
    refine ⟨r, r0, by omega, fun k hk => ?_⟩
    obtain ⟨k, rfl⟩ : ∃ m, k = m + 1 := ⟨k - 1, by omega⟩
    simp only [spec_MakeSize.l0]
    rw [if_neg (by omega)]
    exact e k (by omega)
  | succ d ih =>
    intro x x0 hx
    obtain ⟨r, r0, r1, e⟩ := ih (x + 1) (by omega) (by omega)
    refine ⟨r, r0, r1, fun k hk => ?_⟩
    obtain ⟨k, rfl⟩ : ∃ m, k = m + 1 := ⟨k - 1, by omega⟩
    simp only [spec_MakeSize.l0]
    rw [if_pos (by omega), if_pos (by omega), wrap64_id (by omega) (by omega), wrap64_id (by omega) (by omega)]
    exact e k (by omega)
theorem makeSize_eq (l : List Int) (hl : l.length ≤ 1099511627776) (n : Nat) (h1 : 1 ≤ n) (hn : n ≤ 50) : ∃ r : Nat, r < n ∧ ∀ k, 6000 < k → spec_MakeSize.f k l 40 0 ((n : Int) - 1) = some (r : Int) := by
  obtain ⟨r, r0, r1, e⟩ := size_l0 l hl ((n : Int) - 1) (by omega) (n - 1) 0 (by omega) (by omega)
  refine ⟨r.toNat, by omega, fun k hk => ?_⟩
  unfold spec_MakeSize.f
  rw [show ((r.toNat : Nat) : Int) = r by omega]
  exact e k (by omega)
end Go.Proofs.Ytlccpkggdmngaaa.G
