/- The law FnPoints: the sides, the points of a segment and how segments meet. No conditions. -/
import Derived.Test.YtlccpkggdmngaaaUFnPoints
import Derived.Test.YtlccpkggdmngaaaPm
import Derived.Test.YtlccpkggdmngaaaPcc
import Derived.Test.YtlccpkggdmngaaaPA
namespace Go.Proofs.Ytlccpkggdmngaaa.Pure
open Go.RowKit Go.Proofs.Ytlccpkggdmngaaa.G Go.Proofs.YtlccpkggdmngaaaW.PrintWords Go.Proofs.YtlccpkggdmngaaaW.PrintLast Go.Proofs.YtlccpkggdmngaaaW.PrintMore
set_option linter.unusedSimpArgs false
set_option linter.unusedVariables false
theorem makePoint_eq (l : List Int) (hl : l.length ≤ 1099511627776) (n : Nat) (hn : n ≤ 1000) : ∃ p : Pt, okp p = true ∧ ∀ k, 4000 < k → spec_MakePoint.f k l (n : Int) = some (p.f0, p.f1) := by
  obtain ⟨i, h, hi, e⟩ := l31_eq l hl n hn
  obtain ⟨x, i1, h1, e1, x0, x1, hi1⟩ := below_eq l hl i h 9 hi (by omega) (by omega)
  obtain ⟨y, i2, h2, e2, y0, y1, hi2⟩ := below_eq l hl i1 h1 9 hi1 (by omega) (by omega)
  refine ⟨⟨x, y⟩, ok_iff.2 ⟨by simpa using x0, by show x ≤ 40; omega, by simpa using y0, by show y ≤ 40; omega⟩, fun k hk => ?_⟩
  unfold spec_MakePoint.f spec_l02Draw.f
  rw [e k hk, Option.bind_some, e1, Option.bind_some, e2, Option.bind_some, Option.bind_some]
theorem okS {p : Pt} (h : okp p = true) : smp p := sm_ok h
theorem cross_of {a b c : Pt} (ha : okp a = true) (hb : okp b = true) (hc : okp c = true) (k : Nat) (hk : 10 < k) : impl_CrossOf.f k a.f0 a.f1 b.f0 b.f1 c.f0 c.f1 = some (crossP a b c) := by
  unfold impl_CrossOf.f
  rw [impl_arePoints_eq _ (by simp) _ (by simp; omega)]
  simp only [List.all_cons, List.all_nil, Bool.and_true, show okp ⟨a.f0, a.f1⟩ = true from ha, show okp ⟨b.f0, b.f1⟩ = true from hb, show okp ⟨c.f0, c.f1⟩ = true from hc, Option.bind_some, if_true]
  rw [impl_cross_eq (okS ha).1 (okS ha).2 (okS hb).1 (okS hb).2 (okS hc).1 (okS hc).2]; rfl
theorem side_of {a b c : Pt} (ha : okp a = true) (hb : okp b = true) (hc : okp c = true) (k : Nat) (hk : 10 < k) : impl_SideOf.f k a.f0 a.f1 b.f0 b.f1 c.f0 c.f1 = some (sgn (crossP a b c)) := by
  unfold impl_SideOf.f
  rw [cross_of ha hb hc k hk, Option.bind_some, impl_sign_eq]; rfl
theorem on_of {a b c : Pt} (ha : okp a = true) (hb : okp b = true) (hc : okp c = true) (k : Nat) (hk : 10 < k) : impl_IsOn.f k a.f0 a.f1 b.f0 b.f1 c.f0 c.f1 = some (onP a b c) := by
  unfold impl_IsOn.f
  rw [impl_arePoints_eq _ (by simp) _ (by simp; omega)]
  simp only [List.all_cons, List.all_nil, Bool.and_true, show okp ⟨a.f0, a.f1⟩ = true from ha, show okp ⟨b.f0, b.f1⟩ = true from hb, show okp ⟨c.f0, c.f1⟩ = true from hc, Option.bind_some, if_true]
  rw [impl_on_eq (okS ha).1 (okS ha).2 (okS hb).1 (okS hb).2 (okS hc).1 (okS hc).2]; rfl
def sq2 (a b : Pt) : Int := (a.f0 - b.f0) * (a.f0 - b.f0) + (a.f1 - b.f1) * (a.f1 - b.f1)
theorem square_of {a b : Pt} (ha : okp a = true) (hb : okp b = true) (k : Nat) (hk : 10 < k) : impl_SquareOf.f k a.f0 a.f1 b.f0 b.f1 = some (sq2 a b) := by
  unfold impl_SquareOf.f
  rw [impl_arePoints_eq _ (by simp) _ (by simp; omega)]
  simp only [List.all_cons, List.all_nil, Bool.and_true, show okp ⟨a.f0, a.f1⟩ = true from ha, show okp ⟨b.f0, b.f1⟩ = true from hb, Option.bind_some, if_true]
  unfold impl_square.f sq2
  have h1 := ok_iff.1 ha
  have h2 := ok_iff.1 hb
  have e1 := mul_bound (a := a.f0 - b.f0) (b := a.f0 - b.f0) (m := 40) (n := 40) (by omega) (by omega) (by omega) (by omega)
  have e2 := mul_bound (a := a.f1 - b.f1) (b := a.f1 - b.f1) (m := 40) (n := 40) (by omega) (by omega) (by omega) (by omega)
  rw [wrap64_id (x := a.f0 - b.f0) (by omega) (by omega), wrap64_id (x := a.f1 - b.f1) (by omega) (by omega), wrap64_id (x := (a.f0 - b.f0) * (a.f0 - b.f0)) (by omega) (by omega), wrap64_id (x := (a.f1 - b.f1) * (a.f1 - b.f1)) (by omega) (by omega), wrap64_id (by omega) (by omega)]
  rfl
def stepsP (a b : Pt) : Nat := Int.gcd (a.f0 - b.f0) (a.f1 - b.f1)
theorem steps_of {a b : Pt} (ha : okp a = true) (hb : okp b = true) (k : Nat) (hk : 1000 < k) : impl_StepsOf.f k a.f0 a.f1 b.f0 b.f1 = some (stepsP a b : Int) := by
  unfold impl_StepsOf.f
  rw [impl_arePoints_eq _ (by simp) _ (by simp; omega)]
  simp only [List.all_cons, List.all_nil, Bool.and_true, show okp ⟨a.f0, a.f1⟩ = true from ha, show okp ⟨b.f0, b.f1⟩ = true from hb, Option.bind_some, if_true]
  have h1 := ok_iff.1 ha
  have h2 := ok_iff.1 hb
  rw [wrap64_id (x := a.f0 - b.f0) (by omega) (by omega), wrap64_id (x := a.f1 - b.f1) (by omega) (by omega), common_eq (by unfold sm; omega) (by unfold sm; omega) k hk]
  rfl
theorem steps_comm (a b : Pt) : stepsP a b = stepsP b a := by
  unfold stepsP
  rw [← Int.neg_sub b.f0 a.f0, ← Int.neg_sub b.f1 a.f1]; simp
theorem steps_zero {a b : Pt} : stepsP a b = 0 ↔ a = b := by
  unfold stepsP
  rw [Int.gcd_eq_zero_iff]
  constructor
  · rintro ⟨h1, h2⟩; exact pt_ext (by omega) (by omega)
  · rintro rfl; omega
open Classical in
theorem meet_of {a b c d : Pt} (ha : okp a = true) (hb : okp b = true) (hc : okp c = true) (hd : okp d = true) (k : Nat) (hk : 10 < k) : impl_HowMeet.f k a.f0 a.f1 b.f0 b.f1 c.f0 c.f1 d.f0 d.f1 = some (if a = b ∨ c = d then 0 else meetI a b c d) := by
  unfold impl_HowMeet.f
  rw [impl_arePoints_eq _ (by simp) _ (by simp; omega)]
  simp only [List.all_cons, List.all_nil, Bool.and_true, show okp ⟨a.f0, a.f1⟩ = true from ha, show okp ⟨b.f0, b.f1⟩ = true from hb, show okp ⟨c.f0, c.f1⟩ = true from hc, show okp ⟨d.f0, d.f1⟩ = true from hd, Option.bind_some, if_true, pt_beq]
  rw [impl_meet_eq (okS ha) (okS hb) (okS hc) (okS hd)]
  by_cases h1 : a = b
  · simp [h1]
  · by_cases h2 : c = d
    · simp [h1, h2]
    · simp [h1, h2]
/-! the points of a segment -/
def ptN (a b : Pt) (i : Nat) : Pt := ⟨a.f0 + Int.tdiv (b.f0 - a.f0) (stepsP a b) * (i : Int), a.f1 + Int.tdiv (b.f1 - a.f1) (stepsP a b) * (i : Int)⟩
theorem step0 (a b : Pt) : Int.tdiv (b.f0 - a.f0) (stepsP a b) * (stepsP a b : Int) = b.f0 - a.f0 := by
  apply Int.tdiv_mul_cancel
  rw [steps_comm]; exact Int.gcd_dvd_left _ _
theorem step1 (a b : Pt) : Int.tdiv (b.f1 - a.f1) (stepsP a b) * (stepsP a b : Int) = b.f1 - a.f1 := by
  apply Int.tdiv_mul_cancel
  rw [steps_comm]; exact Int.gcd_dvd_right _ _
theorem between1 {q : Int} {g i : Nat} (hi : i ≤ g) (hg : 0 < g) {x y : Int} (h : q * (g : Int) = y - x) : mn x y ≤ x + q * (i : Int) ∧ x + q * (i : Int) ≤ mx x y := by
  unfold mn mx
  have hi' : 0 ≤ (g : Int) - i := by omega
  rcases Int.le_total 0 q with hq | hq
  · have h1 := Int.mul_nonneg hq (show 0 ≤ (i : Int) by omega)
    have h2 := Int.mul_nonneg hq hi'
    rw [Int.mul_sub] at h2
    split <;> split <;> omega
  · have h1 := Int.mul_nonneg (show 0 ≤ -q by omega) (show 0 ≤ (i : Int) by omega)
    have h2 := Int.mul_nonneg (show 0 ≤ -q by omega) hi'
    rw [Int.mul_sub, Int.neg_mul, Int.neg_mul] at h2
    rw [Int.neg_mul] at h1
    split <;> split <;> omega
theorem ptN_on {a b : Pt} {i : Nat} (hi : i ≤ stepsP a b) (hg : 0 < stepsP a b) : onP a b (ptN a b i) = true ∧ crossP a b (ptN a b i) = 0 := by
  have h0 := step0 a b
  have h1 := step1 a b
  have b0 := between1 hi hg h0
  have b1 := between1 hi hg h1
  have hc : crossP a b (ptN a b i) = 0 := by
    unfold crossP crossI ptN
    simp only
    generalize Int.tdiv (b.f0 - a.f0) (stepsP a b) = q at *
    generalize Int.tdiv (b.f1 - a.f1) (stepsP a b) = r at *
    rw [← h0, ← h1]
    grind
  refine ⟨?_, hc⟩
  unfold onP onI
  unfold crossP at hc
  rw [hc]
  simp [ptN, b0.1, b0.2, b1.1, b1.2]
theorem ptN_ok {a b : Pt} (ha : okp a = true) (hb : okp b = true) {i : Nat} (hi : i ≤ stepsP a b) (hg : 0 < stepsP a b) : okp (ptN a b i) = true := by
  have b0 := between1 hi hg (step0 a b)
  have b1 := between1 hi hg (step1 a b)
  have h1 := ok_iff.1 ha
  have h2 := ok_iff.1 hb
  refine ok_iff.2 ?_
  unfold mn mx at b0 b1
  simp only [ptN]
  split at b0 <;> split at b0 <;> split at b1 <;> split at b1 <;> omega
theorem ptN_zero (a b : Pt) : ptN a b 0 = a := by unfold ptN; exact pt_ext (by simp) (by simp)
theorem ptN_last {a b : Pt} : ptN a b (stepsP a b) = b := by
  have h0 := step0 a b
  have h1 := step1 a b
  unfold ptN
  exact pt_ext (by show a.f0 + _ = b.f0; omega) (by show a.f1 + _ = b.f1; omega)
theorem ptN_step {a b : Pt} (i : Nat) (hg : 0 < stepsP a b) : stepsP (ptN a b i) (ptN a b (i + 1)) = 1 := by
  have h0 := step0 a b
  have h1 := step1 a b
  have hs : stepsP a b = Int.gcd (b.f0 - a.f0) (b.f1 - a.f1) := steps_comm a b
  generalize hg' : stepsP a b = g at *
  unfold ptN
  rw [hg']
  generalize Int.tdiv (b.f0 - a.f0) g = q at *
  generalize Int.tdiv (b.f1 - a.f1) g = r at *
  unfold stepsP
  simp only
  have e0 : a.f0 + q * (i : Int) - (a.f0 + q * ((i + 1 : Nat) : Int)) = -q := by rw [Int.natCast_add, Int.mul_add]; simp; omega
  have e1 : a.f1 + r * (i : Int) - (a.f1 + r * ((i + 1 : Nat) : Int)) = -r := by rw [Int.natCast_add, Int.mul_add]; simp; omega
  rw [e0, e1]
  rw [← h0, ← h1, Int.gcd_mul_right] at hs
  have : Int.gcd q r = 1 := by
    have h3 : Int.gcd q r * g = 1 * g := by rw [Nat.one_mul]; simpa using hs.symm
    exact Nat.eq_of_mul_eq_mul_right hg h3
  simpa using this
theorem step_small {a b : Pt} (ha : okp a = true) (hb : okp b = true) {i : Nat} (hi : i ≤ stepsP a b) (hg : 0 < stepsP a b) : impl_PointsOn.l0 = impl_PointsOn.l0 := rfl
theorem steps_le {a b : Pt} (ha : okp a = true) (hb : okp b = true) : stepsP a b ≤ 80 := by
  have h1 := ok_iff.1 ha
  have h2 := ok_iff.1 hb
  unfold stepsP Int.gcd
  by_cases h : (a.f0 - b.f0).natAbs = 0
  · rw [h, Nat.gcd_zero_left]; omega
  · have := Nat.gcd_le_left (a.f1 - b.f1).natAbs (show 0 < (a.f0 - b.f0).natAbs by omega)
    omega
theorem points_l0 {a b : Pt} (ha : okp a = true) (hb : okp b = true) (d : Nat) : ∀ (k i : Nat), 1 ≤ i → i + d = stepsP a b + 1 → d < k →
    impl_PointsOn.l0 k (stepsP a b : Int) ((List.range i).map (ptN a b)) (i : Int) a.f0 a.f1 b.f0 b.f1 = some ((List.range (stepsP a b + 1)).map (ptN a b)) := by
  have hs := steps_le ha hb
  have h1 := ok_iff.1 ha
  have h2 := ok_iff.1 hb
  induction d with
  | zero =>
    intro k i hi hd hk
    obtain ⟨k, rfl⟩ : ∃ m, k = m + 1 := ⟨k - 1, by omega⟩
    simp only [impl_PointsOn.l0]
    rw [if_neg (by omega), show i = stepsP a b + 1 by omega]
  | succ d ih =>
    intro k i hi hd hk
    obtain ⟨k, rfl⟩ : ∃ m, k = m + 1 := ⟨k - 1, by omega⟩
    have hg : 0 < stepsP a b := by omega
    have b0 := between1 (show i ≤ stepsP a b by omega) hg (step0 a b)
    have b1 := between1 (show i ≤ stepsP a b by omega) hg (step1 a b)
    have q0 : (Int.tdiv (b.f0 - a.f0) (stepsP a b)).natAbs ≤ 40 := by
      rw [Int.natAbs_tdiv]
      exact Nat.le_trans (Nat.div_le_self (b.f0 - a.f0).natAbs (stepsP a b : Int).natAbs) (by omega)
    have q1 : (Int.tdiv (b.f1 - a.f1) (stepsP a b)).natAbs ≤ 40 := by
      rw [Int.natAbs_tdiv]
      exact Nat.le_trans (Nat.div_le_self (b.f1 - a.f1).natAbs (stepsP a b : Int).natAbs) (by omega)
    simp only [impl_PointsOn.l0]
    rw [if_pos (by omega), if_neg (by omega), if_pos (by simp; omega)]
    have m0 : mn a.f0 b.f0 ≥ 0 ∧ mx a.f0 b.f0 ≤ 40 := by unfold mn mx; split <;> split <;> omega
    have m1 : mn a.f1 b.f1 ≥ 0 ∧ mx a.f1 b.f1 ≤ 40 := by unfold mn mx; split <;> split <;> omega
    rw [wrap64_id (x := b.f0 - a.f0) (by omega) (by omega), wrap64_id (x := b.f1 - a.f1) (by omega) (by omega), wrap64_id (x := Int.tdiv (b.f0 - a.f0) (stepsP a b)) (by omega) (by omega), wrap64_id (x := Int.tdiv (b.f1 - a.f1) (stepsP a b)) (by omega) (by omega), wrap64_id (x := Int.tdiv (b.f0 - a.f0) (stepsP a b) * (i : Int)) (by omega) (by omega), wrap64_id (x := Int.tdiv (b.f1 - a.f1) (stepsP a b) * (i : Int)) (by omega) (by omega), wrap64_id (x := a.f0 + Int.tdiv (b.f0 - a.f0) (stepsP a b) * (i : Int)) (by omega) (by omega), wrap64_id (x := a.f1 + Int.tdiv (b.f1 - a.f1) (stepsP a b) * (i : Int)) (by omega) (by omega), wrap64_id (x := (i : Int) + 1) (by omega) (by omega)]
    have := ih k (i + 1) (by omega) (by omega) (by omega)
    rw [List.range_succ, List.map_append] at this
    exact this
theorem points_of {a b : Pt} (ha : okp a = true) (hb : okp b = true) (k : Nat) (hk : 1000 < k) : impl_PointsOn.f k a.f0 a.f1 b.f0 b.f1 = some ((List.range (stepsP a b + 1)).map (ptN a b)) := by
  have hs := steps_le ha hb
  unfold impl_PointsOn.f
  rw [steps_of ha hb k hk, Option.bind_some, if_neg (by omega)]
  have := points_l0 ha hb (stepsP a b) k 1 (by omega) (by omega) (by omega)
  simpa [ptN_zero] using this
/-! how segments meet -/
theorem onP_flip (a b p : Pt) : onP a b p = onP b a p := by
  have e : crossI a.f0 a.f1 b.f0 b.f1 p.f0 p.f1 = 0 ↔ crossI b.f0 b.f1 a.f0 a.f1 p.f0 p.f1 = 0 := by
    have : crossI a.f0 a.f1 b.f0 b.f1 p.f0 p.f1 = - crossI b.f0 b.f1 a.f0 a.f1 p.f0 p.f1 := by unfold crossI; grind
    omega
  have c0 : mn a.f0 b.f0 = mn b.f0 a.f0 := by unfold mn; split <;> split <;> omega
  have c1 : mn a.f1 b.f1 = mn b.f1 a.f1 := by unfold mn; split <;> split <;> omega
  have c2 : mx a.f0 b.f0 = mx b.f0 a.f0 := by unfold mx; split <;> split <;> omega
  have c3 : mx a.f1 b.f1 = mx b.f1 a.f1 := by unfold mx; split <;> split <;> omega
  unfold onP onI
  rw [decide_eq_decide.2 e, c0, c1, c2, c3]
theorem onP_left (a b : Pt) : onP a b a = true := by
  unfold onP onI
  have : crossI a.f0 a.f1 b.f0 b.f1 a.f0 a.f1 = 0 := by unfold crossI; simp
  rw [this]
  simp only [Bool.and_eq_true, decide_eq_true_eq]
  unfold mn mx
  refine ⟨⟨⟨⟨trivial, ?_⟩, ?_⟩, ?_⟩, ?_⟩ <;> split <;> omega
theorem shared_swap (a b c d x : Pt) : x ∈ shared a b c d ↔ x ∈ shared c d a b := by
  unfold shared
  cases onP c d a <;> cases onP c d b <;> cases onP a b c <;> cases onP a b d <;> simp <;> grind
theorem shared_flip (a b c d x : Pt) : x ∈ shared a b c d ↔ x ∈ shared b a d c := by
  unfold shared
  rw [onP_flip b a, onP_flip b a, onP_flip d c, onP_flip d c]
  cases onP c d a <;> cases onP c d b <;> cases onP a b c <;> cases onP a b d <;> simp <;> grind
theorem two_mem {l m : List Pt} (h : ∀ x, x ∈ l ↔ x ∈ m) : two l ↔ two m := by
  constructor
  · rintro ⟨x, hx, y, hy, hxy⟩; exact ⟨x, (h x).1 hx, y, (h y).1 hy, hxy⟩
  · rintro ⟨x, hx, y, hy, hxy⟩; exact ⟨x, (h x).2 hx, y, (h y).2 hy, hxy⟩
theorem sgn_neg (n : Int) : sgn (-n) = - sgn n := by unfold sgn; split <;> split <;> (try split) <;> (try split) <;> omega
theorem crosses_swap (a b c d : Pt) : crosses a b c d ↔ crosses c d a b := by unfold crosses; exact and_comm
theorem crossP_flip (a b p : Pt) : crossP b a p = - crossP a b p := by unfold crossP crossI; grind
theorem crosses_flip (a b c d : Pt) : crosses a b c d ↔ crosses b a d c := by
  unfold crosses
  rw [crossP_flip a b d, crossP_flip a b c, crossP_flip c d b, crossP_flip c d a, sgn_neg, sgn_neg, sgn_neg, sgn_neg, Int.neg_mul_neg, Int.neg_mul_neg, Int.mul_comm (sgn (crossP a b d)), Int.mul_comm (sgn (crossP c d b))]
open Classical in
theorem meet_same {a b c d a' b' c' d' : Pt} (h : ∀ x, x ∈ shared a b c d ↔ x ∈ shared a' b' c' d') (hc : crosses a b c d ↔ crosses a' b' c' d') : meetI a b c d = meetI a' b' c' d' := by
  unfold meetI
  by_cases h1 : two (shared a b c d)
  · rw [if_pos h1, if_pos ((two_mem h).1 h1)]
  · rw [if_neg h1, if_neg (fun e => h1 ((two_mem h).2 e))]
    by_cases h2 : shared a b c d = []
    · rw [if_pos h2, if_pos ((nil_iff h).1 h2)]
      by_cases h3 : crosses a b c d
      · rw [if_pos h3, if_pos (hc.1 h3)]
      · rw [if_neg h3, if_neg (fun e => h3 (hc.2 e))]
    · rw [if_neg h2, if_neg (fun e => h2 ((nil_iff h).2 e))]
theorem meet_swap (a b c d : Pt) : meetI a b c d = meetI c d a b := meet_same (shared_swap a b c d) (crosses_swap a b c d)
theorem meet_flip (a b c d : Pt) : meetI a b c d = meetI b a d c := meet_same (shared_flip a b c d) (crosses_flip a b c d)
theorem meet_along {a b : Pt} (h : a ≠ b) : meetI a b b a = 3 := by
  unfold meetI
  rw [if_pos]
  refine ⟨a, ?_, b, ?_, h⟩
  · unfold shared
    rw [onP_flip b a, onP_left]; simp
  · unfold shared
    rw [show onP b a b = true from onP_left b a]; simp
theorem mul_neg_sgn (p q : Int) : p * q < 0 ↔ sgn p * sgn q < 0 := by
  unfold sgn
  rcases Int.lt_trichotomy p 0 with hp | rfl | hp
  · rcases Int.lt_trichotomy q 0 with hq | rfl | hq
    · have := Int.mul_pos_of_neg_of_neg hp hq
      simp [hp, hq, show ¬ 0 < p by omega, show ¬ 0 < q by omega]; omega
    · simp
    · have := Int.mul_neg_of_neg_of_pos hp hq
      simp [hp, hq, show ¬ 0 < p by omega]; omega
  · simp
  · rcases Int.lt_trichotomy q 0 with hq | rfl | hq
    · have := Int.mul_neg_of_pos_of_neg hp hq
      simp [hp, hq, show ¬ 0 < q by omega]; omega
    · simp
    · have := Int.mul_pos hp hq
      simp [hp, hq]; omega
theorem meet_two (a b c d : Pt) : meetI a b c d = 2 ↔ crosses a b c d := by
  unfold meetI
  constructor
  · intro h
    split at h
    · omega
    · split at h
      · split at h
        · assumption
        · omega
      · omega
  · intro h
    have e := crosses_shared h
    rw [if_neg (by rw [e]; rintro ⟨x, hx, _⟩; simp at hx), if_pos e, if_pos h]
theorem crosses_ne {a b c d : Pt} (h : crosses a b c d) : a ≠ b ∧ c ≠ d := by
  constructor
  · rintro rfl
    have := h.1
    rw [show crossP a a c = 0 by unfold crossP crossI; simp] at this
    simp [sgn] at this
  · rintro rfl
    have := h.2
    rw [show crossP c c a = 0 by unfold crossP crossI; simp] at this
    simp [sgn] at this
theorem sq_nonneg (x : Int) : 0 ≤ x * x := by
  rcases Int.le_total 0 x with h | h
  · exact Int.mul_nonneg h h
  · exact Int.mul_nonneg_of_nonpos_of_nonpos h h
theorem sq_zero {x : Int} (h : x * x = 0) : x = 0 := by
  rcases Int.mul_eq_zero.1 h with h | h <;> exact h
theorem sq2_zero {a b : Pt} : sq2 a b = 0 ↔ a = b := by
  unfold sq2
  have h1 := sq_nonneg (a.f0 - b.f0)
  have h2 := sq_nonneg (a.f1 - b.f1)
  constructor
  · intro h
    have e1 := sq_zero (x := a.f0 - b.f0) (by omega)
    have e2 := sq_zero (x := a.f1 - b.f1) (by omega)
    exact pt_ext (by omega) (by omega)
  · rintro rfl; simp
theorem sq2_comm (a b : Pt) : sq2 a b = sq2 b a := by unfold sq2; grind
theorem cross_small {a b c : Pt} (ha : okp a = true) (hb : okp b = true) (hc : okp c = true) : -8000000 ≤ crossP a b c ∧ crossP a b c ≤ 8000000 :=
  crossI_bound (okS ha).1 (okS ha).2 (okS hb).1 (okS hb).2 (okS hc).1 (okS hc).2
theorem before_ne {a b : Pt} (h : a ≠ b) : ∃ s t, impl_BeforePoint.f a.f0 a.f1 b.f0 b.f1 = some s ∧ impl_BeforePoint.f b.f0 b.f1 a.f0 a.f1 = some t ∧ (s != t) = true := by
  unfold impl_BeforePoint.f
  by_cases h1 : a.f1 < b.f1
  · exact ⟨true, false, by rw [if_pos h1], by rw [if_neg (by omega), if_neg (by omega)], rfl⟩
  · by_cases h2 : b.f1 < a.f1
    · exact ⟨false, true, by rw [if_neg h1, if_neg (by omega)], by rw [if_pos h2], rfl⟩
    · have e : a.f1 = b.f1 := by omega
      have hne : a.f0 ≠ b.f0 := fun e0 => h (pt_ext e0 e)
      by_cases h3 : a.f0 < b.f0
      · exact ⟨true, false, by rw [if_neg h1, if_pos e, decide_eq_true h3], by rw [if_neg h2, if_pos e.symm, decide_eq_false (by omega)], rfl⟩
      · exact ⟨false, true, by rw [if_neg h1, if_pos e, decide_eq_false h3], by rw [if_neg h2, if_pos e.symm, decide_eq_true (by omega)], rfl⟩
open Classical in
theorem law_j2 {a b c d : Pt} (ha : okp a = true) (hb : okp b = true) (hc : okp c = true) (hd : okp d = true) (k : Nat) (hk : 2000 < k) :
    laws_FnPoints.j2 k (if a = b ∨ c = d then 0 else meetI a b c d) false a.f0 a.f1 b.f0 b.f1 c.f0 c.f1 d.f0 d.f1 = some true := by
  obtain ⟨k, rfl⟩ : ∃ m, k = m + 1 := ⟨k - 1, by omega⟩
  simp only [laws_FnPoints.j2]
  have k10 : 10 < k := by omega
  rw [if_neg (by simp), cross_of ha hb hc k k10, cross_of ha hb hd k k10, cross_of hc hd ha k k10, cross_of hc hd hb k k10, square_of ha hb k k10, square_of hb ha k k10]
  simp only [Option.bind_some]
  have s1 := cross_small ha hb hc
  have s2 := cross_small ha hb hd
  have s3 := cross_small hc hd ha
  have s4 := cross_small hc hd hb
  have p1 := mul_bound s1.1 s1.2 s2.1 s2.2
  have p2 := mul_bound s3.1 s3.2 s4.1 s4.2
  rw [wrap64_id (x := crossP a b c * crossP a b d) (by omega) (by omega), wrap64_id (x := crossP c d a * crossP c d b) (by omega) (by omega)]
  have hcr : crosses a b c d ↔ crossP a b c * crossP a b d < 0 ∧ crossP c d a * crossP c d b < 0 := by
    unfold crosses; rw [mul_neg_sgn (crossP a b c) (crossP a b d), mul_neg_sgn (crossP c d a) (crossP c d b)]
  have h2 : (if a = b ∨ c = d then (0 : Int) else meetI a b c d) = 2 ↔ crosses a b c d := by
    by_cases h : a = b ∨ c = d
    · rw [if_pos h]
      exact ⟨fun e => by omega, fun e => by have := crosses_ne e; rcases h with h | h; exact absurd h this.1; exact absurd h this.2⟩
    · rw [if_neg h]; exact meet_two a b c d
  have h3 : ((if a = b ∨ c = d then (0 : Int) else meetI a b c d) == 2) = decide (crosses a b c d) := by
    rw [Bool.eq_iff_iff, beq_iff_eq, decide_eq_true_eq]; exact h2
  have tail : (if (decide (a = b)) = true then some true else (impl_BeforePoint.f a.f0 a.f1 b.f0 b.f1).bind fun t => (impl_BeforePoint.f b.f0 b.f1 a.f0 a.f1).bind fun t' => some (t != t')) = some true := by
    by_cases h : a = b
    · rw [if_pos (by simp [h])]
    · obtain ⟨s, t, e1, e2, e3⟩ := before_ne h
      rw [if_neg (by simp [h]), e1, e2, Option.bind_some, Option.bind_some, e3]
  have z : ((sq2 a b == 0) == decide (a = b)) = true := by
    rw [beq_iff_eq, Bool.eq_iff_iff, beq_iff_eq, decide_eq_true_eq]; exact sq2_zero
  rw [h3, pt_beq]
  by_cases q1 : crossP a b c * crossP a b d < 0
  · rw [if_pos q1]
    have e : (decide (crosses a b c d) == decide (crossP c d a * crossP c d b < 0)) = true := by
      rw [beq_iff_eq, decide_eq_decide, hcr]; exact ⟨fun h => h.2, fun h => ⟨q1, h⟩⟩
    rw [if_pos e, if_pos z, if_pos (sq2_comm a b)]
    exact tail
  · rw [if_neg q1]
    have e : (decide (crosses a b c d) == false) = true := by
      rw [beq_iff_eq, decide_eq_false_iff_not, hcr]; exact fun h => q1 h.1
    rw [if_pos e, if_pos z, if_pos (sq2_comm a b)]
    exact tail
theorem law_l0 {a b c d : Pt} (ha : okp a = true) (hb : okp b = true) (hc : okp c = true) (hd : okp d = true) (m : Nat) : ∀ (k i : Nat), i + m = stepsP a b + 1 → m + 3000 < k →
    laws_FnPoints.l0 k ((List.range (stepsP a b + 1)).map (ptN a b)) ((List.range (stepsP a b + 1)).map (ptN a b)) (((List.range (stepsP a b + 1)).map (ptN a b)).length : Int) (i : Int) a.f0 a.f1 b.f0 b.f1 c.f0 c.f1 d.f0 d.f1 = some true := by
  have hs := steps_le ha hb
  have hlen : ((List.range (stepsP a b + 1)).map (ptN a b)).length = stepsP a b + 1 := by simp
  have hrd : ∀ i, i < stepsP a b + 1 → rd_T27 ((List.range (stepsP a b + 1)).map (ptN a b)) (i : Int) = ptN a b i := fun i hi => by
    rw [rd_at _ i (by rw [hlen]; exact hi)]; simp
  have hok : ∀ i, i < stepsP a b + 1 → okp (ptN a b i) = true := fun i hi => by
    by_cases hg : 0 < stepsP a b
    · exact ptN_ok ha hb (by omega) hg
    · rw [show i = 0 by omega, ptN_zero]; exact ha
  have hon : ∀ i, i < stepsP a b + 1 → onP a b (ptN a b i) = true ∧ crossP a b (ptN a b i) = 0 := fun i hi => by
    by_cases hg : 0 < stepsP a b
    · exact ptN_on (by omega) hg
    · rw [show i = 0 by omega, ptN_zero]
      exact ⟨onP_left a b, by unfold crossP crossI; simp⟩
  induction m with
  | zero =>
    intro k i hi hk
    obtain ⟨k, rfl⟩ : ∃ m, k = m + 1 := ⟨k - 1, by omega⟩
    simp only [laws_FnPoints.l0]
    rw [if_neg (by rw [hlen]; omega), meet_of ha hb hc hd k (by omega), meet_of hc hd ha hb k (by omega), meet_of hb ha hd hc k (by omega), meet_of ha hb hb ha k (by omega)]
    simp only [Option.bind_some]
    have e1 : (if a = b ∨ c = d then (0 : Int) else meetI a b c d) = (if c = d ∨ a = b then 0 else meetI c d a b) := by
      rw [meet_swap]; by_cases h1 : a = b <;> by_cases h2 : c = d <;> simp [h1, h2]
    have e2 : (if a = b ∨ c = d then (0 : Int) else meetI a b c d) = (if b = a ∨ d = c then 0 else meetI b a d c) := by
      by_cases h : a = b ∨ c = d
      · rw [if_pos h, if_pos (h.imp Eq.symm Eq.symm)]
      · rw [if_neg h, if_neg (fun e => h (e.imp Eq.symm Eq.symm)), meet_flip]
    rw [if_pos e1, if_pos e2]
    by_cases h : a = b
    · rw [if_neg (by simp [h])]
      exact law_j2 ha hb hc hd k (by omega)
    · have hb' : (!(a.f0 == b.f0) || (!(a.f1 == b.f1))) = true := by
        have := pt_beq a b
        rw [decide_eq_false h] at this
        rw [← Bool.not_and, this]; rfl
      rw [if_pos hb', show (if a = b ∨ b = a then (0 : Int) else meetI a b b a) = 3 by rw [if_neg (by rintro (e | e); exact h e; exact h e.symm), meet_along h]]
      exact law_j2 ha hb hc hd k (by omega)
  | succ m ih =>
    intro k i hi hk
    obtain ⟨k, rfl⟩ : ∃ m, k = m + 1 := ⟨k - 1, by omega⟩
    simp only [laws_FnPoints.l0]
    rw [if_pos (by rw [hlen]; omega), if_pos (by omega), if_pos (by rw [hlen]; omega), hrd i (by omega), on_of ha hb (hok i (by omega)) k (by omega), cross_of ha hb (hok i (by omega)) k (by omega), (hon i (by omega)).1, (hon i (by omega)).2]
    simp only [Option.bind_some, if_true]
    have next := ih k (i + 1) (by omega) (by omega)
    rw [wrap64_id (x := (i : Int) + 1) (by omega) (by omega)]
    by_cases h0 : (i : Int) > 0
    · rw [if_pos h0, wrap64_id (x := (i : Int) - 1) (by omega) (by omega), if_pos (by omega), if_pos (by rw [hlen]; omega)]
      obtain ⟨j, rfl⟩ : ∃ j, i = j + 1 := ⟨i - 1, by omega⟩
      rw [show ((j + 1 : Nat) : Int) - 1 = (j : Int) by omega, hrd j (by omega), steps_of (hok j (by omega)) (hok (j + 1) (by omega)) k (by omega), ptN_step j (by omega)]
      simp only [Option.bind_some]
      rw [if_pos (by rfl)]
      exact next
    · rw [if_neg h0]
      exact next
theorem FnPoints : laws_FnPoints.Pure := by
  intro l hl _ _
  by_cases hs : (l.length : Int) > 1048576
  · exact ⟨1, by unfold laws_FnPoints.f; rw [if_pos hs]⟩
  · refine ⟨10000, ?_⟩
    unfold laws_FnPoints.f
    obtain ⟨a, ha, ea⟩ := makePoint_eq l (by omega) 0 (by omega)
    obtain ⟨b, hb, eb⟩ := makePoint_eq l (by omega) 3 (by omega)
    obtain ⟨c, hc, ec⟩ := makePoint_eq l (by omega) 6 (by omega)
    obtain ⟨d, hd, ed⟩ := makePoint_eq l (by omega) 9 (by omega)
    have ea' : spec_MakePoint.f 10000 l 0 = some (a.f0, a.f1) := ea 10000 (by omega)
    have eb' : spec_MakePoint.f 10000 l 3 = some (b.f0, b.f1) := eb 10000 (by omega)
    have ec' : spec_MakePoint.f 10000 l 6 = some (c.f0, c.f1) := ec 10000 (by omega)
    have ed' : spec_MakePoint.f 10000 l 9 = some (d.f0, d.f1) := ed 10000 (by omega)
    have hst := steps_le ha hb
    rw [if_neg hs, ea', eb', ec', ed']
    simp only [Option.bind_some]
    rw [steps_of ha hb _ (by omega), points_of ha hb _ (by omega)]
    simp only [Option.bind_some]
    have hlen : ((List.range (stepsP a b + 1)).map (ptN a b)).length = stepsP a b + 1 := by simp
    have hrd : ∀ i, i < stepsP a b + 1 → rd_T27 ((List.range (stepsP a b + 1)).map (ptN a b)) (i : Int) = ptN a b i := fun i hi => by
      rw [rd_at _ i (by rw [hlen]; exact hi)]; simp
    have c1 := cross_small ha hb hc
    have c2 := cross_small hb ha hc
    have f1 : crossP a b c = - crossP b a c := by rw [crossP_flip]
    have f2 : crossP a b c = crossP b c a := by unfold crossP crossI; grind
    have f3 : sgn (crossP a b c) = - sgn (crossP a c b) := by rw [← sgn_neg]; congr 1; unfold crossP crossI; grind
    rw [if_neg (by omega), cross_of ha hb hc _ (by omega), cross_of hb ha hc _ (by omega), cross_of hb hc ha _ (by omega), side_of ha hb hc _ (by omega), side_of ha hc hb _ (by omega)]
    simp only [Option.bind_some]
    have s1 := sgn_cases (crossP a c b)
    rw [wrap64_id (x := - crossP b a c) (by omega) (by omega), if_pos f1, if_pos f2, wrap64_id (x := - sgn (crossP a c b)) (by omega) (by omega), if_pos f3, hlen, wrap64_id (x := (stepsP a b : Int) + 1) (by omega) (by omega), if_pos (by omega), if_pos (by omega)]
    have r0 : rd_T27 ((List.range (stepsP a b + 1)).map (ptN a b)) 0 = a := (hrd 0 (by omega)).trans (ptN_zero a b)
    rw [r0, if_neg (by simp), if_pos (by omega), if_pos (by omega), hrd _ (by omega), ptN_last, if_neg (by simp), steps_of hb ha _ (by omega), Option.bind_some, steps_comm b a, if_pos rfl, pt_beq]
    have z : ((((stepsP a b : Nat) : Int) == 0) != decide (a = b)) = false := by
      rw [bne_eq_false_iff_eq, Bool.eq_iff_iff, beq_iff_eq, decide_eq_true_eq, ← steps_zero]; omega
    rw [z, if_neg (by simp), impl_PointOk_eq, Option.bind_some, show ok a.f0 a.f1 = true from ha]
    simp only [laws_FnPoints.j0]
    rw [if_neg (by simp)]
    exact law_l0 ha hb hc hd (stepsP a b + 1) 9999 0 (by omega) (by omega)
end Go.Proofs.Ytlccpkggdmngaaa.Pure
