/- HullOf: the reference and the program, for every list of points. The bounds stand in each theorem. -/
import Derived.Test.YtbhnmofbbnimaaaPhx
namespace Go.Proofs.Ytbhnmofbbnimaaa.G
open Go.RowKit Go.Proofs.YtbhnmofbbnimaaaW.PrintWords Go.Proofs.YtbhnmofbbnimaaaW.PrintLast Go.Proofs.YtbhnmofbbnimaaaW.PrintMore
set_option linter.unusedSimpArgs false
set_option linter.unusedVariables false
theorem good_mem {S T : List Pt} (hm : ∀ y, y ∈ S ↔ y ∈ T) {u v : Pt} (h : Good S u v) : Good T u v :=
  ⟨(hm v).1 h.1, h.2.1, fun y hy => h.2.2 y ((hm y).2 hy)⟩
theorem path_mem {S T : List Pt} (hm : ∀ y, y ∈ S ↔ y ∈ T) {f : Pt} : ∀ {l : List Pt} {u : Pt}, Path S f u l → Path T f u l
  | [], u, h => good_mem hm h
  | v :: r, u, h => ⟨good_mem hm h.1, h.2.1, path_mem hm h.2.2⟩
theorem first_unique {l : List Pt} {f g : Pt} (hf : f ∈ l) (hg : g ∈ l) (h1 : ∀ y ∈ l, beq' f y) (h2 : ∀ y ∈ l, beq' g y) : f = g := by
  rcases h1 g hg with h | h
  · exact h
  · exact absurd (beq'_bef (h2 f hf) h) (bef_irrefl g)
theorem up_fuel {α : Type} {f : Nat → Option α} (hm : ∀ k, LeO (f k) (f (k + 1))) {k0 : Nat} {r : α} (h0 : f k0 = some r) : ∀ k, k0 ≤ k → f k = some r := by
  intro k hk
  induction k with
  | zero => have : k0 = 0 := by omega
            subst this; exact h0
  | succ k ih =>
    by_cases e : k0 = k + 1
    · subst e; exact h0
    · exact hm k r (ih (by omega))
theorem hullC_small {s : List Pt} (h : s.length ≤ 30) : (hullC s).length ≤ 60 := by
  have l1 := chainC_len s []
  have l2 := chainC_len s.reverse []
  have q1 : (chainC s).length ≤ s.length := by unfold chainC; simpa using l1
  have q2 : (chainC s.reverse).length ≤ s.length := by unfold chainC; simpa using l2
  unfold hullC; simp only [List.length_append, List.length_reverse, List.length_tail]; omega
theorem spec_in_10 (n : Nat) : spec_l01In.f (n : Int) 3 10 = some (decide (3 ≤ n) && decide (n ≤ 10)) := by
  unfold spec_l01In.f
  by_cases h : 3 ≤ n
  · have a : (n : Int) ≥ 3 := by omega
    by_cases h' : n ≤ 10
    · have b : (n : Int) ≤ 10 := by omega
      simp [h, h', a, b]
    · have b : ¬ (n : Int) ≤ 10 := by omega
      simp [h, h', a, b]
  · have a : ¬ (n : Int) ≥ 3 := by omega
    simp [h, a]
theorem crossP_ff (a b : Pt) : crossP a a b = 0 := by unfold crossP crossI; grind
/-- Fewer than three points are in a line. -/
theorem flat_small {s : List Pt} {f : Pt} (hs : s.length < 3) (hf : f ∈ s) : ∀ a ∈ s, ∀ b ∈ s, crossP f a b = 0 := by
  have key : ∀ a ∈ s, ∀ b ∈ s, f = a ∨ f = b ∨ a = b := by
    intro a ha b hb
    match s, hs, hf, ha, hb with
    | [], _, hf, _, _ => simp at hf
    | [x], _, hf, ha, _ => simp at hf ha; exact Or.inl (hf.trans ha.symm)
    | [x, y], _, hf, ha, hb =>
      simp at hf ha hb
      rcases hf with h | h <;> rcases ha with h' | h' <;> rcases hb with h'' | h'' <;> subst h <;> first | exact Or.inl h'.symm | exact Or.inr (Or.inl h''.symm) | exact Or.inr (Or.inr (h'.trans h''.symm))
  intro a ha b hb
  rcases key a ha b hb with h | h | h
  · subst h; exact crossP_ff _ _
  · subst h; exact crossP_aa _ _
  · subst h; exact crossP_bb _ _
theorem small_of_small {s l : List Pt} (hs : Sorted' s) (hm : ∀ y ∈ s, y ∈ l) (h : l.length < 3) : s.length < 3 := by
  rcases Nat.lt_or_ge s.length 3 with g | g
  · exact g
  · exfalso
    match s, g, hs, hm with
    | a :: b :: c :: r, _, hs, hm =>
      have ha := hm a (by simp)
      have hb := hm b (by simp)
      have hc := hm c (by simp)
      have ab : a ≠ b := fun e => bef_irrefl a (by have := hs.1 b (by simp); rw [← e] at this; exact this)
      have ac : a ≠ c := fun e => bef_irrefl a (by have := hs.1 c (by simp); rw [← e] at this; exact this)
      have bc : b ≠ c := fun e => bef_irrefl b (by have := hs.2.1 c (by simp); rw [← e] at this; exact this)
      match l, h, ha, hb, hc with
      | [], _, ha, _, _ => simp at ha
      | [x], _, ha, hb, _ => simp at ha hb; exact ab (ha.trans hb.symm)
      | [x, y], _, ha, hb, hc =>
        simp at ha hb hc
        rcases ha with ha | ha <;> rcases hb with hb | hb <;> rcases hc with hc | hc <;> first | exact ab (ha.trans hb.symm) | exact ac (ha.trans hc.symm) | exact bc (hb.trans hc.symm)
/-- What both come to. -/
def hullR (s : List Pt) : List Pt × Bool := if 3 ≤ (if s.length < 3 then [] else hullC s).length ∧ (if s.length < 3 then [] else hullC s).length ≤ 10 then (if s.length < 3 then [] else hullC s, true) else ([], false)
theorem impl_hull_walk {l s : List Pt} (hok : ∀ p ∈ l, okp p = true) (hn : l.length ≤ 30) (h3 : 3 ≤ l.length) (hs : Sorted' s) (hm : ∀ y, y ∈ s ↔ y ∈ l) (hsl : s.length ≤ 30) : impl_HullOf.f 1000000 l = some (hullR s) := by
  have h0 : 0 < l.length := by omega
  obtain ⟨f, hf, hmin, e1⟩ := hull_first hn true (999998 - l.length) l.length 0 (l[0]'h0) (by omega) (List.getElem_mem h0) (fun y hy => by simp at hy)
  obtain ⟨k', hk', e2⟩ := hull_flat1 hok hn (hok f hf) l.length (999998 - l.length) 0 true (by omega) (by omega)
  have im : impl_HullOf.f 1000000 l = if (l.all fun a => l.all fun y => decide (crossP f a y = 0)) = true then some ([], false) else impl_HullOf.l3 k' l [f] f.f0 f.f1 := by
    have hall : l.all okp = true := by simpa using hok
    have j : impl_HullOf.j0 1000000 l (!true) = impl_HullOf.l0 999999 l true l (l.length : Int) 0 (rd_T44 l 0).f0 (rd_T44 l 0).f1 := by
      obtain ⟨K, hK⟩ : ∃ K, K = 999999 := ⟨_, rfl⟩
      rw [show (1000000 : Nat) = K + 1 by omega, ← hK]
      simp only [impl_HullOf.j0]
      rw [if_neg (by decide), if_pos (by omega)]
    have g0 : rd_T44 l 0 = l[0]'h0 := rdS l 0 h0
    unfold impl_HullOf.f
    rw [if_neg (by omega), if_neg (by omega), impl_arePoints_eq _ (by omega) _ (by omega), Option.bind_some, hall, j, g0]
    rw [show 999998 - l.length + l.length + 1 = 999999 by omega] at e1
    rw [show ((0 : Nat) : Int) = 0 from rfl] at e1 e2
    rw [e1, e2]; simp
  rw [im]
  by_cases hs3 : s.length < 3
  · have hfl : (l.all fun a => l.all fun y => decide (crossP f a y = 0)) = true := by
      rw [List.all_eq_true]; intro a ha
      rw [List.all_eq_true]; intro b hb
      rw [decide_eq_true_eq]
      exact flat_small hs3 ((hm f).2 hf) a ((hm a).2 ha) b ((hm b).2 hb)
    rw [if_pos hfl]; unfold hullR; rw [if_pos hs3]; simp
  · obtain ⟨f', rest, hh, hf', hmin', hp, hflat⟩ := hullC_path hs (by omega)
    have : f' = f := first_unique ((hm f').1 hf') hf (fun y hy => hmin' y ((hm y).2 hy)) hmin
    subst this
    have hsmall := hullC_small hsl
    have key : (l.all fun a => l.all fun y => decide (crossP f' a y = 0)) = true ↔ (hullC s).length < 3 := by
      rw [← hflat, List.all_eq_true]
      constructor
      · intro h a ha b hb
        have := h a ((hm a).1 ha)
        rw [List.all_eq_true] at this
        simpa using this b ((hm b).1 hb)
      · intro h a ha
        rw [List.all_eq_true]; intro b hb
        simpa using h a ((hm a).2 ha) b ((hm b).2 hb)
    unfold hullR
    rw [if_neg hs3]
    by_cases hfl : (hullC s).length < 3
    · rw [if_pos (key.2 hfl), if_neg (by omega)]
    · rw [if_neg (fun h => hfl (key.1 h))]
      have hr : rest.length ≤ 60 := by rw [hh] at hsmall; simp at hsmall; omega
      have := hull_walk hok hn hf rest f' [] k' (path_mem hm hp) hf (by omega) (by simp; omega)
      rw [List.nil_append, List.nil_append] at this
      rw [this, ← hh]
      by_cases h10 : (hullC s).length > 10
      · rw [if_pos h10, if_neg (by omega)]
      · rw [if_neg h10, if_pos ⟨by omega, by omega⟩]
theorem hull_at (l : List Pt) : ∃ r : List Pt × Bool, r.1.length ≤ 10 ∧ spec_HullOf.f 1000000 l = some r ∧ impl_HullOf.f 1000000 l = some r := by
  have j0t : impl_HullOf.j0 1000000 l true = some ([], false) := by
    obtain ⟨K, hK⟩ : ∃ K, K = 999999 := ⟨_, rfl⟩
    rw [show (1000000 : Nat) = K + 1 by omega]
    simp only [impl_HullOf.j0]; rfl
  by_cases hbig : l.length > 30
  · refine ⟨([], false), by simp, ?_, ?_⟩
    · unfold spec_HullOf.f; rw [if_pos (by omega)]
    · unfold impl_HullOf.f; rw [if_neg (by omega), if_pos (by omega), j0t]
  · have hn : l.length ≤ 30 := by omega
    by_cases hall : l.all okp = true
    · have hok : ∀ p ∈ l, okp p = true := by simpa using hall
      obtain ⟨s, hs, hm, hsl, h4⟩ := spec_hull_eq hok hn 3001 (by omega)
      have hsp : ∀ k, 3000 < k → spec_l04Hull.f k l = some (if s.length < 3 then [] else hullC s) := fun k hk => up_fuel (fun k => spec_l04Hull.mono _ k) h4 k (by omega)
      refine ⟨hullR s, ?_, ?_, ?_⟩
      · unfold hullR
        by_cases c : 3 ≤ (if s.length < 3 then [] else hullC s).length ∧ (if s.length < 3 then [] else hullC s).length ≤ 10
        · rw [if_pos c]; exact c.2
        · rw [if_neg c]; simp
      · have := spec_HullOf_l0 hn 3001 (by omega) (hullR s) (fun k hk => by
          rw [hsp k hk, Option.bind_some, spec_in_10, Option.bind_some]
          unfold hullR
          by_cases a : 3 ≤ (if s.length < 3 then [] else hullC s).length <;> by_cases b : (if s.length < 3 then [] else hullC s).length ≤ 10 <;> simp [a, b]) l.length 999999 0 (by omega) (by omega)
        unfold spec_HullOf.f
        rw [if_neg (by omega)]
        rw [List.drop_zero, if_pos hall] at this
        exact this
      · by_cases h3 : l.length < 3
        · have hs3 := small_of_small hs (fun y hy => (hm y).1 hy) h3
          unfold impl_HullOf.f; rw [if_pos (by omega), j0t]; unfold hullR; rw [if_pos hs3]; simp
        · exact impl_hull_walk hok hn (by omega) hs hm hsl
    · refine ⟨([], false), by simp, ?_, ?_⟩
      · have key : ∀ (d i k : Nat), i + d = l.length → d < k → (l.drop i).all okp ≠ true → spec_HullOf.l0 k l l (l.length : Int) (i : Int) = some ([], false) := by
          intro d
          induction d with
          | zero => intro i k h hk hd; rw [List.drop_of_length_le (by omega)] at hd; simp at hd
          | succ d ih =>
            intro i k h hk hd
            obtain ⟨k, rfl⟩ : ∃ m, k = m + 1 := ⟨k - 1, by omega⟩
            have hi : i < l.length := by omega
            simp only [spec_HullOf.l0]
            rw [if_pos (by omega), if_pos (by omega), if_pos (by omega), rdS l i hi, spec_PointOk_eq, Option.bind_some, wrap64_id (by omega) (by omega)]
            rw [List.drop_eq_getElem_cons hi, List.all_cons] at hd
            by_cases h1 : ok l[i].f0 l[i].f1 = true
            · rw [if_pos h1]
              have := ih (i + 1) k (by omega) (by omega) (fun e => hd (by rw [e]; simp [okp, h1]))
              push_cast at this
              exact this
            · rw [if_neg h1]
        unfold spec_HullOf.f
        rw [if_neg (by omega)]
        exact key l.length 0 1000000 (by omega) (by omega) (by rw [List.drop_zero]; exact hall)
      · unfold impl_HullOf.f
        by_cases h3 : l.length < 3
        · rw [if_pos (by omega), j0t]
        · rw [if_neg (by omega), if_neg (by omega), impl_arePoints_eq _ (by omega) _ (by omega), Option.bind_some]
          have : l.all okp = false := by simpa using hall
          rw [this]; exact j0t
theorem all_HullOf (l : List Pt) (hl : l.length ≤ 1048576) : ∃ r : List Pt × Bool, r.1.length ≤ 2000 ∧ ∀ k, 1000000 ≤ k → spec_HullOf.f k l = some r ∧ impl_HullOf.f k l = some r := by
  obtain ⟨r, h0, h1, h2⟩ := hull_at l
  exact ⟨r, by omega, fun k hk => ⟨up_fuel (fun k => spec_HullOf.mono _ k) h1 k hk, up_fuel (fun k => impl_HullOf.mono _ k) h2 k hk⟩⟩
end Go.Proofs.Ytbhnmofbbnimaaa.G
