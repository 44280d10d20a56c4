/- The law FnExactDirectionOf: both functions answer alike. No conditions. -/
import Derived.Test.YtobhabampbekcaaUFnExactDirectionOf
import Derived.Test.YtobhabampbekcaaPc
import Derived.Test.YtobhabampbekcaaPk
namespace Go.Proofs.Ytobhabampbekcaa.Pure
open Go.RowKit Go.Proofs.Ytobhabampbekcaa.G Go.Proofs.YtobhabampbekcaaW.PrintWords Go.Proofs.YtobhabampbekcaaW.PrintLast Go.Proofs.YtobhabampbekcaaW.PrintMore
set_option linter.unusedSimpArgs false
set_option linter.unusedVariables false
theorem dir_parts {X Y : Int} (h : ¬ (X = 0 ∧ Y = 0)) : ∃ x y g : Int, 0 < g ∧ (Int.gcd X Y : Int) = g ∧ X = g * x ∧ Y = g * y ∧ Int.gcd x y = 1 := by
  have hg : 0 < Int.gcd X Y := by
    rcases Nat.eq_zero_or_pos (Int.gcd X Y) with e | e
    · rw [Int.gcd_eq_zero_iff] at e; exact absurd e h
    · exact e
  obtain ⟨x, hx⟩ := Int.gcd_dvd_left (a := X) (b := Y)
  obtain ⟨y, hy⟩ := Int.gcd_dvd_right (a := X) (b := Y)
  refine ⟨x, y, (Int.gcd X Y : Int), by omega, rfl, hx, hy, ?_⟩
  have e : Int.gcd X Y = Int.gcd X Y * Int.gcd x y := by
    have : Int.gcd ((Int.gcd X Y : Int) * x) ((Int.gcd X Y : Int) * y) = Int.gcd X Y * Int.gcd x y := by
      rw [Int.gcd_mul_left]; simp
    rw [← hx, ← hy] at this; exact this
  have e2 : Int.gcd X Y * Int.gcd x y = Int.gcd X Y * 1 := by rw [Nat.mul_one]; exact e.symm
  exact Nat.eq_of_mul_eq_mul_left hg e2
theorem small_part {X g x : Int} (hg : 0 < g) (h : X = g * x) (hX : sm X) : sm x := by
  have e : X.natAbs = g.natAbs * x.natAbs := by rw [h, Int.natAbs_mul]
  have : x.natAbs ≤ g.natAbs * x.natAbs := Nat.le_mul_of_pos_left _ (by omega)
  unfold sm at *
  omega
theorem both_DirectionOf (a0 a1 b0 b1 : Int) (k : Nat) (hk : 2000 < k) : ∃ r : List Int × Bool, r.1.length ≤ 2 ∧ spec_DirectionOf.f k a0 a1 b0 b1 = some r ∧ impl_DirectionOf.f k a0 a1 b0 b1 = some r := by
  unfold spec_DirectionOf.f impl_DirectionOf.f
  simp only [spec_PointOk_eq]
  rw [impl_arePoints_eq _ (by simp) k (by simp; omega)]
  simp only [okp, Option.bind_some, List.all_cons, List.all_nil, Bool.and_true]
  by_cases h : ok a0 a1 = true
  · by_cases h2 : ok b0 b1 = true
    · have h12 : (ok a0 a1 && ok b0 b1) = true := by rw [h, h2]; rfl
      rw [if_pos h, if_pos h2, if_pos h12]
      by_cases e : (a0 == b0 && (a1 == b1)) = true
      · rw [if_pos e, if_pos e]; exact ⟨_, by simp, rfl, rfl⟩
      · rw [if_neg e, if_neg e]
        rw [ok_iff] at h h2
        have e1 : wrap64 (b0 - a0) = b0 - a0 := wrap64_id (by omega) (by omega)
        have e2 : wrap64 (b1 - a1) = b1 - a1 := wrap64_id (by omega) (by omega)
        have hne : ¬ (b0 - a0 = 0 ∧ b1 - a1 = 0) := by
          rintro ⟨p, q⟩
          exact e (by rw [show a0 = b0 by omega, show a1 = b1 by omega]; simp)
        have sX : sm (b0 - a0) := by unfold sm; omega
        have sY : sm (b1 - a1) := by unfold sm; omega
        obtain ⟨x, y, g, hg, eg, hX, hY, h1⟩ := dir_parts hne
        have sx := small_part hg hX sX
        have sy := small_part hg hY sY
        have tx : Int.tdiv (b0 - a0) g = x := by rw [hX]; exact Int.mul_tdiv_cancel_left x (by omega)
        have ty : Int.tdiv (b1 - a1) g = y := by rw [hY]; exact Int.mul_tdiv_cancel_left y (by omega)
        have wx : wrap64 x = x := by unfold sm at sx; exact wrap64_id (by omega) (by omega)
        have wy : wrap64 y = y := by unfold sm at sy; exact wrap64_id (by omega) (by omega)
        unfold spec_l07Direction.f impl_directionOf.f impl_isDirection.f
        rw [e1, e2, spec_gcd_eq sX sY k (by omega), common_eq sX sY k (by omega), eg]
        have hg0 : ¬ g = 0 := by omega
        simp only [Option.bind_some, hg0, if_false, tx, ty, wx, wy, common_eq sx sy k (by omega), h1]
        rw [if_pos (show (((1 : Nat) : Int) = 1) from rfl)]
        by_cases y0 : y < 0
        · rw [if_pos y0, if_neg (show ¬ y > 0 by omega), if_neg (show ¬ y = 0 by omega)]
          exact ⟨_, by simp, rfl, rfl⟩
        · rw [if_neg y0]
          by_cases y1 : y = 0
          · have hx : x = 1 ∨ x = -1 := by
              subst y1
              rw [Int.gcd_zero_right] at h1
              omega
            rw [if_pos y1, if_neg (show ¬ y > 0 by omega), if_pos y1]
            rcases hx with hx | hx
            · subst hx; rw [if_neg (by omega)]; exact ⟨_, by simp, rfl, rfl⟩
            · subst hx; rw [if_pos (by omega)]; exact ⟨_, by simp, rfl, rfl⟩
          · rw [if_neg y1, if_pos (show y > 0 by omega)]
            exact ⟨_, by simp, rfl, rfl⟩
    · have h12 : ¬ (ok a0 a1 && ok b0 b1) = true := by simp [h2]
      rw [if_pos h, if_neg h2, if_neg h12]; exact ⟨_, by simp, rfl, rfl⟩
  · have h12 : ¬ (ok a0 a1 && ok b0 b1) = true := by simp [h]
    rw [if_neg h, if_neg h12]; exact ⟨_, by simp, rfl, rfl⟩
theorem upD {α : Type} {f : Nat → Option α} (hm : ∀ k, LeO (f k) (f (k + 1))) {k0 : Nat} {r : α} (h0 : f k0 = some r) : ∀ k, k0 ≤ k → f k = some r := by
  intro k hk
  induction k with
  | zero => have : k0 = 0 := by omega
            subst this; exact h0
  | succ k ih =>
    by_cases e : k0 = k + 1
    · subst e; exact h0
    · exact hm k r (ih (by omega))
theorem FnExactDirectionOf : laws_FnExactDirectionOf.Pure := by
  intro a0 a1 b0 b1 _ _ _ _
  obtain ⟨r, hr, s1, s2⟩ := both_DirectionOf a0 a1 b0 b1 2001 (by omega)
  refine ⟨3003, ?_⟩
  have h1 : ∀ k, 2001 ≤ k → spec_DirectionOf.f k a0 a1 b0 b1 = some r := upD (fun k => spec_DirectionOf.mono _ _ _ _ k) s1
  have h2 : ∀ k, 2001 ≤ k → impl_DirectionOf.f k a0 a1 b0 b1 = some r := upD (fun k => impl_DirectionOf.mono _ _ _ _ k) s2
  have er : ∀ k, 2000 < k → laws_eqIntS.f k r.1 r.1 = some true := fun k hk => by rw [eqIntS_eq _ _ (by omega) _ (by omega)]; simp
  have mr : ∀ k, 2000 < k → laws_markIntS.f k r.1 1 = some (1 + (r.1.length : Int), marksI 1 r.1.length) := fun k hk => markIntS_eq _ (by omega) 1 (by omega) (by omega) k (by omega)
  have hd : ∀ k, 2000 < k → laws_heldIntS.f k (marksI 1 r.1.length) 1 = some (1 + (r.1.length : Int)) := fun k hk => heldIntS_eq _ (by omega) 1 (by omega) (by omega) k (by omega)
  have nr : (1 + (r.1.length : Int) < 0) = False := by rw [eq_iff_iff, iff_false]; omega
  unfold laws_FnExactDirectionOf.f
  simp only [laws_toPoint.f, Option.bind_some, h1 3003 (by omega), h2 3003 (by omega), er 3003 (by omega), if_true, bne_self_eq_false]
  rw [laws_FnExactDirectionOf.j0, if_neg (by simp)]
  simp only [laws_toPoint.f, Option.bind_some, mr 3002 (by omega), hd 3002 (by omega), nr, if_false, if_true, h2 3002 (by omega), er 3002 (by omega), bne_self_eq_false]
  rw [laws_FnExactDirectionOf.j1, if_neg (by simp)]
  simp only [Option.bind_some, hd 3001 (by omega), nr, if_false, if_true]
end Go.Proofs.Ytobhabampbekcaa.Pure
