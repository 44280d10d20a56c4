/- Cross products, signs, squares and segments: what the functions come to where the numbers are small. The bounds stand in each theorem. -/
import Derived.Test.YtlceoghkhgihdaaPa
import Derived.Test.YtlceoghkhgihdaaF60
import Derived.Test.YtlceoghkhgihdaaF55
import Derived.Test.YtlceoghkhgihdaaF59
import Derived.Test.YtlceoghkhgihdaaF58
import Derived.Test.YtlceoghkhgihdaaF75
import Derived.Test.YtlceoghkhgihdaaF73
namespace Go.Proofs.Ytlceoghkhgihdaa.G
open Go.RowKit Go.Proofs.YtlceoghkhgihdaaW.PrintWords Go.Proofs.YtlceoghkhgihdaaW.PrintLast Go.Proofs.YtlceoghkhgihdaaW.PrintMore
set_option linter.unusedSimpArgs false
set_option linter.unusedVariables false

theorem mul_bound {a b m n : Int} (h1 : -m ≤ a) (h2 : a ≤ m) (h3 : -n ≤ b) (h4 : b ≤ n) : -(m * n) ≤ a * b ∧ a * b ≤ m * n := by
  have e1 := Int.mul_nonneg (show 0 ≤ m - a by omega) (show 0 ≤ n + b by omega)
  have e2 := Int.mul_nonneg (show 0 ≤ m + a by omega) (show 0 ≤ n - b by omega)
  have e3 := Int.mul_nonneg (show 0 ≤ m - a by omega) (show 0 ≤ n - b by omega)
  have e4 := Int.mul_nonneg (show 0 ≤ m + a by omega) (show 0 ≤ n + b by omega)
  grind
/-- A number that is small. -/
def sm (x : Int) : Prop := -1000 ≤ x ∧ x ≤ 1000
theorem sm_ok {x y : Int} (h : ok x y = true) : sm x ∧ sm y := by
  rw [ok_iff] at h; unfold sm; omega
/-- Twice the area of a triangle. -/
def crossI (ax ay bx b_y px py : Int) : Int := (bx - ax) * (py - ay) - (b_y - ay) * (px - ax)
theorem crossI_bound {ax ay bx b_y px py : Int} (h1 : sm ax) (h2 : sm ay) (h3 : sm bx) (h4 : sm b_y) (h5 : sm px) (h6 : sm py) : -8000000 ≤ crossI ax ay bx b_y px py ∧ crossI ax ay bx b_y px py ≤ 8000000 := by
  unfold sm at *; unfold crossI
  have e1 := mul_bound (a := bx - ax) (b := py - ay) (m := 2000) (n := 2000) (by omega) (by omega) (by omega) (by omega)
  have e2 := mul_bound (a := b_y - ay) (b := px - ax) (m := 2000) (n := 2000) (by omega) (by omega) (by omega) (by omega)
  omega
theorem cross_wrap {ax ay bx b_y px py : Int} (h1 : sm ax) (h2 : sm ay) (h3 : sm bx) (h4 : sm b_y) (h5 : sm px) (h6 : sm py) :
    wrap64 ((wrap64 ((wrap64 (bx - ax)) * (wrap64 (py - ay)))) - (wrap64 ((wrap64 (b_y - ay)) * (wrap64 (px - ax))))) = crossI ax ay bx b_y px py := by
  unfold sm at *; unfold crossI
  have e1 := mul_bound (a := bx - ax) (b := py - ay) (m := 2000) (n := 2000) (by omega) (by omega) (by omega) (by omega)
  have e2 := mul_bound (a := b_y - ay) (b := px - ax) (m := 2000) (n := 2000) (by omega) (by omega) (by omega) (by omega)
  rw [wrap64_id (x := bx - ax) (by omega) (by omega), wrap64_id (x := py - ay) (by omega) (by omega), wrap64_id (x := b_y - ay) (by omega) (by omega), wrap64_id (x := px - ax) (by omega) (by omega), wrap64_id (x := (bx - ax) * (py - ay)) (by omega) (by omega), wrap64_id (x := (b_y - ay) * (px - ax)) (by omega) (by omega), wrap64_id (by omega) (by omega)]
/-- The sign of a number. -/
def sgn (n : Int) : Int := if 0 < n then 1 else if n < 0 then -1 else 0
theorem spec_cross_eq {ax ay bx b_y px py : Int} (h1 : sm ax) (h2 : sm ay) (h3 : sm bx) (h4 : sm b_y) (h5 : sm px) (h6 : sm py) : spec_l02Cross.f ax ay bx b_y px py = some (crossI ax ay bx b_y px py) := by unfold spec_l02Cross.f; rw [cross_wrap h1 h2 h3 h4 h5 h6]
theorem impl_cross_eq {ax ay bx b_y px py : Int} (h1 : sm ax) (h2 : sm ay) (h3 : sm bx) (h4 : sm b_y) (h5 : sm px) (h6 : sm py) : impl_cross.f ax ay bx b_y px py = some (crossI ax ay bx b_y px py) := by unfold impl_cross.f; rw [cross_wrap h1 h2 h3 h4 h5 h6]
theorem spec_sign_eq (n : Int) : spec_l02Sign.f n = some (sgn n) := by unfold spec_l02Sign.f sgn; by_cases h : 0 < n <;> by_cases h' : n < 0 <;> simp [h, h']
theorem impl_sign_eq (n : Int) : impl_sign.f n = some (sgn n) := by unfold impl_sign.f sgn; by_cases h : 0 < n <;> by_cases h' : n < 0 <;> simp [h, h']
/-- p is on the segment from a to b. -/
def onI (ax ay bx b_y px py : Int) : Bool := decide (crossI ax ay bx b_y px py = 0) && decide (mn ax bx ≤ px) && decide (px ≤ mx ax bx) && decide (mn ay b_y ≤ py) && decide (py ≤ mx ay b_y)
theorem spec_on_eq {ax ay bx b_y px py : Int} (h1 : sm ax) (h2 : sm ay) (h3 : sm bx) (h4 : sm b_y) (h5 : sm px) (h6 : sm py) : spec_l02On.f ax ay bx b_y px py = some (onI ax ay bx b_y px py) := by unfold spec_l02On.f onI; rw [spec_cross_eq h1 h2 h3 h4 h5 h6, Option.bind_some]; by_cases h : crossI ax ay bx b_y px py = 0 <;> by_cases h' : mn ax bx ≤ px <;> by_cases g : px ≤ mx ax bx <;> by_cases g' : mn ay b_y ≤ py <;> simp [h, h', g, g']
theorem impl_on_eq {ax ay bx b_y px py : Int} (h1 : sm ax) (h2 : sm ay) (h3 : sm bx) (h4 : sm b_y) (h5 : sm px) (h6 : sm py) : impl_isOn.f ax ay bx b_y px py = some (onI ax ay bx b_y px py) := by unfold impl_isOn.f impl_within.f onI; rw [impl_cross_eq h1 h2 h3 h4 h5 h6, Option.bind_some]; by_cases h : crossI ax ay bx b_y px py = 0 <;> by_cases h' : mn ax bx ≤ px <;> by_cases g : px ≤ mx ax bx <;> by_cases g' : mn ay b_y ≤ py <;> simp [h, h', g, g']
end Go.Proofs.Ytlceoghkhgihdaa.G
