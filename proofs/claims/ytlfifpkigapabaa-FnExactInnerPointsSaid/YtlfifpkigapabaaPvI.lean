/- The points inside of a polygon: the program's number (by the area and the sides) and the reference's (counted) are one. The bounds stand in each theorem. -/
import Derived.Test.YtlfifpkigapabaaPA
import Derived.Test.YtlfifpkigapabaaPvj
import Derived.Test.YtlfifpkigapabaaPcc
import Derived.Test.YtlfifpkigapabaaF35
import Derived.Test.YtlfifpkigapabaaF34
import Derived.Test.YtlfifpkigapabaaF36
import Derived.Test.YtlfifpkigapabaaF15
namespace Go.Proofs.Ytlfifpkigapabaa.G
open Go.RowKit Go.Proofs.YtlfifpkigapabaaW.PrintWords Go.Proofs.YtlfifpkigapabaaW.PrintLast Go.Proofs.YtlfifpkigapabaaW.PrintMore
set_option linter.unusedSimpArgs false
set_option linter.unusedVariables false
theorem gcd_flipV (a b c d : Int) : Int.gcd (a - b) (c - d) = Int.gcd (b - a) (d - c) := by
  rw [← Int.neg_sub b a, ← Int.neg_sub d c]; simp
theorem gcd_leV (a b : Int) : Int.gcd a b ≤ a.natAbs + b.natAbs := by
  unfold Int.gcd
  by_cases h : a.natAbs = 0
  · rw [h, Nat.gcd_zero_left]; omega
  · have := Nat.gcd_le_left b.natAbs (show 0 < a.natAbs by omega)
    omega
theorem rimN_bound {l : List Pt} (hok : ∀ p ∈ l, okp p = true) (h0 : 0 < l.length) : ∀ i : Nat, 0 ≤ rimN l i ∧ rimN l i ≤ 100 * (i : Int)
  | 0 => by simp [rimN]
  | i + 1 => by
    have := rimN_bound hok h0 i
    have h1 := pt_ok hok h0 i
    have h2 := pt_ok hok h0 (i + 1)
    have g := gcd_leV ((pt l (i + 1)).f0 - (pt l i).f0) ((pt l (i + 1)).f1 - (pt l i).f1)
    simp only [rimN]
    omega
theorem impl_stepsV {l : List Pt} (hok : ∀ p ∈ l, okp p = true) (h0 : 0 < l.length) (i k : Nat) (hk : 1000 < k) : impl_StepsOf.f k (pt l i).f0 (pt l i).f1 (pt l (i + 1)).f0 (pt l (i + 1)).f1 = some (Int.gcd ((pt l (i + 1)).f0 - (pt l i).f0) ((pt l (i + 1)).f1 - (pt l i).f1) : Int) := by
  have h1 := pt_ok hok h0 i
  have h2 := pt_ok hok h0 (i + 1)
  have hm1 := hok _ (pt_mem l i h0)
  have hm2 := hok _ (pt_mem l (i + 1) h0)
  unfold impl_StepsOf.f
  rw [impl_arePoints_eq _ (by simp) k (by simp; omega)]
  have e : List.all [(⟨(pt l i).f0, (pt l i).f1⟩ : Pt), ⟨(pt l (i + 1)).f0, (pt l (i + 1)).f1⟩] G.okp = true := by
    simp only [List.all_cons, List.all_nil, Bool.and_true]
    rw [Bool.and_eq_true]; exact ⟨hm1, hm2⟩
  rw [e, Option.bind_some, if_pos rfl, wrap64_id (by omega) (by omega), wrap64_id (by omega) (by omega), common_eq (by unfold sm; omega) (by unfold sm; omega) k hk, gcd_flipV]; rfl
theorem impl_rimV_l0 {l : List Pt} (hok : ∀ p ∈ l, okp p = true) (hn : l.length ≤ 1000000) (h0 : 0 < l.length) (d : Nat) : ∀ (k i : Nat), i + d = l.length → 1000 + d < k → impl_RimPoints.l0 k l (rimN l i) l (l.length : Int) (i : Int) = some (rimN l l.length) := by
  induction d with
  | zero =>
    intro k i hi hk
    obtain ⟨k, rfl⟩ : ∃ m, k = m + 1 := ⟨k - 1, by omega⟩
    obtain rfl : i = l.length := by omega
    simp only [impl_RimPoints.l0]; rw [if_neg (by omega)]
  | succ d ih =>
    intro k i hi hk
    obtain ⟨k, rfl⟩ : ∃ m, k = m + 1 := ⟨k - 1, by omega⟩
    have wi : wrap64 ((i : Int) + 1) = ((i + 1 : Nat) : Int) := by rw [wrap64_id (by omega) (by omega)]; rfl
    have li := Nat.mod_lt (i + 1) h0
    have b := rimN_bound hok h0 (i + 1)
    simp only [impl_RimPoints.l0]
    rw [wi, tmod_at, rd_mod l (i + 1) h0, rd_pt l i (by omega), if_pos (by omega), if_pos (by omega), if_pos (by omega), if_neg (by omega), if_pos (by omega), if_pos (by omega)]
    rw [impl_stepsV hok h0 i k (by omega), Option.bind_some]
    rw [show rimN l i + (Int.gcd ((pt l (i + 1)).f0 - (pt l i).f0) ((pt l (i + 1)).f1 - (pt l i).f1) : Int) = rimN l (i + 1) from rfl, wrap64_id (by omega) (by omega)]
    exact ih k (i + 1) (by omega) (by omega)
theorem impl_rimV {l : List Pt} (hp : Poly l) (k : Nat) (hk : 1100 < k) : impl_RimPoints.f k l = some (rimN l l.length) := by
  have h3 := hp.n3
  have h10 := hp.n10
  unfold impl_RimPoints.f
  rw [impl_PolygonOk_some, Option.bind_some, if_pos ((impl_ok_iff _).2 hp)]
  exact impl_rimV_l0 hp.okp (by omega) (by omega) l.length k 0 (by omega) (by omega)
theorem impl_twV_l0 {l : List Pt} (hok : ∀ p ∈ l, okp p = true) (hn : l.length ≤ 1000000) (h0 : 0 < l.length) (d : Nat) : ∀ (k i : Nat), i + d = l.length → d < k → impl_twice.l0 k l (twS l i) l (l.length : Int) (i : Int) = some (twS l l.length) := by
  induction d with
  | zero =>
    intro k i hi hk
    obtain ⟨k, rfl⟩ : ∃ m, k = m + 1 := ⟨k - 1, by omega⟩
    obtain rfl : i = l.length := by omega
    simp only [impl_twice.l0]; rw [if_neg (by omega)]
  | succ d ih =>
    intro k i hi hk
    obtain ⟨k, rfl⟩ : ∃ m, k = m + 1 := ⟨k - 1, by omega⟩
    have wi : wrap64 ((i : Int) + 1) = ((i + 1 : Nat) : Int) := by rw [wrap64_id (by omega) (by omega)]; rfl
    have li := Nat.mod_lt (i + 1) h0
    have b1 := tw_parts hok h0 i
    have b2 := twS_bound hok h0 i
    simp only [impl_twice.l0]
    rw [wi, tmod_at, rd_mod l (i + 1) h0, rd_pt l i (by omega), if_pos (by omega), if_pos (by omega), if_pos (by omega), if_neg (by omega), if_pos (by omega), if_pos (by omega)]
    rw [wrap64_id (x := (pt l i).f0 * (pt l (i + 1)).f1) (by omega) (by omega), wrap64_id (x := (pt l i).f1 * (pt l (i + 1)).f0) (by omega) (by omega), wrap64_id (x := (pt l i).f0 * (pt l (i + 1)).f1 - (pt l i).f1 * (pt l (i + 1)).f0) (by omega) (by omega), wrap64_id (by omega) (by omega)]
    exact ih k (i + 1) (by omega) (by omega)
theorem impl_twV {l : List Pt} (hp : Poly l) (k : Nat) (hk : 11 < k) : impl_twice.f k l = some (twS l l.length) := by
  have := hp.n3; have := hp.n10
  unfold impl_twice.f; exact impl_twV_l0 hp.okp (by omega) (by omega) l.length k 0 (by omega) (by omega)
/-- The program's number. -/
theorem impl_inner {l : List Pt} (hp : Poly l) {X Y : Int} {w h : Nat} (hx : ∀ j, X ≤ (pt l j).f0 ∧ (pt l j).f0 < X + w) (hy : ∀ j, Y ≤ (pt l j).f1 ∧ (pt l j).f1 < Y + h) (k : Nat) (hk : 1100 < k) : impl_InnerPoints.f k l = some (innerN l X Y w h) := by
  have h3 := hp.n3
  have h10 := hp.n10
  have pk := pick_poly hp hx hy
  have b1 := twS_bound hp.okp (by omega) l.length
  have b2 := rimN_bound hp.okp (by omega) l.length
  unfold impl_InnerPoints.f
  rw [impl_PolygonOk_some, Option.bind_some, if_pos ((impl_ok_iff _).2 hp), impl_twV hp k (by omega), Option.bind_some]
  unfold impl_size.f
  rw [Option.bind_some, impl_rimV hp k hk, Option.bind_some]
  have m : mx (twS l l.length) (wrap64 (-twS l l.length)) = ((twS l l.length).natAbs : Int) := by
    rw [wrap64_id (by omega) (by omega)]; unfold mx; omega
  rw [m, pk, wrap64_id (x := 2 * innerN l X Y w h + rimN l l.length - 2 - rimN l l.length) (by omega) (by omega)]
  rw [wrap64_id (x := 2 * innerN l X Y w h + rimN l l.length - 2 - rimN l l.length + 2) (by omega) (by omega)]
  rw [show 2 * innerN l X Y w h + rimN l l.length - 2 - rimN l l.length + 2 = innerN l X Y w h * 2 by omega]
  rw [Int.mul_tdiv_cancel _ (by omega), wrap64_id (by omega) (by omega)]
/-- A box around all corners. -/
theorem box_all {l : List Pt} (hok : ∀ p ∈ l, okp p = true) (h0 : 0 < l.length) : (∀ j, (0 : Int) ≤ (pt l j).f0 ∧ (pt l j).f0 < 0 + (41 : Nat)) ∧ (∀ j, (0 : Int) ≤ (pt l j).f1 ∧ (pt l j).f1 < 0 + (41 : Nat)) :=
  ⟨fun j => by have := pt_ok hok h0 j; omega, fun j => by have := pt_ok hok h0 j; omega⟩
end Go.Proofs.Ytlfifpkigapabaa.G
