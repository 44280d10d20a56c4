/- A Go function as a plain Lean function, and the proof that Go's call comes to its answer. No conditions but those in the theorem. Written by gen.py (a program of this session over the kit's print). -/
-- SHRUNK by pack.py
import Derived.Test.YtbhnmofbbnimaaaG0
import Derived.Test.YtbhnmofbbnimaaaE44
import Derived.Test.YtbhnmofbbnimaaaFA
import Derived.Test.YtbhnmofbbnimaaaF49
import Derived.Test.YtbhnmofbbnimaaaF51
namespace Go.Proofs.Ytbhnmofbbnimaaa.G
open Go.RowKit Go.Proofs.YtbhnmofbbnimaaaW.PrintWords Go.Proofs.YtbhnmofbbnimaaaW.PrintLast Go.Proofs.YtbhnmofbbnimaaaW.PrintMore Go.Proofs.YtbhnmofbbnimaaaW.PrintBits
attribute [local go_sem] max2_int min2_int max_two min_two max_three min_three max_four min_four   -- for this text's walks alone
set_option linter.unusedVariables false
set_option linter.unusedSimpArgs false

attribute [local go_sem high] eqA44
/-! ### impl_HullOf: function 18 -/
mutual
def impl_HullOf.j0 : Nat → List (S44) → Bool → Option ((List (S44)) × Bool)
 | 0, _, _ => none
 | k + 1, x0, x30 => if x30 = true then (some (([] : List (S44)), false)) else (if 0 < (x0.length : Int) then (impl_HullOf.l0 k x0 true x0 (x0.length : Int) 0 ((rd_T44 x0 0).f0) ((rd_T44 x0 0).f1)) else (none))
def impl_HullOf.l0 : Nat → List (S44) → Bool → List (S44) → Int → Int → Int → Int → Option ((List (S44)) × Bool)
 | 0, _, _, _, _, _, _, _ => none
 | k + 1, x0, x5, x34, x35, x36, x104000, x104001 => if x36 < x35 then (if 0 ≤ x36 then (if x36 < (x34.length : Int) then ((impl_BeforePoint.f ((rd_T44 x34 x36).f0) ((rd_T44 x34 x36).f1) x104000 x104001).bind fun t106 => (if t106 = true then (impl_HullOf.l0 k x0 x5 x34 x35 (wrap64 (x36 + 1)) ((rd_T44 x34 x36).f0) ((rd_T44 x34 x36).f1)) else (impl_HullOf.l0 k x0 x5 x34 x35 (wrap64 (x36 + 1)) x104000 x104001))) else (none)) else (none)) else (impl_HullOf.l1 k x0 x5 x0 (x0.length : Int) 0 x104000 x104001)
def impl_HullOf.l1 : Nat → List (S44) → Bool → List (S44) → Int → Int → Int → Int → Option ((List (S44)) × Bool)
 | 0, _, _, _, _, _, _, _ => none
 | k + 1, x0, x5, x45, x46, x47, x104000, x104001 => if x47 < x46 then (if 0 ≤ x47 then (if x47 < (x45.length : Int) then (impl_HullOf.l2 k x0 x5 x45 x46 x47 x0 (x0.length : Int) 0 x104000 x104001 ((rd_T44 x45 x47).f0) ((rd_T44 x45 x47).f1)) else (none)) else (none)) else (if x5 = true then (some (([] : List (S44)), false)) else (impl_HullOf.l3 k x0 (([(⟨x104000, x104001⟩ : S44)] : List (S44))) x104000 x104001))
def impl_HullOf.l2 : Nat → List (S44) → Bool → List (S44) → Int → Int → List (S44) → Int → Int → Int → Int → Int → Int → Option ((List (S44)) × Bool)
 | 0, _, _, _, _, _, _, _, _, _, _, _, _ => none
 | k + 1, x0, x5, x45, x46, x47, x51, x52, x53, x104000, x104001, x109000, x109001 => if x53 < x52 then (if 0 ≤ x53 then (if x53 < (x51.length : Int) then (if x5 = true then ((impl_cross.f x104000 x104001 x109000 x109001 ((rd_T44 x51 x53).f0) ((rd_T44 x51 x53).f1)).bind fun t111 => (impl_HullOf.l2 k x0 (t111 == 0) x45 x46 x47 x51 x52 (wrap64 (x53 + 1)) x104000 x104001 x109000 x109001)) else (impl_HullOf.l2 k x0 false x45 x46 x47 x51 x52 (wrap64 (x53 + 1)) x104000 x104001 x109000 x109001)) else (none)) else (none)) else (impl_HullOf.l1 k x0 x5 x45 x46 (wrap64 (x47 + 1)) x104000 x104001)
def impl_HullOf.l3 : Nat → List (S44) → List (S44) → Int → Int → Option ((List (S44)) × Bool)
 | 0, _, _, _, _ => none
 | k + 1, x0, x12, x104000, x104001 => if 0 ≤ (wrap64 ((x12.length : Int) - 1)) then (if (wrap64 ((x12.length : Int) - 1)) < (x12.length : Int) then (impl_HullOf.l4 k x0 x12 x0 (x0.length : Int) 0 x104000 x104001 ((rd_T44 x12 (wrap64 ((x12.length : Int) - 1))).f0) ((rd_T44 x12 (wrap64 ((x12.length : Int) - 1))).f1) ((rd_T44 x12 (wrap64 ((x12.length : Int) - 1))).f0) ((rd_T44 x12 (wrap64 ((x12.length : Int) - 1))).f1)) else (none)) else (none)
def impl_HullOf.l4 : Nat → List (S44) → List (S44) → List (S44) → Int → Int → Int → Int → Int → Int → Int → Int → Option ((List (S44)) × Bool)
 | 0, _, _, _, _, _, _, _, _, _, _, _ => none
 | k + 1, x0, x12, x77, x78, x79, x104000, x104001, x117000, x117001, x118000, x118001 => if x79 < x78 then (if 0 ≤ x79 then (if x79 < (x77.length : Int) then (if (((rd_T44 x77 x79).f0) == x117000 && (((rd_T44 x77 x79).f1) == x117001)) = true then (impl_HullOf.l4 k x0 x12 x77 x78 (wrap64 (x79 + 1)) x104000 x104001 x117000 x117001 x118000 x118001) else (if (!(x118000 == x117000) || (!(x118001 == x117001))) = true then ((impl_cross.f x117000 x117001 x118000 x118001 ((rd_T44 x77 x79).f0) ((rd_T44 x77 x79).f1)).bind fun t123 => (impl_HullOf.j6 k x0 x12 t123 x77 x78 x79 x104000 x104001 x117000 x117001 x118000 x118001 ((rd_T44 x77 x79).f0) ((rd_T44 x77 x79).f1))) else (impl_HullOf.j6 k x0 x12 0 x77 x78 x79 x104000 x104001 x117000 x117001 x118000 x118001 ((rd_T44 x77 x79).f0) ((rd_T44 x77 x79).f1)))) else (none)) else (none)) else (if (x118000 == x104000 && (x118001 == x104001)) = true then (if (x12.length : Int) > 10 then (some (([] : List (S44)), false)) else (some (x12, true))) else (if x12.length < 8796093022208 then (impl_HullOf.l3 k x0 (x12 ++ [(⟨x118000, x118001⟩ : S44)]) x104000 x104001) else (none)))
def impl_HullOf.j6 : Nat → List (S44) → List (S44) → Int → List (S44) → Int → Int → Int → Int → Int → Int → Int → Int → Int → Int → Option ((List (S44)) × Bool)
 | 0, _, _, _, _, _, _, _, _, _, _, _, _, _, _ => none
 | k + 1, x0, x12, x17, x77, x78, x79, x104000, x104001, x117000, x117001, x118000, x118001, x123000, x123001 => if (x118000 == x117000 && (x118001 == x117001)) = true then (impl_HullOf.l4 k x0 x12 x77 x78 (wrap64 (x79 + 1)) x104000 x104001 x117000 x117001 x123000 x123001) else (if x17 < 0 then (impl_HullOf.l4 k x0 x12 x77 x78 (wrap64 (x79 + 1)) x104000 x104001 x117000 x117001 x123000 x123001) else (if x17 = 0 then ((impl_square.f x117000 x117001 x123000 x123001).bind fun t124 => ((impl_square.f x117000 x117001 x118000 x118001).bind fun t125 => (if t124 > t125 then (impl_HullOf.l4 k x0 x12 x77 x78 (wrap64 (x79 + 1)) x104000 x104001 x117000 x117001 x123000 x123001) else (impl_HullOf.l4 k x0 x12 x77 x78 (wrap64 (x79 + 1)) x104000 x104001 x117000 x117001 x118000 x118001)))) else (impl_HullOf.l4 k x0 x12 x77 x78 (wrap64 (x79 + 1)) x104000 x104001 x117000 x117001 x118000 x118001)))
end
def impl_HullOf.f (k : Nat) (l0 : List (S44)) : Option ((List (S44)) × Bool) := if (l0.length : Int) < 3 then (impl_HullOf.j0 k l0 true) else (if (l0.length : Int) > 30 then (impl_HullOf.j0 k l0 true) else ((impl_arePoints.f k l0).bind fun t101 => (impl_HullOf.j0 k l0 (!t101))))
theorem impl_HullOf.mono_l : ∀ k, (∀ y0 y1, LeO (impl_HullOf.j0 k y0 y1) (impl_HullOf.j0 (k + 1) y0 y1)) ∧ (∀ y0 y1 y2 y3 y4 y5 y6, LeO (impl_HullOf.l0 k y0 y1 y2 y3 y4 y5 y6) (impl_HullOf.l0 (k + 1) y0 y1 y2 y3 y4 y5 y6)) ∧ (∀ y0 y1 y2 y3 y4 y5 y6, LeO (impl_HullOf.l1 k y0 y1 y2 y3 y4 y5 y6) (impl_HullOf.l1 (k + 1) y0 y1 y2 y3 y4 y5 y6)) ∧ (∀ y0 y1 y2 y3 y4 y5 y6 y7 y8 y9 y10 y11, LeO (impl_HullOf.l2 k y0 y1 y2 y3 y4 y5 y6 y7 y8 y9 y10 y11) (impl_HullOf.l2 (k + 1) y0 y1 y2 y3 y4 y5 y6 y7 y8 y9 y10 y11)) ∧ (∀ y0 y1 y2 y3, LeO (impl_HullOf.l3 k y0 y1 y2 y3) (impl_HullOf.l3 (k + 1) y0 y1 y2 y3)) ∧ (∀ y0 y1 y2 y3 y4 y5 y6 y7 y8 y9 y10, LeO (impl_HullOf.l4 k y0 y1 y2 y3 y4 y5 y6 y7 y8 y9 y10) (impl_HullOf.l4 (k + 1) y0 y1 y2 y3 y4 y5 y6 y7 y8 y9 y10)) ∧ (∀ y0 y1 y2 y3 y4 y5 y6 y7 y8 y9 y10 y11 y12 y13, LeO (impl_HullOf.j6 k y0 y1 y2 y3 y4 y5 y6 y7 y8 y9 y10 y11 y12 y13) (impl_HullOf.j6 (k + 1) y0 y1 y2 y3 y4 y5 y6 y7 y8 y9 y10 y11 y12 y13))
 | 0 => ⟨fun _ _ r h => by simp [impl_HullOf.j0] at h, fun _ _ _ _ _ _ _ r h => by simp [impl_HullOf.l0] at h, fun _ _ _ _ _ _ _ r h => by simp [impl_HullOf.l1] at h, fun _ _ _ _ _ _ _ _ _ _ _ _ r h => by simp [impl_HullOf.l2] at h, fun _ _ _ _ r h => by simp [impl_HullOf.l3] at h, fun _ _ _ _ _ _ _ _ _ _ _ r h => by simp [impl_HullOf.l4] at h, fun _ _ _ _ _ _ _ _ _ _ _ _ _ _ r h => by simp [impl_HullOf.j6] at h⟩
 | k + 1 => by
  obtain ⟨ih0, ih1, ih2, ih3, ih4, ih5, ih6⟩ := impl_HullOf.mono_l k
  refine ⟨?_, ?_, ?_, ?_, ?_, ?_, ?_⟩
  ·intro y0 y1
   unfold impl_HullOf.j0
   repeat' first
   | (with_reducible exact ih0 _ _)
   | (with_reducible exact ih1 _ _ _ _ _ _ _)
   | (with_reducible exact ih2 _ _ _ _ _ _ _)
   | (with_reducible exact ih3 _ _ _ _ _ _ _ _ _ _ _ _)
   | (with_reducible exact ih4 _ _ _ _)
   | (with_reducible exact ih5 _ _ _ _ _ _ _ _ _ _ _)
   | (with_reducible exact ih6 _ _ _ _ _ _ _ _ _ _ _ _ _ _)
   | (with_reducible exact impl_arePoints.mono _ _)
   | (with_reducible exact LeO.refl _)
   | (with_reducible exact LeO.none _)
   | (with_reducible refine LeO.ite ?_ ?_)
   | (with_reducible refine LeO.bind ?_ (fun _ => ?_))
   | exact ih0 _ _
   | exact ih1 _ _ _ _ _ _ _
   | exact ih2 _ _ _ _ _ _ _
   | exact ih3 _ _ _ _ _ _ _ _ _ _ _ _
   | exact ih4 _ _ _ _
   | exact ih5 _ _ _ _ _ _ _ _ _ _ _
   | exact ih6 _ _ _ _ _ _ _ _ _ _ _ _ _ _
   | exact impl_arePoints.mono _ _
   | exact LeO.none _
   | refine LeO.ite ?_ ?_
   | refine LeO.bind ?_ (fun _ => ?_)
  ·intro y0 y1 y2 y3 y4 y5 y6
   unfold impl_HullOf.l0
   repeat' first
   | (with_reducible exact ih0 _ _)
   | (with_reducible exact ih1 _ _ _ _ _ _ _)
   | (with_reducible exact ih2 _ _ _ _ _ _ _)
   | (with_reducible exact ih3 _ _ _ _ _ _ _ _ _ _ _ _)
   | (with_reducible exact ih4 _ _ _ _)
   | (with_reducible exact ih5 _ _ _ _ _ _ _ _ _ _ _)
   | (with_reducible exact ih6 _ _ _ _ _ _ _ _ _ _ _ _ _ _)
   | (with_reducible exact impl_arePoints.mono _ _)
   | (with_reducible exact LeO.refl _)
   | (with_reducible exact LeO.none _)
   | (with_reducible refine LeO.ite ?_ ?_)
   | (with_reducible refine LeO.bind ?_ (fun _ => ?_))
   | exact ih0 _ _
   | exact ih1 _ _ _ _ _ _ _
   | exact ih2 _ _ _ _ _ _ _
   | exact ih3 _ _ _ _ _ _ _ _ _ _ _ _
   | exact ih4 _ _ _ _
   | exact ih5 _ _ _ _ _ _ _ _ _ _ _
   | exact ih6 _ _ _ _ _ _ _ _ _ _ _ _ _ _
   | exact impl_arePoints.mono _ _
   | exact LeO.none _
   | refine LeO.ite ?_ ?_
   | refine LeO.bind ?_ (fun _ => ?_)
  ·intro y0 y1 y2 y3 y4 y5 y6
   unfold impl_HullOf.l1
   repeat' first
   | (with_reducible exact ih0 _ _)
   | (with_reducible exact ih1 _ _ _ _ _ _ _)
   | (with_reducible exact ih2 _ _ _ _ _ _ _)
   | (with_reducible exact ih3 _ _ _ _ _ _ _ _ _ _ _ _)
   | (with_reducible exact ih4 _ _ _ _)
   | (with_reducible exact ih5 _ _ _ _ _ _ _ _ _ _ _)
   | (with_reducible exact ih6 _ _ _ _ _ _ _ _ _ _ _ _ _ _)
   | (with_reducible exact impl_arePoints.mono _ _)
   | (with_reducible exact LeO.refl _)
   | (with_reducible exact LeO.none _)
   | (with_reducible refine LeO.ite ?_ ?_)
   | (with_reducible refine LeO.bind ?_ (fun _ => ?_))
   | exact ih0 _ _
   | exact ih1 _ _ _ _ _ _ _
   | exact ih2 _ _ _ _ _ _ _
   | exact ih3 _ _ _ _ _ _ _ _ _ _ _ _
   | exact ih4 _ _ _ _
   | exact ih5 _ _ _ _ _ _ _ _ _ _ _
   | exact ih6 _ _ _ _ _ _ _ _ _ _ _ _ _ _
   | exact impl_arePoints.mono _ _
   | exact LeO.none _
   | refine LeO.ite ?_ ?_
   | refine LeO.bind ?_ (fun _ => ?_)
  ·intro y0 y1 y2 y3 y4 y5 y6 y7 y8 y9 y10 y11
   unfold impl_HullOf.l2
   repeat' first
   | (with_reducible exact ih0 _ _)
   | (with_reducible exact ih1 _ _ _ _ _ _ _)
   | (with_reducible exact ih2 _ _ _ _ _ _ _)
   | (with_reducible exact ih3 _ _ _ _ _ _ _ _ _ _ _ _)
   | (with_reducible exact ih4 _ _ _ _)
   | (with_reducible exact ih5 _ _ _ _ _ _ _ _ _ _ _)
   | (with_reducible exact ih6 _ _ _ _ _ _ _ _ _ _ _ _ _ _)
   | (with_reducible exact impl_arePoints.mono _ _)
   | (with_reducible exact LeO.refl _)
   | (with_reducible exact LeO.none _)
   | (with_reducible refine LeO.ite ?_ ?_)
   | (with_reducible refine LeO.bind ?_ (fun _ => ?_))
   | exact ih0 _ _
   | exact ih1 _ _ _ _ _ _ _
   | exact ih2 _ _ _ _ _ _ _
   | exact ih3 _ _ _ _ _ _ _ _ _ _ _ _
   | exact ih4 _ _ _ _
   | exact ih5 _ _ _ _ _ _ _ _ _ _ _
   | exact ih6 _ _ _ _ _ _ _ _ _ _ _ _ _ _
   | exact impl_arePoints.mono _ _
   | exact LeO.none _
   | refine LeO.ite ?_ ?_
   | refine LeO.bind ?_ (fun _ => ?_)
  ·intro y0 y1 y2 y3
   unfold impl_HullOf.l3
   repeat' first
   | (with_reducible exact ih0 _ _)
   | (with_reducible exact ih1 _ _ _ _ _ _ _)
   | (with_reducible exact ih2 _ _ _ _ _ _ _)
   | (with_reducible exact ih3 _ _ _ _ _ _ _ _ _ _ _ _)
   | (with_reducible exact ih4 _ _ _ _)
   | (with_reducible exact ih5 _ _ _ _ _ _ _ _ _ _ _)
   | (with_reducible exact ih6 _ _ _ _ _ _ _ _ _ _ _ _ _ _)
   | (with_reducible exact impl_arePoints.mono _ _)
   | (with_reducible exact LeO.refl _)
   | (with_reducible exact LeO.none _)
   | (with_reducible refine LeO.ite ?_ ?_)
   | (with_reducible refine LeO.bind ?_ (fun _ => ?_))
   | exact ih0 _ _
   | exact ih1 _ _ _ _ _ _ _
   | exact ih2 _ _ _ _ _ _ _
   | exact ih3 _ _ _ _ _ _ _ _ _ _ _ _
   | exact ih4 _ _ _ _
   | exact ih5 _ _ _ _ _ _ _ _ _ _ _
   | exact ih6 _ _ _ _ _ _ _ _ _ _ _ _ _ _
   | exact impl_arePoints.mono _ _
   | exact LeO.none _
   | refine LeO.ite ?_ ?_
   | refine LeO.bind ?_ (fun _ => ?_)
  ·intro y0 y1 y2 y3 y4 y5 y6 y7 y8 y9 y10
   unfold impl_HullOf.l4
   repeat' first
   | (with_reducible exact ih0 _ _)
   | (with_reducible exact ih1 _ _ _ _ _ _ _)
   | (with_reducible exact ih2 _ _ _ _ _ _ _)
   | (with_reducible exact ih3 _ _ _ _ _ _ _ _ _ _ _ _)
   | (with_reducible exact ih4 _ _ _ _)
   | (with_reducible exact ih5 _ _ _ _ _ _ _ _ _ _ _)
   | (with_reducible exact ih6 _ _ _ _ _ _ _ _ _ _ _ _ _ _)
   | (with_reducible exact impl_arePoints.mono _ _)
   | (with_reducible exact LeO.refl _)
   | (with_reducible exact LeO.none _)
   | (with_reducible refine LeO.ite ?_ ?_)
   | (with_reducible refine LeO.bind ?_ (fun _ => ?_))
   | exact ih0 _ _
   | exact ih1 _ _ _ _ _ _ _
   | exact ih2 _ _ _ _ _ _ _
   | exact ih3 _ _ _ _ _ _ _ _ _ _ _ _
   | exact ih4 _ _ _ _
   | exact ih5 _ _ _ _ _ _ _ _ _ _ _
   | exact ih6 _ _ _ _ _ _ _ _ _ _ _ _ _ _
   | exact impl_arePoints.mono _ _
   | exact LeO.none _
   | refine LeO.ite ?_ ?_
   | refine LeO.bind ?_ (fun _ => ?_)
  ·intro y0 y1 y2 y3 y4 y5 y6 y7 y8 y9 y10 y11 y12 y13
   unfold impl_HullOf.j6
   repeat' first
   | (with_reducible exact ih0 _ _)
   | (with_reducible exact ih1 _ _ _ _ _ _ _)
   | (with_reducible exact ih2 _ _ _ _ _ _ _)
   | (with_reducible exact ih3 _ _ _ _ _ _ _ _ _ _ _ _)
   | (with_reducible exact ih4 _ _ _ _)
   | (with_reducible exact ih5 _ _ _ _ _ _ _ _ _ _ _)
   | (with_reducible exact ih6 _ _ _ _ _ _ _ _ _ _ _ _ _ _)
   | (with_reducible exact impl_arePoints.mono _ _)
   | (with_reducible exact LeO.refl _)
   | (with_reducible exact LeO.none _)
   | (with_reducible refine LeO.ite ?_ ?_)
   | (with_reducible refine LeO.bind ?_ (fun _ => ?_))
   | exact ih0 _ _
   | exact ih1 _ _ _ _ _ _ _
   | exact ih2 _ _ _ _ _ _ _
   | exact ih3 _ _ _ _ _ _ _ _ _ _ _ _
   | exact ih4 _ _ _ _
   | exact ih5 _ _ _ _ _ _ _ _ _ _ _
   | exact ih6 _ _ _ _ _ _ _ _ _ _ _ _ _ _
   | exact impl_arePoints.mono _ _
   | exact LeO.none _
   | refine LeO.ite ?_ ?_
   | refine LeO.bind ?_ (fun _ => ?_)
theorem impl_HullOf.mono : ∀ a0 k, LeO (impl_HullOf.f k a0) (impl_HullOf.f (k + 1) a0) := by
 intro a0 k
 obtain ⟨ih0, ih1, ih2, ih3, ih4, ih5, ih6⟩ := impl_HullOf.mono_l k
 unfold impl_HullOf.f
 repeat' first
   | (with_reducible exact ih0 _ _)
   | (with_reducible exact ih1 _ _ _ _ _ _ _)
   | (with_reducible exact ih2 _ _ _ _ _ _ _)
   | (with_reducible exact ih3 _ _ _ _ _ _ _ _ _ _ _ _)
   | (with_reducible exact ih4 _ _ _ _)
   | (with_reducible exact ih5 _ _ _ _ _ _ _ _ _ _ _)
   | (with_reducible exact ih6 _ _ _ _ _ _ _ _ _ _ _ _ _ _)
   | (with_reducible exact impl_arePoints.mono _ _)
   | (with_reducible exact LeO.refl _)
   | (with_reducible exact LeO.none _)
   | (with_reducible refine LeO.ite ?_ ?_)
   | (with_reducible refine LeO.bind ?_ (fun _ => ?_))
   | exact ih0 _ _
   | exact ih1 _ _ _ _ _ _ _
   | exact ih2 _ _ _ _ _ _ _
   | exact ih3 _ _ _ _ _ _ _ _ _ _ _ _
   | exact ih4 _ _ _ _
   | exact ih5 _ _ _ _ _ _ _ _ _ _ _
   | exact ih6 _ _ _ _ _ _ _ _ _ _ _ _ _ _
   | exact impl_arePoints.mono _ _
   | exact LeO.none _
   | refine LeO.ite ?_ ?_
   | refine LeO.bind ?_ (fun _ => ?_)
def impl_HullOf.T31 : Bool × List (List Nat × List Nat) := (true, [([], []), ([], []), ([0, 1], [0, 1]), ([2], [2]), ([3], [3]), ([4, 3], [3, 4]), ([3, 5], [3, 5]), ([6, 3], [6]), ([7], [7]), ([8, 7], [7, 8]), ([9, 7, 7], [7, 9]), ([10], [10]), ([10], [10]), ([11, 12, 10, 10], [10, 11, 12]), ([10], [10]), ([10], [10]), ([14, 15, 13, 10], [10, 14, 15]), ([13, 16, 10], [10, 13, 16]), ([10, 17, 7], [7, 10, 17]), ([7, 18], [7, 18])])
def impl_HullOf.B31 : List Nat := [0, 0, 3, 7, 15, 31, 63, 127, 255, 511, 1023, 2047, 2047, 8191, 2047, 2047, 65535, 131071, 262143, 524287]
theorem impl_HullOf.tab31 : rtab .any (opsOf Try.f18 31) = impl_HullOf.T31 := by kernel_rfl
theorem impl_HullOf.bits31 : waitsOk impl_HullOf.T31.2 impl_HullOf.B31 = true := by kernel_rfl
set_option maxHeartbeats 8000000 in
set_option maxRecDepth 100000 in
theorem impl_HullOf.calls (k : Nat) (A0 : Option Addr) (c0 : Nat) (l0 : List (S44)) (r1 : List (S44)) (r2 : Bool) (w : World) (hr0 : Kd.C k44 w A0 l0.length l0) (hc0 : l0.length ≤ c0) (h : impl_HullOf.f k l0 = some (r1, r2)) :
  Calls Try.prog 18 #[.slice A0 l0.length c0] w fun e w' => ∃ v0_ : Value, e = .returned (.tuple #[v0_, .bool r2]) ∧ Kd.R k44 44 w' w.heap.size (fun _ => True) v0_ r1 ∧ Below w.heap.size w w' := by
 have hu44 := Try.underlying44
 have HR0 := Ak hr0
 have HC0 := Ak hc0
 clear hr0 hc0
 have HB := Ak (Below.refl w.heap.size w)
 have H : (if (l0.length : Int) < 3 then (impl_HullOf.j0 k l0 true) else (if (l0.length : Int) > 30 then (impl_HullOf.j0 k l0 true) else ((impl_arePoints.f k l0).bind fun t101 => (impl_HullOf.j0 k l0 (!t101))))) = some (r1, r2) := h
 clear h
 have HC2 := Ak H
 clear H
 go_enter Try.func18, Try.ntmps18
 go_upto_region 1 with (fail)
 go_cut [30] (fun v30 wc => ∃ (kq : Nat) (x30_1 : Bool), v30 = .bool x30_1 ∧ Aside0 (impl_HullOf.j0 kq l0 x30_1 = some (r1, r2)) ∧ Aside0 (kq ≤ k) ∧ Aside0 (Below w.heap.size w wc))
 case first =>
  have H := HC2.out
  clear HC2
  by_cases c3 : (l0.length : Int) < 3
  ·rw [if_pos c3] at H
   have c3b0 : decide ((l0.length : Int) < 3) = true := decide_eq_true c3
   have c3b1 : decide (l0.length < 3) = true := decide_eq_true (by omega)
   clear c3
   (first | rw [c3b0] | (simp only [i64_w, i32_w]; rw [c3b0]) | skip)
   have H' := Ak H
   clear H
   go_wp2
   go_meet
   case rel => exact ⟨_, (true), (by first | rfl | (simp; done) | (simp [*]; done)), H', ⟨by first | omega | exact Nat.le_refl _⟩, ⟨by repeat (first | (with_reducible first | exact HB.out | apply bA | apply bD | apply bE) | exact HB.out)⟩⟩
  ·rw [if_neg c3] at H
   have c3b0 : decide ((l0.length : Int) < 3) = false := decide_eq_false c3
   have c3b1 : decide (l0.length < 3) = false := decide_eq_false (by omega)
   clear c3
   (first | rw [c3b0] | (simp only [i64_w, i32_w]; rw [c3b0]) | skip)
   by_cases c4 : (l0.length : Int) > 30
   ·rw [if_pos c4] at H
    have c4b0 : decide (30 < (l0.length : Int)) = true := decide_eq_true c4
    have c4b1 : decide (30 < l0.length) = true := decide_eq_true (by omega)
    clear c4
    have H' := Ak H
    clear H
    go_wp2
    go_meet
    case rel => exact ⟨_, (true), (by first | rfl | (simp; done) | (simp [*]; done)), H', ⟨by first | omega | exact Nat.le_refl _⟩, ⟨by repeat (first | (with_reducible first | exact HB.out | apply bA | apply bD | apply bE) | exact HB.out)⟩⟩
   ·rw [if_neg c4] at H
    have c4b0 : decide (30 < (l0.length : Int)) = false := decide_eq_false c4
    have c4b1 : decide (30 < l0.length) = false := decide_eq_false (by omega)
    clear c4
    replace H := Option.bind_eq_some_iff.mp H
    obtain ⟨t101, A50, H⟩ := H
    replace H : (impl_HullOf.j0 k l0 (!t101)) = some (r1, r2) := H
    have A5 := Ak A50
    clear A50
    have H' := Ak H
    clear H
    go_wp2_with (first | (go_at_call 48; (with_reducible refine (impl_arePoints.calls k _ _ l0 t101 _ ?side1 ?side2 A5.out).mono ?_); (case side1 => repeat (first | exact (Kd.C_below HR0.out HB.out) | (with_reducible refine Kd.C_alloc ?_ _) | (with_reducible refine Kd.C_drewN ?_ _) | (with_reducible refine Kd.C_drew ?_))); (case side2 => exact HC0.out); rintro e w6 ⟨rfl, hb⟩; have n0_ := Ak (below_step (by repeat (first | exact HB.out | apply bA | apply bD | apply bE)) hb); clear HB; have HB := n0_; clear n0_; (try clear hb); (try clear hb2); (try clear hk); (try clear hi)))
    go_meet
    case rel => exact ⟨_, (!t101), (by first | rfl | (simp; done) | (simp [*]; done)), H', ⟨by first | omega | exact Nat.le_refl _⟩, ⟨by repeat (first | (with_reducible first | exact HB.out | apply bA | apply bD | apply bE) | exact HB.out)⟩⟩
 case rest =>
  clear HC2
  try clear c1
  try clear p2
  try clear c3
  try clear c3b0
  try clear c3b1
  try clear c4
  try clear c4b0
  try clear c4b1
  obtain ⟨kq, x30_1, rfl, HA, HJ1, HB⟩ := hcut
  cases kq with
  | zero => exact absurd HA.out (by simp [impl_HullOf.j0])
  | succ kj1 =>
   have H := HA.out
   clear HA
   simp only [impl_HullOf.j0] at H
   by_cases c7 : x30_1 = true
   ·subst c7
    have H1 : (some (([] : List (S44)), false)) = some (r1, r2) := by rw [if_pos rfl] at H; exact H
    clear H
    have H := H1
    clear H1
    simp only [Option.some.injEq, Prod.mk.injEq] at H
    obtain ⟨rfl, rfl⟩ := H
    go_wp2
    go_ret2
    exact ⟨_, by first | rfl | (simp [*, errW_none, errW_some] <;> rfl), by first | exact Kd.R_nil _ _ _ _ _ | exact Kd.N_nil _ _ _ _ _ | exact Kd.V_nil _ _ _ _ _ | exact Kd.Q_nil _ _ _ _ _ | exact Kd.S_nil _ _ _ _ _, by repeat (first | (with_reducible first | exact HB.out | apply bA | apply bD | apply bE) | exact HB.out)⟩
   ·replace c7 := Bool.eq_false_iff.mpr c7
    subst c7
    have H1 : (if 0 < (l0.length : Int) then (impl_HullOf.l0 kj1 l0 true l0 (l0.length : Int) 0 ((rd_T44 l0 0).f0) ((rd_T44 l0 0).f1)) else (none)) = some (r1, r2) := by rw [if_neg (show ¬ (false = true) by decide)] at H; exact H
    clear H
    have H := H1
    clear H1
    by_cases c8 : 0 < (l0.length : Int)
    ·rw [if_pos c8] at H
     have c8b0 : decide (0 < (l0.length : Int)) = true := decide_eq_true c8
     have c8b1 : decide (0 < l0.length) = true := decide_eq_true (by omega)
     clear c8
     have H' := Ak H
     clear H
     have p102 : 0 ≤ (0 : Int) := (by omega)
     have q102 : 0 < (l0.length : Int) := of_decide_eq_true (by first | (with_reducible assumption) | assumption)
     obtain ⟨ad102, e102, hx102_0, hx102_1⟩ := at_T44 HR0.out 0 p102 q102
     cases e102
     have qi102 : (0 < l0.length) = True := eq_true (by omega)
     (try rw [show ((0 : Int)).toNat = 0 from rfl] at hx102_0)
     (try rw [show 0 * 2 = 0 from rfl] at hx102_0)
     (try rw [Addr.add_zero'] at hx102_0)
     (try rw [show ((0 : Int)).toNat = 0 from rfl] at hx102_1)
     (try rw [show 0 * 2 = 0 from rfl] at hx102_1)
     (try rw [Addr.add_zero'] at hx102_1)
     replace hx102_0 := cB HB.out hx102_0
     replace hx102_1 := cB HB.out hx102_1
     replace p102 := eq_true p102
     replace q102 := eq_true q102
     go_wp2_with (first | ((with_reducible refine gate_dst (N := 4) rfl ?_); (try (refine gate_guard (by rfl) ?_; dsimp only)); refine box_event ?hg (N := 4) ?hd (cs := #[.int .i64 0, .int .i64 0]) (t := 44) ?hr ?_; (case hd | hg => rfl); (case hr => first | (go_simp; done) | (go_simp; rfl)); intro gb103 hg w9 hbox hb; have n0_ := Ak (below_step (by repeat (first | exact HB.out | apply bA | apply bD | apply bE)) hb); have n1_ := Ak (hbox); have n2_ := Ak ((by rw [hg]; exact (below_size (by repeat (first | exact HB.out | apply bA | apply bD | apply bE))) : w.heap.size ≤ gb103)); have n3_ := n2_; clear HB; have HB := n0_; have BK103 := n1_; have GW103 := n2_; have GE103 := n3_; clear n0_ n1_ n2_ n3_; clear hb hbox hg; have hcz10_0 : w9.cell? ⟨gb103, 0, none⟩ = some (.int .i64 0) := (blk_cell BK103.out 0).trans rfl; have hcz10_1 : w9.cell? ⟨gb103, 1, none⟩ = some (.int .i64 0) := (blk_cell BK103.out 1).trans rfl; have hfz10_0 := blk_frozen BK103.out 0; have hfz10_1 := blk_frozen BK103.out 1))
     go_loopg [36] kj1 (fun kq v36 w' => ∃ (x36_2 : Int) (x104000_2 : Int) (x104001_2 : Int), v36 = .int .i64 x36_2 ∧ Aside0 (impl_HullOf.l0 kq l0 true l0 (l0.length : Int) x36_2 x104000_2 x104001_2 = some (r1, r2)) ∧ Aside0 (kq ≤ kj1) ∧ Aside0 (w'.heap[gb103]? = some (.cells #[.int .i64 x104000_2, .int .i64 x104001_2] 44 (0, 0))) ∧ Aside0 (Below w.heap.size w w'))
     case atStart => exact ⟨(0), ((rd_T44 l0 0).f0), ((rd_T44 l0 0).f1), (by first | rfl | (simp; done) | (simp [*]; done)), H', ⟨Nat.le_refl _⟩, ⟨by refine blk_put (cs := #[.int .i64 ((rd_T44 l0 0).f0), .int .i64 0]) ?_ 1 _ rfl; refine blk_put (cs := #[.int .i64 0, .int .i64 0]) ?_ 0 _ rfl; exact BK103.out⟩, ⟨by repeat (first | (with_reducible first | exact HB.out | apply bA | apply bD | apply bE | refine below_set ?_ GE103.out) | exact HB.out)⟩⟩
     case round =>
      clear H'
      try clear c1
      try clear p1
      try clear q1
      try clear hx1
      try clear qi1
      try clear p2
      try clear c3
      try clear c3b0
      try clear c3b1
      try clear c4
      try clear c4b0
      try clear c4b1
      try clear c7
      try clear c8
      try clear c8b0
      try clear c8b1
      try clear p10
      try clear q10
      try clear hx10
      try clear qi10
      try clear hcz10_0
      try clear hcz10_1
      try clear hfz10_0
      try clear hfz10_1
      try clear hx102_0
      try clear hx102_1
      try clear p102
      try clear p2
      try clear q102
      obtain ⟨x36_2, x104000_2, x104001_2, rfl, HA, HK2, BK103, HB⟩ := hrel
      cases gk with
      | zero => exact absurd HA.out (by simp [impl_HullOf.l0])
      | succ k2 =>
       have H := HA.out
       clear HA
       simp only [impl_HullOf.l0] at H
       by_cases c11 : x36_2 < (l0.length : Int)
       ·rw [if_pos c11] at H
        have c11b0 : decide (x36_2 < (l0.length : Int)) = true := decide_eq_true c11
        clear c11
        by_cases c12 : 0 ≤ x36_2
        ·rw [if_pos c12] at H
         have c12b0 : decide (0 ≤ x36_2) = true := decide_eq_true c12
         clear c12
         by_cases c13 : x36_2 < (l0.length : Int)
         ·rw [if_pos c13] at H
          have c13b0 : decide (x36_2 < (l0.length : Int)) = true := decide_eq_true c13
          clear c13
          replace H := Option.bind_eq_some_iff.mp H
          obtain ⟨t106, A140, H⟩ := H
          replace H : (if t106 = true then (impl_HullOf.l0 k2 l0 true l0 (l0.length : Int) (wrap64 (x36_2 + 1)) ((rd_T44 l0 x36_2).f0) ((rd_T44 l0 x36_2).f1)) else (impl_HullOf.l0 k2 l0 true l0 (l0.length : Int) (wrap64 (x36_2 + 1)) x104000_2 x104001_2)) = some (r1, r2) := H
          have A14 := Ak A140
          clear A140
          by_cases c15 : t106 = true
          ·subst c15
           have H1 : (impl_HullOf.l0 k2 l0 true l0 (l0.length : Int) (wrap64 (x36_2 + 1)) ((rd_T44 l0 x36_2).f0) ((rd_T44 l0 x36_2).f1)) = some (r1, r2) := by rw [if_pos rfl] at H; exact H
           clear H
           have H := H1
           clear H1
           have H' := Ak H
           clear H
           have p104 : 0 ≤ (x36_2 : Int) := of_decide_eq_true (by first | (with_reducible assumption) | assumption)
           have q104 : x36_2 < (l0.length : Int) := of_decide_eq_true (by first | (with_reducible assumption) | assumption)
           obtain ⟨ad104, e104, hx104_0, hx104_1⟩ := at_T44 HR0.out x36_2 p104 q104
           obtain rfl : ad102 = ad104 := (by injection e104)
           replace hx104_0 := cB HB.out hx104_0
           replace hx104_1 := cB HB.out hx104_1
           replace p104 := eq_true p104
           replace q104 := eq_true q104
           go_wp2_with (first | ((with_reducible refine gate_dst (N := 7) rfl ?_); (try (refine gate_guard (by rfl) ?_; dsimp only)); refine box_event ?hg (N := 7) ?hd (cs := #[.int .i64 0, .int .i64 0]) (t := 44) ?hr ?_; (case hd | hg => rfl); (case hr => first | (go_simp; done) | (go_simp; rfl)); intro gb105 hg w16 hbox hb; have m0_ := bK (g := gb103) (o := .cells #[.int .i64 x104000_2, .int .i64 x104001_2] 44 (0, 0)) (by exact BK103.out) hb; have n0_ := Ak (blk_below m0_ hb); have n1_ := Ak (below_step (by repeat (first | exact HB.out | apply bA | apply bD | apply bE | refine below_set ?_ GE103.out)) hb); have n2_ := Ak (hbox); have n3_ := Ak ((by rw [hg]; exact (below_size (by repeat (first | exact HB.out | apply bA | apply bD | apply bE | refine below_set ?_ GE103.out))) : w.heap.size ≤ gb105)); have n4_ := n3_; have n5_ := Ak ((by rw [hg]; exact Nat.ne_of_lt (blk_lt m0_) : gb103 ≠ gb105)); have n6_ := Ak n5_.out.symm; clear BK103; clear HB; have BK103 := n0_; have HB := n1_; have BK105 := n2_; have GW105 := n3_; have GE105 := n4_; have NB103_105 := n5_; have NB105_103 := n6_; clear n0_ n1_ n2_ n3_ n4_ n5_ n6_; clear hb hbox hg; have hnb17 := NB105_103.out; have hnc17 := NB103_105.out; have hcz18_0 : w16.cell? ⟨gb105, 0, none⟩ = some (.int .i64 0) := (blk_cell BK105.out 0).trans rfl; have hcz18_1 : w16.cell? ⟨gb105, 1, none⟩ = some (.int .i64 0) := (blk_cell BK105.out 1).trans rfl; have hfz18_0 := blk_frozen BK105.out 0; have hfz18_1 := blk_frozen BK105.out 1; have hcz19_0 : w16.cell? ⟨gb103, 0, none⟩ = some (.int .i64 x104000_2) := (blk_cell BK103.out 0).trans rfl; have hcz19_1 : w16.cell? ⟨gb103, 1, none⟩ = some (.int .i64 x104001_2) := (blk_cell BK103.out 1).trans rfl; have hfz19_0 := blk_frozen BK103.out 0; have hfz19_1 := blk_frozen BK103.out 1) | ((with_reducible refine gate_callee (f := 49) rfl ?_); refine goesL_ (some 42) rfl rfl Try.func49 (by kernel_rfl) rfl #[.agg #[.int .i64 ((rd_T44 l0 x36_2).f0), .int .i64 ((rd_T44 l0 x36_2).f1)], .agg #[.int .i64 x104000_2, .int .i64 x104001_2]] rfl (by (try simp only [List.map_toArray, List.map_cons, List.map_nil]); first | done | rfl | (simp only [List.length_drop, List.length_take]; rfl)) ?_; (with_reducible refine (impl_BeforePoint.calls ((rd_T44 l0 x36_2).f0) ((rd_T44 l0 x36_2).f1) x104000_2 x104001_2 true _ A14.out).mono ?_); rintro e w20 ⟨rfl, hb⟩; refine ⟨_, rfl, ?_⟩; have n0_ := Ak (blk_below (g := gb103) (o := .cells #[.int .i64 x104000_2, .int .i64 x104001_2] 44 (0, 0)) (by refine blk_far ?_ NB103_105.out _; refine blk_far ?_ NB103_105.out _; exact BK103.out) hb); have n1_ := Ak (blk_below (g := gb105) (o := .cells #[.int .i64 ((rd_T44 l0 x36_2).f0), .int .i64 ((rd_T44 l0 x36_2).f1)] 44 (0, 0)) (by refine blk_put (cs := #[.int .i64 ((rd_T44 l0 x36_2).f0), .int .i64 0]) ?_ 1 _ rfl; refine blk_put (cs := #[.int .i64 0, .int .i64 0]) ?_ 0 _ rfl; exact BK105.out) hb); have n2_ := Ak (below_step (by repeat (first | exact HB.out | apply bA | apply bD | apply bE | refine below_set ?_ GE103.out | refine below_set ?_ GE105.out)) hb); clear BK103; clear BK105; clear HB; have BK103 := n0_; have BK105 := n1_; have HB := n2_; clear n0_ n1_ n2_; (try clear hb); (try clear hb2); (try clear hk); (try clear hi); have hcz21_0 : w20.cell? ⟨gb105, 0, none⟩ = some (.int .i64 ((rd_T44 l0 x36_2).f0)) := (blk_cell BK105.out 0).trans rfl; have hcz21_1 : w20.cell? ⟨gb105, 1, none⟩ = some (.int .i64 ((rd_T44 l0 x36_2).f1)) := (blk_cell BK105.out 1).trans rfl; have hfz21_0 := blk_frozen BK105.out 0; have hfz21_1 := blk_frozen BK105.out 1; have hcz22_0 : w20.cell? ⟨gb103, 0, none⟩ = some (.int .i64 x104000_2) := (blk_cell BK103.out 0).trans rfl; have hcz22_1 : w20.cell? ⟨gb103, 1, none⟩ = some (.int .i64 x104001_2) := (blk_cell BK103.out 1).trans rfl; have hfz22_0 := blk_frozen BK103.out 0; have hfz22_1 := blk_frozen BK103.out 1))
           go_roundg k2
           case measure => have := HJ1.out; have := HK2.out; omega
           case rel => exact ⟨(wrap64 (x36_2 + 1)), ((rd_T44 l0 x36_2).f0), ((rd_T44 l0 x36_2).f1), (by first | rfl | (simp; done) | (simp [*]; done)), H', ⟨by have := HJ1.out; have := HK2.out; omega⟩, ⟨by refine blk_put (cs := #[.int .i64 ((rd_T44 l0 x36_2).f0), .int .i64 x104001_2]) ?_ 1 _ rfl; refine blk_put (cs := #[.int .i64 x104000_2, .int .i64 x104001_2]) ?_ 0 _ rfl; exact BK103.out⟩, ⟨by repeat (first | (with_reducible first | exact HB.out | apply bA | apply bD | apply bE | refine below_set ?_ GE103.out | refine below_set ?_ GE105.out) | exact HB.out)⟩⟩
          ·replace c15 := Bool.eq_false_iff.mpr c15
           subst c15
           have H1 : (impl_HullOf.l0 k2 l0 true l0 (l0.length : Int) (wrap64 (x36_2 + 1)) x104000_2 x104001_2) = some (r1, r2) := by rw [if_neg (show ¬ (false = true) by decide)] at H; exact H
           clear H
           have H := H1
           clear H1
           have H' := Ak H
           clear H
           have p104 : 0 ≤ (x36_2 : Int) := of_decide_eq_true (by first | (with_reducible assumption) | assumption)
           have q104 : x36_2 < (l0.length : Int) := of_decide_eq_true (by first | (with_reducible assumption) | assumption)
           obtain ⟨ad104, e104, hx104_0, hx104_1⟩ := at_T44 HR0.out x36_2 p104 q104
           obtain rfl : ad102 = ad104 := (by injection e104)
           replace hx104_0 := cB HB.out hx104_0
           replace hx104_1 := cB HB.out hx104_1
           replace p104 := eq_true p104
           replace q104 := eq_true q104
           go_wp2_with (first | ((with_reducible refine gate_dst (N := 7) rfl ?_); (try (refine gate_guard (by rfl) ?_; dsimp only)); refine box_event ?hg (N := 7) ?hd (cs := #[.int .i64 0, .int .i64 0]) (t := 44) ?hr ?_; (case hd | hg => rfl); (case hr => first | (go_simp; done) | (go_simp; rfl)); intro gb105 hg w23 hbox hb; have m0_ := bK (g := gb103) (o := .cells #[.int .i64 x104000_2, .int .i64 x104001_2] 44 (0, 0)) (by exact BK103.out) hb; have n0_ := Ak (blk_below m0_ hb); have n1_ := Ak (below_step (by repeat (first | exact HB.out | apply bA | apply bD | apply bE | refine below_set ?_ GE103.out)) hb); have n2_ := Ak (hbox); have n3_ := Ak ((by rw [hg]; exact (below_size (by repeat (first | exact HB.out | apply bA | apply bD | apply bE | refine below_set ?_ GE103.out))) : w.heap.size ≤ gb105)); have n4_ := n3_; have n5_ := Ak ((by rw [hg]; exact Nat.ne_of_lt (blk_lt m0_) : gb103 ≠ gb105)); have n6_ := Ak n5_.out.symm; clear BK103; clear HB; have BK103 := n0_; have HB := n1_; have BK105 := n2_; have GW105 := n3_; have GE105 := n4_; have NB103_105 := n5_; have NB105_103 := n6_; clear n0_ n1_ n2_ n3_ n4_ n5_ n6_; clear hb hbox hg; have hnb24 := NB105_103.out; have hnc24 := NB103_105.out; have hcz25_0 : w23.cell? ⟨gb105, 0, none⟩ = some (.int .i64 0) := (blk_cell BK105.out 0).trans rfl; have hcz25_1 : w23.cell? ⟨gb105, 1, none⟩ = some (.int .i64 0) := (blk_cell BK105.out 1).trans rfl; have hfz25_0 := blk_frozen BK105.out 0; have hfz25_1 := blk_frozen BK105.out 1; have hcz26_0 : w23.cell? ⟨gb103, 0, none⟩ = some (.int .i64 x104000_2) := (blk_cell BK103.out 0).trans rfl; have hcz26_1 : w23.cell? ⟨gb103, 1, none⟩ = some (.int .i64 x104001_2) := (blk_cell BK103.out 1).trans rfl; have hfz26_0 := blk_frozen BK103.out 0; have hfz26_1 := blk_frozen BK103.out 1) | ((with_reducible refine gate_callee (f := 49) rfl ?_); refine goesL_ (some 42) rfl rfl Try.func49 (by kernel_rfl) rfl #[.agg #[.int .i64 ((rd_T44 l0 x36_2).f0), .int .i64 ((rd_T44 l0 x36_2).f1)], .agg #[.int .i64 x104000_2, .int .i64 x104001_2]] rfl (by (try simp only [List.map_toArray, List.map_cons, List.map_nil]); first | done | rfl | (simp only [List.length_drop, List.length_take]; rfl)) ?_; (with_reducible refine (impl_BeforePoint.calls ((rd_T44 l0 x36_2).f0) ((rd_T44 l0 x36_2).f1) x104000_2 x104001_2 false _ A14.out).mono ?_); rintro e w27 ⟨rfl, hb⟩; refine ⟨_, rfl, ?_⟩; have n0_ := Ak (blk_below (g := gb103) (o := .cells #[.int .i64 x104000_2, .int .i64 x104001_2] 44 (0, 0)) (by refine blk_far ?_ NB103_105.out _; refine blk_far ?_ NB103_105.out _; exact BK103.out) hb); have n1_ := Ak (blk_below (g := gb105) (o := .cells #[.int .i64 ((rd_T44 l0 x36_2).f0), .int .i64 ((rd_T44 l0 x36_2).f1)] 44 (0, 0)) (by refine blk_put (cs := #[.int .i64 ((rd_T44 l0 x36_2).f0), .int .i64 0]) ?_ 1 _ rfl; refine blk_put (cs := #[.int .i64 0, .int .i64 0]) ?_ 0 _ rfl; exact BK105.out) hb); have n2_ := Ak (below_step (by repeat (first | exact HB.out | apply bA | apply bD | apply bE | refine below_set ?_ GE103.out | refine below_set ?_ GE105.out)) hb); clear BK103; clear BK105; clear HB; have BK103 := n0_; have BK105 := n1_; have HB := n2_; clear n0_ n1_ n2_; (try clear hb); (try clear hb2); (try clear hk); (try clear hi)))
           go_roundg k2
           case measure => have := HJ1.out; have := HK2.out; omega
           case rel => exact ⟨(wrap64 (x36_2 + 1)), (x104000_2), (x104001_2), (by first | rfl | (simp; done) | (simp [*]; done)), H', ⟨by have := HJ1.out; have := HK2.out; omega⟩, ⟨by exact BK103.out⟩, ⟨by repeat (first | (with_reducible first | exact HB.out | apply bA | apply bD | apply bE | refine below_set ?_ GE103.out | refine below_set ?_ GE105.out) | exact HB.out)⟩⟩
         ·rw [if_neg c13] at H
          exact absurd H (by simp)
        ·rw [if_neg c12] at H
         exact absurd H (by simp)
       ·rw [if_neg c11] at H
        have c11b0 : decide (x36_2 < (l0.length : Int)) = false := decide_eq_false c11
        clear c11
        have H' := Ak H
        clear H
        go_wp2
        go_loopg [5, 47] k2 (fun kq v5 v47 w' => ∃ (x5_3 : Bool) (x47_3 : Int), v5 = .bool x5_3 ∧ v47 = .int .i64 x47_3 ∧ Aside0 (impl_HullOf.l1 kq l0 x5_3 l0 (l0.length : Int) x47_3 x104000_2 x104001_2 = some (r1, r2)) ∧ Aside0 (kq ≤ k2) ∧ Aside0 (w'.heap[gb103]? = some (.cells #[.int .i64 x104000_2, .int .i64 x104001_2] 44 (0, 0))) ∧ Aside0 (Below w.heap.size w w'))
        case atStart => exact ⟨(true), (0), (by first | rfl | (simp; done) | (simp [*]; done)), (by first | rfl | (simp; done) | (simp [*]; done)), H', ⟨Nat.le_refl _⟩, ⟨by exact BK103.out⟩, ⟨by repeat (first | (with_reducible first | exact HB.out | apply bA | apply bD | apply bE | refine below_set ?_ GE103.out) | exact HB.out)⟩⟩
        case round =>
         clear H'
         try clear c1
         try clear p1
         try clear q1
         try clear hx1
         try clear qi1
         try clear c2
         try clear p2
         try clear c3
         try clear c3b0
         try clear c3b1
         try clear c4
         try clear c4b0
         try clear c4b1
         try clear p6
         try clear c7
         try clear c8
         try clear c8b0
         try clear c8b1
         try clear p10
         try clear q10
         try clear hx10
         try clear qi10
         try clear c11
         try clear c11b0
         try clear c12
         try clear c12b0
         try clear c13
         try clear c13b0
         try clear c15
         try clear c17
         try clear c18
         try clear c24
         try clear hcz10_0
         try clear hcz10_1
         try clear hcz18_0
         try clear hcz18_1
         try clear hcz19_0
         try clear hcz19_1
         try clear hcz21_0
         try clear hcz21_1
         try clear hcz22_0
         try clear hcz22_1
         try clear hcz25_0
         try clear hcz25_1
         try clear hcz26_0
         try clear hcz26_1
         try clear hfz10_0
         try clear hfz10_1
         try clear hfz18_0
         try clear hfz18_1
         try clear hfz19_0
         try clear hfz19_1
         try clear hfz21_0
         try clear hfz21_1
         try clear hfz22_0
         try clear hfz22_1
         try clear hfz25_0
         try clear hfz25_1
         try clear hfz26_0
         try clear hfz26_1
         try clear hx102_0
         try clear hx102_1
         try clear hx104_0
         try clear hx104_1
         try clear p1
         try clear p10
         try clear p102
         try clear p104
         try clear p2
         try clear q1
         try clear q10
         try clear q102
         try clear q104
         obtain ⟨x5_3, x47_3, rfl, rfl, HA, HK3, BK103, HB⟩ := hrel
         cases gk with
         | zero => exact absurd HA.out (by simp [impl_HullOf.l1])
         | succ k3 =>
          have H := HA.out
          clear HA
          simp only [impl_HullOf.l1] at H
          by_cases c28 : x47_3 < (l0.length : Int)
          ·rw [if_pos c28] at H
           have c28b0 : decide (x47_3 < (l0.length : Int)) = true := decide_eq_true c28
           clear c28
           by_cases c29 : 0 ≤ x47_3
           ·rw [if_pos c29] at H
            have c29b0 : decide (0 ≤ x47_3) = true := decide_eq_true c29
            clear c29
            by_cases c30 : x47_3 < (l0.length : Int)
            ·rw [if_pos c30] at H
             have c30b0 : decide (x47_3 < (l0.length : Int)) = true := decide_eq_true c30
             clear c30
             have H' := Ak H
             clear H
             have p107 : 0 ≤ (x47_3 : Int) := of_decide_eq_true (by first | (with_reducible assumption) | assumption)
             have q107 : x47_3 < (l0.length : Int) := of_decide_eq_true (by first | (with_reducible assumption) | assumption)
             obtain ⟨ad107, e107, hx107_0, hx107_1⟩ := at_T44 HR0.out x47_3 p107 q107
             obtain rfl : ad102 = ad107 := (by injection e107)
             replace hx107_0 := cB HB.out hx107_0
             replace hx107_1 := cB HB.out hx107_1
             replace p107 := eq_true p107
             replace q107 := eq_true q107
             go_wp2_with (first | ((with_reducible refine gate_dst (N := 9) rfl ?_); (try (refine gate_guard (by rfl) ?_; dsimp only)); refine box_event ?hg (N := 9) ?hd (cs := #[.int .i64 0, .int .i64 0]) (t := 44) ?hr ?_; (case hd | hg => rfl); (case hr => first | (go_simp; done) | (go_simp; rfl)); intro gb108 hg w31 hbox hb; have m0_ := bK (g := gb103) (o := .cells #[.int .i64 x104000_2, .int .i64 x104001_2] 44 (0, 0)) (by exact BK103.out) hb; have n0_ := Ak (blk_below m0_ hb); have n1_ := Ak (below_step (by repeat (first | exact HB.out | apply bA | apply bD | apply bE | refine below_set ?_ GE103.out)) hb); have n2_ := Ak (hbox); have n3_ := Ak ((by rw [hg]; exact (below_size (by repeat (first | exact HB.out | apply bA | apply bD | apply bE | refine below_set ?_ GE103.out))) : w.heap.size ≤ gb108)); have n4_ := n3_; have n5_ := Ak ((by rw [hg]; exact Nat.ne_of_lt (blk_lt m0_) : gb103 ≠ gb108)); have n6_ := Ak n5_.out.symm; clear BK103; clear HB; have BK103 := n0_; have HB := n1_; have BK108 := n2_; have GW108 := n3_; have GE108 := n4_; have NB103_108 := n5_; have NB108_103 := n6_; clear n0_ n1_ n2_ n3_ n4_ n5_ n6_; clear hb hbox hg; have hnb32 := NB108_103.out; have hnc32 := NB103_108.out; have hcz33_0 : w31.cell? ⟨gb108, 0, none⟩ = some (.int .i64 0) := (blk_cell BK108.out 0).trans rfl; have hcz33_1 : w31.cell? ⟨gb108, 1, none⟩ = some (.int .i64 0) := (blk_cell BK108.out 1).trans rfl; have hfz33_0 := blk_frozen BK108.out 0; have hfz33_1 := blk_frozen BK108.out 1))
             go_loopg [5, 53] k3 (fun kq v5 v53 w' => ∃ (x5_4 : Bool) (x53_4 : Int), v5 = .bool x5_4 ∧ v53 = .int .i64 x53_4 ∧ Aside0 (impl_HullOf.l2 kq l0 x5_4 l0 (l0.length : Int) x47_3 l0 (l0.length : Int) x53_4 x104000_2 x104001_2 ((rd_T44 l0 x47_3).f0) ((rd_T44 l0 x47_3).f1) = some (r1, r2)) ∧ Aside0 (kq ≤ k3) ∧ Aside0 (w'.heap[gb103]? = some (.cells #[.int .i64 x104000_2, .int .i64 x104001_2] 44 (0, 0))) ∧ Aside0 (w'.heap[gb108]? = some (.cells #[.int .i64 ((rd_T44 l0 x47_3).f0), .int .i64 ((rd_T44 l0 x47_3).f1)] 44 (0, 0))) ∧ Aside0 (Below w.heap.size w w'))
             case atStart => exact ⟨(x5_3), (0), (by first | rfl | (simp; done) | (simp [*]; done)), (by first | rfl | (simp; done) | (simp [*]; done)), H', ⟨Nat.le_refl _⟩, ⟨by refine blk_far ?_ NB103_108.out _; refine blk_far ?_ NB103_108.out _; exact BK103.out⟩, ⟨by refine blk_put (cs := #[.int .i64 ((rd_T44 l0 x47_3).f0), .int .i64 0]) ?_ 1 _ rfl; refine blk_put (cs := #[.int .i64 0, .int .i64 0]) ?_ 0 _ rfl; exact BK108.out⟩, ⟨by repeat (first | (with_reducible first | exact HB.out | apply bA | apply bD | apply bE | refine below_set ?_ GE103.out | refine below_set ?_ GE108.out) | exact HB.out)⟩⟩
             case round =>
              clear H'
              try clear c1
              try clear p1
              try clear q1
              try clear hx1
              try clear qi1
              try clear c2
              try clear p2
              try clear c3
              try clear c3b0
              try clear c3b1
              try clear c4
              try clear c4b0
              try clear c4b1
              try clear p6
              try clear c7
              try clear c8
              try clear c8b0
              try clear c8b1
              try clear p10
              try clear q10
              try clear hx10
              try clear qi10
              try clear c11
              try clear c11b0
              try clear c12
              try clear c12b0
              try clear c13
              try clear c13b0
              try clear c15
              try clear c17
              try clear c18
              try clear c24
              try clear c28
              try clear c28b0
              try clear c29
              try clear c29b0
              try clear c30
              try clear c30b0
              try clear c32
              try clear hcz10_0
              try clear hcz10_1
              try clear hcz18_0
              try clear hcz18_1
              try clear hcz19_0
              try clear hcz19_1
              try clear hcz21_0
              try clear hcz21_1
              try clear hcz22_0
              try clear hcz22_1
              try clear hcz25_0
              try clear hcz25_1
              try clear hcz26_0
              try clear hcz26_1
              try clear hcz33_0
              try clear hcz33_1
              try clear hfz10_0
              try clear hfz10_1
              try clear hfz18_0
              try clear hfz18_1
              try clear hfz19_0
              try clear hfz19_1
              try clear hfz21_0
              try clear hfz21_1
              try clear hfz22_0
              try clear hfz22_1
              try clear hfz25_0
              try clear hfz25_1
              try clear hfz26_0
              try clear hfz26_1
              try clear hfz33_0
              try clear hfz33_1
              try clear hx102_0
              try clear hx102_1
              try clear hx104_0
              try clear hx104_1
              try clear hx107_0
              try clear hx107_1
              try clear p1
              try clear p10
              try clear p102
              try clear p104
              try clear p107
              try clear p2
              try clear p6
              try clear q1
              try clear q10
              try clear q102
              try clear q104
              try clear q107
              obtain ⟨x5_4, x53_4, rfl, rfl, HA, HK4, BK103, BK108, HB⟩ := hrel
              cases gk with
              | zero => exact absurd HA.out (by simp [impl_HullOf.l2])
              | succ k4 =>
               have H := HA.out
               clear HA
               simp only [impl_HullOf.l2] at H
               by_cases c34 : x53_4 < (l0.length : Int)
               ·rw [if_pos c34] at H
                have c34b0 : decide (x53_4 < (l0.length : Int)) = true := decide_eq_true c34
                clear c34
                by_cases c35 : 0 ≤ x53_4
                ·rw [if_pos c35] at H
                 have c35b0 : decide (0 ≤ x53_4) = true := decide_eq_true c35
                 clear c35
                 by_cases c36 : x53_4 < (l0.length : Int)
                 ·rw [if_pos c36] at H
                  have c36b0 : decide (x53_4 < (l0.length : Int)) = true := decide_eq_true c36
                  clear c36
                  by_cases c37 : x5_4 = true
                  ·subst c37
                   have H1 : ((impl_cross.f x104000_2 x104001_2 ((rd_T44 l0 x47_3).f0) ((rd_T44 l0 x47_3).f1) ((rd_T44 l0 x53_4).f0) ((rd_T44 l0 x53_4).f1)).bind fun t111 => (impl_HullOf.l2 k4 l0 (t111 == 0) l0 (l0.length : Int) x47_3 l0 (l0.length : Int) (wrap64 (x53_4 + 1)) x104000_2 x104001_2 ((rd_T44 l0 x47_3).f0) ((rd_T44 l0 x47_3).f1))) = some (r1, r2) := by rw [if_pos rfl] at H; exact H
                   clear H
                   have H := H1
                   clear H1
                   replace H := Option.bind_eq_some_iff.mp H
                   obtain ⟨t111, A380, H⟩ := H
                   replace H : (impl_HullOf.l2 k4 l0 (t111 == 0) l0 (l0.length : Int) x47_3 l0 (l0.length : Int) (wrap64 (x53_4 + 1)) x104000_2 x104001_2 ((rd_T44 l0 x47_3).f0) ((rd_T44 l0 x47_3).f1)) = some (r1, r2) := H
                   have A38 := Ak A380
                   clear A380
                   have H' := Ak H
                   clear H
                   have p109 : 0 ≤ (x53_4 : Int) := of_decide_eq_true (by first | (with_reducible assumption) | assumption)
                   have q109 : x53_4 < (l0.length : Int) := of_decide_eq_true (by first | (with_reducible assumption) | assumption)
                   obtain ⟨ad109, e109, hx109_0, hx109_1⟩ := at_T44 HR0.out x53_4 p109 q109
                   obtain rfl : ad102 = ad109 := (by injection e109)
                   replace hx109_0 := cB HB.out hx109_0
                   replace hx109_1 := cB HB.out hx109_1
                   replace p109 := eq_true p109
                   replace q109 := eq_true q109
                   go_wp2_with (first | ((with_reducible refine gate_dst (N := 11) rfl ?_); (try (refine gate_guard (by rfl) ?_; dsimp only)); refine box_event ?hg (N := 11) ?hd (cs := #[.int .i64 0, .int .i64 0]) (t := 44) ?hr ?_; (case hd | hg => rfl); (case hr => first | (go_simp; done) | (go_simp; rfl)); intro gb110 hg w39 hbox hb; have m0_ := bK (g := gb103) (o := .cells #[.int .i64 x104000_2, .int .i64 x104001_2] 44 (0, 0)) (by exact BK103.out) hb; have n0_ := Ak (blk_below m0_ hb); have m1_ := bK (g := gb108) (o := .cells #[.int .i64 ((rd_T44 l0 x47_3).f0), .int .i64 ((rd_T44 l0 x47_3).f1)] 44 (0, 0)) (by exact BK108.out) hb; have n1_ := Ak (blk_below m1_ hb); have n2_ := Ak (below_step (by repeat (first | exact HB.out | apply bA | apply bD | apply bE | refine below_set ?_ GE103.out | refine below_set ?_ GE108.out)) hb); have n3_ := Ak (hbox); have n4_ := Ak ((by rw [hg]; exact (below_size (by repeat (first | exact HB.out | apply bA | apply bD | apply bE | refine below_set ?_ GE103.out | refine below_set ?_ GE108.out))) : w.heap.size ≤ gb110)); have n5_ := n4_; have n6_ := Ak ((by rw [hg]; exact Nat.ne_of_lt (blk_lt m0_) : gb103 ≠ gb110)); have n7_ := Ak n6_.out.symm; have n8_ := Ak ((by rw [hg]; exact Nat.ne_of_lt (blk_lt m1_) : gb108 ≠ gb110)); have n9_ := Ak n8_.out.symm; clear BK103; clear BK108; clear HB; have BK103 := n0_; have BK108 := n1_; have HB := n2_; have BK110 := n3_; have GW110 := n4_; have GE110 := n5_; have NB103_110 := n6_; have NB110_103 := n7_; have NB108_110 := n8_; have NB110_108 := n9_; clear n0_ n1_ n2_ n3_ n4_ n5_ n6_ n7_ n8_ n9_; clear hb hbox hg; have hnb40 := NB110_103.out; have hnc40 := NB103_110.out; have hnb41 := NB110_108.out; have hnc41 := NB108_110.out; have hcz42_0 : w39.cell? ⟨gb110, 0, none⟩ = some (.int .i64 0) := (blk_cell BK110.out 0).trans rfl; have hcz42_1 : w39.cell? ⟨gb110, 1, none⟩ = some (.int .i64 0) := (blk_cell BK110.out 1).trans rfl; have hfz42_0 := blk_frozen BK110.out 0; have hfz42_1 := blk_frozen BK110.out 1; have hnb43 := NB103_108.out; have hnc43 := NB108_103.out; have hcz44_0 : w39.cell? ⟨gb103, 0, none⟩ = some (.int .i64 x104000_2) := (blk_cell BK103.out 0).trans rfl; have hcz44_1 : w39.cell? ⟨gb103, 1, none⟩ = some (.int .i64 x104001_2) := (blk_cell BK103.out 1).trans rfl; have hfz44_0 := blk_frozen BK103.out 0; have hfz44_1 := blk_frozen BK103.out 1; have hcz45_0 : w39.cell? ⟨gb108, 0, none⟩ = some (.int .i64 ((rd_T44 l0 x47_3).f0)) := (blk_cell BK108.out 0).trans rfl; have hcz45_1 : w39.cell? ⟨gb108, 1, none⟩ = some (.int .i64 ((rd_T44 l0 x47_3).f1)) := (blk_cell BK108.out 1).trans rfl; have hfz45_0 := blk_frozen BK108.out 0; have hfz45_1 := blk_frozen BK108.out 1) | (go_at_call 50; (with_reducible refine (impl_cross.calls x104000_2 x104001_2 ((rd_T44 l0 x47_3).f0) ((rd_T44 l0 x47_3).f1) ((rd_T44 l0 x53_4).f0) ((rd_T44 l0 x53_4).f1) t111 _ A38.out).mono ?_); rintro e w46 ⟨rfl, hb⟩; have n0_ := Ak (blk_below (g := gb103) (o := .cells #[.int .i64 x104000_2, .int .i64 x104001_2] 44 (0, 0)) (by refine blk_far ?_ NB103_110.out _; refine blk_far ?_ NB103_110.out _; exact BK103.out) hb); have n1_ := Ak (blk_below (g := gb108) (o := .cells #[.int .i64 ((rd_T44 l0 x47_3).f0), .int .i64 ((rd_T44 l0 x47_3).f1)] 44 (0, 0)) (by refine blk_far ?_ NB108_110.out _; refine blk_far ?_ NB108_110.out _; exact BK108.out) hb); have n2_ := Ak (blk_below (g := gb110) (o := .cells #[.int .i64 ((rd_T44 l0 x53_4).f0), .int .i64 ((rd_T44 l0 x53_4).f1)] 44 (0, 0)) (by refine blk_put (cs := #[.int .i64 ((rd_T44 l0 x53_4).f0), .int .i64 0]) ?_ 1 _ rfl; refine blk_put (cs := #[.int .i64 0, .int .i64 0]) ?_ 0 _ rfl; exact BK110.out) hb); have n3_ := Ak (below_step (by repeat (first | exact HB.out | apply bA | apply bD | apply bE | refine below_set ?_ GE103.out | refine below_set ?_ GE108.out | refine below_set ?_ GE110.out)) hb); clear BK103; clear BK108; clear BK110; clear HB; have BK103 := n0_; have BK108 := n1_; have BK110 := n2_; have HB := n3_; clear n0_ n1_ n2_ n3_; (try clear hb); (try clear hb2); (try clear hk); (try clear hi)))
                   go_roundg k4
                   case measure => have := HJ1.out; have := HK2.out; have := HK3.out; have := HK4.out; omega
                   case rel => exact ⟨((t111 == 0)), (wrap64 (x53_4 + 1)), (by first | rfl | (simp; done) | (simp [*]; done)), (by first | rfl | (simp; done) | (simp [*]; done)), H', ⟨by have := HJ1.out; have := HK2.out; have := HK3.out; have := HK4.out; omega⟩, ⟨by exact BK103.out⟩, ⟨by exact BK108.out⟩, ⟨by repeat (first | (with_reducible first | exact HB.out | apply bA | apply bD | apply bE | refine below_set ?_ GE103.out | refine below_set ?_ GE108.out | refine below_set ?_ GE110.out) | exact HB.out)⟩⟩
                  ·replace c37 := Bool.eq_false_iff.mpr c37
                   subst c37
                   have H1 : (impl_HullOf.l2 k4 l0 false l0 (l0.length : Int) x47_3 l0 (l0.length : Int) (wrap64 (x53_4 + 1)) x104000_2 x104001_2 ((rd_T44 l0 x47_3).f0) ((rd_T44 l0 x47_3).f1)) = some (r1, r2) := by rw [if_neg (show ¬ (false = true) by decide)] at H; exact H
                   clear H
                   have H := H1
                   clear H1
                   have H' := Ak H
                   clear H
                   have p109 : 0 ≤ (x53_4 : Int) := of_decide_eq_true (by first | (with_reducible assumption) | assumption)
                   have q109 : x53_4 < (l0.length : Int) := of_decide_eq_true (by first | (with_reducible assumption) | assumption)
                   obtain ⟨ad109, e109, hx109_0, hx109_1⟩ := at_T44 HR0.out x53_4 p109 q109
                   obtain rfl : ad102 = ad109 := (by injection e109)
                   replace hx109_0 := cB HB.out hx109_0
                   replace hx109_1 := cB HB.out hx109_1
                   replace p109 := eq_true p109
                   replace q109 := eq_true q109
                   go_wp2_with (first | ((with_reducible refine gate_dst (N := 11) rfl ?_); (try (refine gate_guard (by rfl) ?_; dsimp only)); refine box_event ?hg (N := 11) ?hd (cs := #[.int .i64 0, .int .i64 0]) (t := 44) ?hr ?_; (case hd | hg => rfl); (case hr => first | (go_simp; done) | (go_simp; rfl)); intro gb110 hg w47 hbox hb; have m0_ := bK (g := gb103) (o := .cells #[.int .i64 x104000_2, .int .i64 x104001_2] 44 (0, 0)) (by exact BK103.out) hb; have n0_ := Ak (blk_below m0_ hb); have m1_ := bK (g := gb108) (o := .cells #[.int .i64 ((rd_T44 l0 x47_3).f0), .int .i64 ((rd_T44 l0 x47_3).f1)] 44 (0, 0)) (by exact BK108.out) hb; have n1_ := Ak (blk_below m1_ hb); have n2_ := Ak (below_step (by repeat (first | exact HB.out | apply bA | apply bD | apply bE | refine below_set ?_ GE103.out | refine below_set ?_ GE108.out)) hb); have n3_ := Ak (hbox); have n4_ := Ak ((by rw [hg]; exact (below_size (by repeat (first | exact HB.out | apply bA | apply bD | apply bE | refine below_set ?_ GE103.out | refine below_set ?_ GE108.out))) : w.heap.size ≤ gb110)); have n5_ := n4_; have n6_ := Ak ((by rw [hg]; exact Nat.ne_of_lt (blk_lt m0_) : gb103 ≠ gb110)); have n7_ := Ak n6_.out.symm; have n8_ := Ak ((by rw [hg]; exact Nat.ne_of_lt (blk_lt m1_) : gb108 ≠ gb110)); have n9_ := Ak n8_.out.symm; clear BK103; clear BK108; clear HB; have BK103 := n0_; have BK108 := n1_; have HB := n2_; have BK110 := n3_; have GW110 := n4_; have GE110 := n5_; have NB103_110 := n6_; have NB110_103 := n7_; have NB108_110 := n8_; have NB110_108 := n9_; clear n0_ n1_ n2_ n3_ n4_ n5_ n6_ n7_ n8_ n9_; clear hb hbox hg; have hnb48 := NB110_103.out; have hnc48 := NB103_110.out; have hnb49 := NB110_108.out; have hnc49 := NB108_110.out; have hcz50_0 : w47.cell? ⟨gb110, 0, none⟩ = some (.int .i64 0) := (blk_cell BK110.out 0).trans rfl; have hcz50_1 : w47.cell? ⟨gb110, 1, none⟩ = some (.int .i64 0) := (blk_cell BK110.out 1).trans rfl; have hfz50_0 := blk_frozen BK110.out 0; have hfz50_1 := blk_frozen BK110.out 1))
                   go_roundg k4
                   case measure => have := HJ1.out; have := HK2.out; have := HK3.out; have := HK4.out; omega
                   case rel => exact ⟨(false), (wrap64 (x53_4 + 1)), (by first | rfl | (simp; done) | (simp [*]; done)), (by first | rfl | (simp; done) | (simp [*]; done)), H', ⟨by have := HJ1.out; have := HK2.out; have := HK3.out; have := HK4.out; omega⟩, ⟨by refine blk_far ?_ NB103_110.out _; refine blk_far ?_ NB103_110.out _; exact BK103.out⟩, ⟨by refine blk_far ?_ NB108_110.out _; refine blk_far ?_ NB108_110.out _; exact BK108.out⟩, ⟨by repeat (first | (with_reducible first | exact HB.out | apply bA | apply bD | apply bE | refine below_set ?_ GE103.out | refine below_set ?_ GE108.out | refine below_set ?_ GE110.out) | exact HB.out)⟩⟩
                 ·rw [if_neg c36] at H
                  exact absurd H (by simp)
                ·rw [if_neg c35] at H
                 exact absurd H (by simp)
               ·rw [if_neg c34] at H
                have c34b0 : decide (x53_4 < (l0.length : Int)) = false := decide_eq_false c34
                clear c34
                have H' := Ak H
                clear H
                go_wp2
                go_roundg k4
                case measure => have := HJ1.out; have := HK2.out; have := HK3.out; have := HK4.out; omega
                case rel => exact ⟨(x5_4), (wrap64 (x47_3 + 1)), (by first | rfl | (simp; done) | (simp [*]; done)), (by first | rfl | (simp; done) | (simp [*]; done)), H', ⟨by have := HJ1.out; have := HK2.out; have := HK3.out; have := HK4.out; omega⟩, ⟨by exact BK103.out⟩, ⟨by repeat (first | (with_reducible first | exact HB.out | apply bA | apply bD | apply bE | refine below_set ?_ GE103.out | refine below_set ?_ GE108.out) | exact HB.out)⟩⟩
            ·rw [if_neg c30] at H
             exact absurd H (by simp)
           ·rw [if_neg c29] at H
            exact absurd H (by simp)
          ·rw [if_neg c28] at H
           have c28b0 : decide (x47_3 < (l0.length : Int)) = false := decide_eq_false c28
           clear c28
           by_cases c51 : x5_3 = true
           ·subst c51
            have H1 : (some (([] : List (S44)), false)) = some (r1, r2) := by rw [if_pos rfl] at H; exact H
            clear H
            have H := H1
            clear H1
            simp only [Option.some.injEq, Prod.mk.injEq] at H
            obtain ⟨rfl, rfl⟩ := H
            go_wp2
            go_ret2
            exact ⟨_, by first | rfl | (simp [*, errW_none, errW_some] <;> rfl), by first | exact Kd.R_nil _ _ _ _ _ | exact Kd.N_nil _ _ _ _ _ | exact Kd.V_nil _ _ _ _ _ | exact Kd.Q_nil _ _ _ _ _ | exact Kd.S_nil _ _ _ _ _, by repeat (first | (with_reducible first | exact HB.out | apply bA | apply bD | apply bE | refine below_set ?_ GE103.out) | exact HB.out)⟩
           ·replace c51 := Bool.eq_false_iff.mpr c51
            subst c51
            have H1 : (impl_HullOf.l3 k3 l0 (([(⟨x104000_2, x104001_2⟩ : S44)] : List (S44))) x104000_2 x104001_2) = some (r1, r2) := by rw [if_neg (show ¬ (false = true) by decide)] at H; exact H
            clear H
            have H := H1
            clear H1
            obtain ⟨y112, hy112⟩ : ∃ y_ : List (S44), y_ = (([(⟨x104000_2, x104001_2⟩ : S44)] : List (S44))) := ⟨_, rfl⟩
            replace H : (impl_HullOf.l3 k3 l0 y112 x104000_2 x104001_2) = some (r1, r2) := by first | (rw [hy112]; exact H) | exact H
            have Ny112 := Ak hy112
            clear hy112
            have H' := Ak H
            clear H
            have hcz52_0 : wr.cell? ⟨gb103, 0, none⟩ = some (.int .i64 x104000_2) := (blk_cell BK103.out 0).trans rfl
            have hcz52_1 : wr.cell? ⟨gb103, 1, none⟩ = some (.int .i64 x104001_2) := (blk_cell BK103.out 1).trans rfl
            have hfz52_0 := blk_frozen BK103.out 0
            have hfz52_1 := blk_frozen BK103.out 1
            go_wp2_with (first | ((with_reducible refine gate_dst (N := 69) rfl ?_); (try (refine gate_guard (by rfl) ?_; dsimp only)); refine Kd.R_lit k44 _ 44 ?hg (N := 69) ?hd (xs := ([(⟨x104000_2, x104001_2⟩ : S44)] : List (S44))) (inner := [.int .i64 x104000_2, .int .i64 x104001_2]) (ok := fun _ => True) (okp := fun _ => True) ?hr ?hp (fun _ hk => hk) trivial (Below.refl _ _) (Nat.le_refl _) (by simp) ?_; (case hd | hg => rfl); (case hr => first | (go_simp; done) | (go_simp; rfl)); (case hp => exact (Reps.c2 (show Kd.M k44 _ _ _ (⟨x104000_2, x104001_2⟩ : S44) [.int .i64 x104000_2, .int .i64 x104001_2] from (k44_mkM _ _ _ (⟨x104000_2, x104001_2⟩ : S44) )) (Reps.none _ _))); intro v113 w53 ho54 hb hg_ hnew_; clear hg_ hnew_; (first | rw [← Ny112.out] at ho54 | (simp only [Int.reduceToNat] at ho54; rw [← Ny112.out] at ho54)); have n0_ := Ak (Kd.R_lower (Kd.R_newB ho54 (g := gb103) (o := .cells #[.int .i64 x104000_2, .int .i64 x104001_2] 44 (0, 0)) (by exact BK103.out)) (below_size (by repeat (first | exact HB.out | apply bA | apply bD | apply bE | refine below_set ?_ GE103.out)))); have n1_ := Ak (blk_below (g := gb103) (o := .cells #[.int .i64 x104000_2, .int .i64 x104001_2] 44 (0, 0)) (by exact BK103.out) hb); have n2_ := Ak (below_step (by repeat (first | exact HB.out | apply bA | apply bD | apply bE | refine below_set ?_ GE103.out)) hb); clear BK103; clear HB; have HO114 := n0_; have BK103 := n1_; have HB := n2_; clear n0_ n1_ n2_; clear hb ho54))
            go_loopg [12] k3 (fun kq v12 w' => ∃ (x12_4 : List (S44)), Aside0 (impl_HullOf.l3 kq l0 x12_4 x104000_2 x104001_2 = some (r1, r2)) ∧ Aside0 (kq ≤ k3) ∧ Aside0 (Kd.R k44 44 w' w.heap.size (fun k_ => k_ ≠ gb103) v12 x12_4) ∧ Aside0 (w'.heap[gb103]? = some (.cells #[.int .i64 x104000_2, .int .i64 x104001_2] 44 (0, 0))) ∧ Aside0 (Below w.heap.size w w'))
            case atStart => exact ⟨(y112), H', ⟨Nat.le_refl _⟩, ⟨by (with_reducible repeat (first | apply Kd.R_alloc | apply Kd.R_drewN | apply Kd.R_drew)); exact Kd.R_mono HO114.out (fun _ hk => hk.2)⟩, ⟨by exact BK103.out⟩, ⟨by repeat (first | (with_reducible first | exact HB.out | apply bA | apply bD | apply bE | refine below_set ?_ GE103.out) | exact HB.out)⟩⟩
            case round =>
             clear H'
             try clear c1
             try clear p1
             try clear q1
             try clear hx1
             try clear qi1
             try clear c2
             try clear p2
             try clear c3
             try clear c3b0
             try clear c3b1
             try clear c4
             try clear c4b0
             try clear c4b1
             try clear c5
             try clear p6
             try clear c7
             try clear c8
             try clear c8b0
             try clear c8b1
             try clear p10
             try clear q10
             try clear hx10
             try clear qi10
             try clear c11
             try clear c11b0
             try clear c12
             try clear c12b0
             try clear c13
             try clear c13b0
             try clear c15
             try clear c17
             try clear c18
             try clear c24
             try clear c28
             try clear c28b0
             try clear c29
             try clear c29b0
             try clear c30
             try clear c30b0
             try clear c32
             try clear c34
             try clear c34b0
             try clear c35
             try clear c35b0
             try clear c36
             try clear c36b0
             try clear c37
             try clear c40
             try clear c41
             try clear c43
             try clear c48
             try clear c49
             try clear c51
             try clear hcz10_0
             try clear hcz10_1
             try clear hcz18_0
             try clear hcz18_1
             try clear hcz19_0
             try clear hcz19_1
             try clear hcz21_0
             try clear hcz21_1
             try clear hcz22_0
             try clear hcz22_1
             try clear hcz25_0
             try clear hcz25_1
             try clear hcz26_0
             try clear hcz26_1
             try clear hcz33_0
             try clear hcz33_1
             try clear hcz42_0
             try clear hcz42_1
             try clear hcz44_0
             try clear hcz44_1
             try clear hcz45_0
             try clear hcz45_1
             try clear hcz50_0
             try clear hcz50_1
             try clear hcz52_0
             try clear hcz52_1
             try clear hfz10_0
             try clear hfz10_1
             try clear hfz18_0
             try clear hfz18_1
             try clear hfz19_0
             try clear hfz19_1
             try clear hfz21_0
             try clear hfz21_1
             try clear hfz22_0
             try clear hfz22_1
             try clear hfz25_0
             try clear hfz25_1
             try clear hfz26_0
             try clear hfz26_1
             try clear hfz33_0
             try clear hfz33_1
             try clear hfz42_0
             try clear hfz42_1
             try clear hfz44_0
             try clear hfz44_1
             try clear hfz45_0
             try clear hfz45_1
             try clear hfz50_0
             try clear hfz50_1
             try clear hfz52_0
             try clear hfz52_1
             try clear hx102_0
             try clear hx102_1
             try clear hx104_0
             try clear hx104_1
             try clear hx107_0
             try clear hx107_1
             try clear hx109_0
             try clear hx109_1
             try clear p1
             try clear p10
             try clear p102
             try clear p104
             try clear p107
             try clear p109
             try clear p2
             try clear p6
             try clear q1
             try clear q10
             try clear q102
             try clear q104
             try clear q107
             try clear q109
             obtain ⟨x12_4, HA, HK4, HO_12, BK103, HB⟩ := hrel
             cases gk with
             | zero => exact absurd HA.out (by simp [impl_HullOf.l3])
             | succ k4 =>
              have H := HA.out
              clear HA
              simp only [impl_HullOf.l3] at H
              obtain ⟨ji55, hji55⟩ : ∃ j_ : Int, (wrap64 ((x12_4.length : Int) - 1)) = j_ := ⟨_, rfl⟩
              replace H : (if 0 ≤ (ji55) then (if (ji55) < (x12_4.length : Int) then (impl_HullOf.l4 k4 l0 x12_4 l0 (l0.length : Int) 0 x104000_2 x104001_2 ((rd_T44 x12_4 (ji55)).f0) ((rd_T44 x12_4 (ji55)).f1) ((rd_T44 x12_4 (ji55)).f0) ((rd_T44 x12_4 (ji55)).f1)) else (none)) else (none)) = some (r1, r2) := by first | (rw [hji55] at H; exact H) | (simp only [hji55] at H ⊢; exact H)
              have hji55w : (IntKind.i64.wrap ((x12_4.length : Int) - 1)) = ji55 := (i64_w _).trans hji55
              by_cases c56 : 0 ≤ (ji55)
              ·rw [if_pos c56] at H
               have c56b0 : decide (0 ≤ (ji55)) = true := decide_eq_true c56
               clear c56
               by_cases c57 : (ji55) < (x12_4.length : Int)
               ·rw [if_pos c57] at H
                have c57b0 : decide ((ji55) < (x12_4.length : Int)) = true := decide_eq_true c57
                clear c57
                have H' := Ak H
                clear H
                obtain ⟨Ao58, co58, eo58⟩ := Kd.R_slice HO_12.out
                subst eo58
                have p115 : 0 ≤ ((ji55) : Int) := of_decide_eq_true (by first | (with_reducible assumption) | assumption)
                have q115 : (ji55) < (x12_4.length : Int) := of_decide_eq_true (by first | (with_reducible assumption) | assumption)
                obtain ⟨ad115, e115, hx115_0, hx115_1⟩ := at_T44 (Kd.R_reads' HO_12.out).2.2 (ji55) p115 q115
                cases e115
                replace p115 := eq_true p115
                replace q115 := eq_true q115
                go_wp2_with (first | ((with_reducible refine gate_dst (N := 13) rfl ?_); (try (refine gate_guard (by rfl) ?_; dsimp only)); refine box_event ?hg (N := 13) ?hd (cs := #[.int .i64 0, .int .i64 0]) (t := 44) ?hr ?_; (case hd | hg => rfl); (case hr => first | (go_simp; done) | (go_simp; rfl)); intro gb116 hg w59 hbox hb; have n0_ := Ak (Kd.R_below (Kd.R_elderB (by (with_reducible repeat (first | apply Kd.R_alloc | apply Kd.R_drewN | apply Kd.R_drew)); exact HO_12.out) gb116 (Nat.le_of_eq hg.symm)) hb); have m1_ := bK (g := gb103) (o := .cells #[.int .i64 x104000_2, .int .i64 x104001_2] 44 (0, 0)) (by exact BK103.out) hb; have n1_ := Ak (blk_below m1_ hb); have n2_ := Ak (below_step (by repeat (first | exact HB.out | apply bA | apply bD | apply bE | refine below_set ?_ GE103.out)) hb); have n3_ := Ak (hbox); have n4_ := Ak ((by rw [hg]; exact (below_size (by repeat (first | exact HB.out | apply bA | apply bD | apply bE | refine below_set ?_ GE103.out))) : w.heap.size ≤ gb116)); have n5_ := n4_; have n6_ := Ak ((by rw [hg]; exact Nat.ne_of_lt (blk_lt m1_) : gb103 ≠ gb116)); have n7_ := Ak n6_.out.symm; clear HO_12; clear BK103; clear HB; have HO_12 := n0_; have BK103 := n1_; have HB := n2_; have BK116 := n3_; have GW116 := n4_; have GE116 := n5_; have NB103_116 := n6_; have NB116_103 := n7_; clear n0_ n1_ n2_ n3_ n4_ n5_ n6_ n7_; clear hb hbox hg; have hnb60 := NB116_103.out; have hnc60 := NB103_116.out; have hcz61_0 : w59.cell? ⟨gb116, 0, none⟩ = some (.int .i64 0) := (blk_cell BK116.out 0).trans rfl; have hcz61_1 : w59.cell? ⟨gb116, 1, none⟩ = some (.int .i64 0) := (blk_cell BK116.out 1).trans rfl; have hfz61_0 := blk_frozen BK116.out 0; have hfz61_1 := blk_frozen BK116.out 1) | ((with_reducible refine gate_dst (N := 14) rfl ?_); (try (refine gate_guard (by rfl) ?_; dsimp only)); refine box_event ?hg (N := 14) ?hd (cs := #[.int .i64 0, .int .i64 0]) (t := 44) ?hr ?_; (case hd | hg => rfl); (case hr => first | (go_simp; done) | (go_simp; rfl)); intro gb117 hg w62 hbox hb; have n0_ := Ak (Kd.R_below (Kd.R_elderB (by (with_reducible repeat (first | apply Kd.R_alloc | apply Kd.R_drewN | apply Kd.R_drew)); exact (Kd.R_mono (Kd.R_far (p := ⟨gb116, 1, none⟩) (Kd.R_far (p := ⟨gb116, 0, none⟩) (Kd.R_mono HO_12.out (fun k_ hk => (⟨hk, hk.2⟩ : _ ∧ k_ ≠ gb116))) (fun _ hk => hk.2) (.int .i64 ((rd_T44 x12_4 (ji55)).f0))) (fun _ hk => hk.2) (.int .i64 ((rd_T44 x12_4 (ji55)).f1))) (fun _ h_ => h_.1))) gb117 (Nat.le_of_eq hg.symm)) hb); have m1_ := bK (g := gb103) (o := .cells #[.int .i64 x104000_2, .int .i64 x104001_2] 44 (0, 0)) (by refine blk_far ?_ NB103_116.out _; refine blk_far ?_ NB103_116.out _; exact BK103.out) hb; have n1_ := Ak (blk_below m1_ hb); have m2_ := bK (g := gb116) (o := .cells #[.int .i64 ((rd_T44 x12_4 (ji55)).f0), .int .i64 ((rd_T44 x12_4 (ji55)).f1)] 44 (0, 0)) (by refine blk_put (cs := #[.int .i64 ((rd_T44 x12_4 (ji55)).f0), .int .i64 0]) ?_ 1 _ rfl; refine blk_put (cs := #[.int .i64 0, .int .i64 0]) ?_ 0 _ rfl; exact BK116.out) hb; have n2_ := Ak (blk_below m2_ hb); have n3_ := Ak (below_step (by repeat (first | exact HB.out | apply bA | apply bD | apply bE | refine below_set ?_ GE103.out | refine below_set ?_ GE116.out)) hb); have n4_ := Ak (hbox); have n5_ := Ak ((by rw [hg]; exact (below_size (by repeat (first | exact HB.out | apply bA | apply bD | apply bE | refine below_set ?_ GE103.out | refine below_set ?_ GE116.out))) : w.heap.size ≤ gb117)); have n6_ := n5_; have n7_ := Ak ((by rw [hg]; exact Nat.ne_of_lt (blk_lt m1_) : gb103 ≠ gb117)); have n8_ := Ak n7_.out.symm; have n9_ := Ak ((by rw [hg]; exact Nat.ne_of_lt (blk_lt m2_) : gb116 ≠ gb117)); have n10_ := Ak n9_.out.symm; clear HO_12; clear BK103; clear BK116; clear HB; have HO_12 := n0_; have BK103 := n1_; have BK116 := n2_; have HB := n3_; have BK117 := n4_; have GW117 := n5_; have GE117 := n6_; have NB103_117 := n7_; have NB117_103 := n8_; have NB116_117 := n9_; have NB117_116 := n10_; clear n0_ n1_ n2_ n3_ n4_ n5_ n6_ n7_ n8_ n9_ n10_; clear hb hbox hg; have hnb63 := NB117_103.out; have hnc63 := NB103_117.out; have hnb64 := NB117_116.out; have hnc64 := NB116_117.out; have hcz65_0 : w62.cell? ⟨gb117, 0, none⟩ = some (.int .i64 0) := (blk_cell BK117.out 0).trans rfl; have hcz65_1 : w62.cell? ⟨gb117, 1, none⟩ = some (.int .i64 0) := (blk_cell BK117.out 1).trans rfl; have hfz65_0 := blk_frozen BK117.out 0; have hfz65_1 := blk_frozen BK117.out 1))
                go_loopg [79] k4 (fun kq v79 w' => ∃ (x79_5 : Int) (x118000_5 : Int) (x118001_5 : Int), v79 = .int .i64 x79_5 ∧ Aside0 (impl_HullOf.l4 kq l0 x12_4 l0 (l0.length : Int) x79_5 x104000_2 x104001_2 ((rd_T44 x12_4 (ji55)).f0) ((rd_T44 x12_4 (ji55)).f1) x118000_5 x118001_5 = some (r1, r2)) ∧ Aside0 (kq ≤ k4) ∧ Aside0 (Kd.R k44 44 w' w.heap.size (fun k_ => k_ ≠ gb103 ∧ k_ ≠ gb116 ∧ k_ ≠ gb117) (.slice (some ad115) x12_4.length co58) x12_4) ∧ Aside0 (w'.heap[gb103]? = some (.cells #[.int .i64 x104000_2, .int .i64 x104001_2] 44 (0, 0))) ∧ Aside0 (w'.heap[gb116]? = some (.cells #[.int .i64 ((rd_T44 x12_4 (ji55)).f0), .int .i64 ((rd_T44 x12_4 (ji55)).f1)] 44 (0, 0))) ∧ Aside0 (w'.heap[gb117]? = some (.cells #[.int .i64 x118000_5, .int .i64 x118001_5] 44 (0, 0))) ∧ Aside0 (Below w.heap.size w w'))
                case atStart => exact ⟨(0), ((rd_T44 x12_4 (ji55)).f0), ((rd_T44 x12_4 (ji55)).f1), (by first | rfl | (simp; done) | (simp [*]; done)), H', ⟨Nat.le_refl _⟩, ⟨by (with_reducible repeat (first | apply Kd.R_alloc | apply Kd.R_drewN | apply Kd.R_drew)); exact Kd.R_mono (Kd.R_far (p := ⟨gb117, 1, none⟩) (Kd.R_far (p := ⟨gb117, 0, none⟩) (Kd.R_mono HO_12.out (fun k_ hk => (⟨hk, hk.2⟩ : _ ∧ k_ ≠ gb117))) (fun _ hk => hk.2) (.int .i64 ((rd_T44 x12_4 (ji55)).f0))) (fun _ hk => hk.2) (.int .i64 ((rd_T44 x12_4 (ji55)).f1))) (fun _ hk => ⟨hk.1.1.1, ⟨hk.1.1.2, hk.1.2⟩⟩)⟩, ⟨by refine blk_far ?_ NB103_117.out _; refine blk_far ?_ NB103_117.out _; exact BK103.out⟩, ⟨by refine blk_far ?_ NB116_117.out _; refine blk_far ?_ NB116_117.out _; exact BK116.out⟩, ⟨by refine blk_put (cs := #[.int .i64 ((rd_T44 x12_4 (ji55)).f0), .int .i64 0]) ?_ 1 _ rfl; refine blk_put (cs := #[.int .i64 0, .int .i64 0]) ?_ 0 _ rfl; exact BK117.out⟩, ⟨by repeat (first | (with_reducible first | exact HB.out | apply bA | apply bD | apply bE | refine below_set ?_ GE103.out | refine below_set ?_ GE116.out | refine below_set ?_ GE117.out) | exact HB.out)⟩⟩
                case round =>
                 clear H'
                 try clear c1
                 try clear p1
                 try clear q1
                 try clear hx1
                 try clear qi1
                 try clear c2
                 try clear p2
                 try clear c3
                 try clear c3b0
                 try clear c3b1
                 try clear c4
                 try clear c4b0
                 try clear c4b1
                 try clear c5
                 try clear c6
                 try clear p6
                 try clear c7
                 try clear c8
                 try clear c8b0
                 try clear c8b1
                 try clear p10
                 try clear q10
                 try clear hx10
                 try clear qi10
                 try clear c11
                 try clear c11b0
                 try clear p11
                 try clear q11
                 try clear hx11
                 try clear c12
                 try clear c12b0
                 try clear c13
                 try clear c13b0
                 try clear c15
                 try clear c17
                 try clear c18
                 try clear c24
                 try clear c28
                 try clear c28b0
                 try clear c29
                 try clear c29b0
                 try clear c30
                 try clear c30b0
                 try clear c32
                 try clear c34
                 try clear c34b0
                 try clear c35
                 try clear c35b0
                 try clear c36
                 try clear c36b0
                 try clear c37
                 try clear c40
                 try clear c41
                 try clear c43
                 try clear c48
                 try clear c49
                 try clear c51
                 try clear c56
                 try clear c56b0
                 try clear c57
                 try clear c57b0
                 try clear c60
                 try clear c63
                 try clear c64
                 try clear p64
                 try clear hcz10_0
                 try clear hcz10_1
                 try clear hcz18_0
                 try clear hcz18_1
                 try clear hcz19_0
                 try clear hcz19_1
                 try clear hcz21_0
                 try clear hcz21_1
                 try clear hcz22_0
                 try clear hcz22_1
                 try clear hcz25_0
                 try clear hcz25_1
                 try clear hcz26_0
                 try clear hcz26_1
                 try clear hcz33_0
                 try clear hcz33_1
                 try clear hcz42_0
                 try clear hcz42_1
                 try clear hcz44_0
                 try clear hcz44_1
                 try clear hcz45_0
                 try clear hcz45_1
                 try clear hcz50_0
                 try clear hcz50_1
                 try clear hcz52_0
                 try clear hcz52_1
                 try clear hcz61_0
                 try clear hcz61_1
                 try clear hcz65_0
                 try clear hcz65_1
                 try clear hfz10_0
                 try clear hfz10_1
                 try clear hfz18_0
                 try clear hfz18_1
                 try clear hfz19_0
                 try clear hfz19_1
                 try clear hfz21_0
                 try clear hfz21_1
                 try clear hfz22_0
                 try clear hfz22_1
                 try clear hfz25_0
                 try clear hfz25_1
                 try clear hfz26_0
                 try clear hfz26_1
                 try clear hfz33_0
                 try clear hfz33_1
                 try clear hfz42_0
                 try clear hfz42_1
                 try clear hfz44_0
                 try clear hfz44_1
                 try clear hfz45_0
                 try clear hfz45_1
                 try clear hfz50_0
                 try clear hfz50_1
                 try clear hfz52_0
                 try clear hfz52_1
                 try clear hfz61_0
                 try clear hfz61_1
                 try clear hfz65_0
                 try clear hfz65_1
                 try clear hx102_0
                 try clear hx102_1
                 try clear hx104_0
                 try clear hx104_1
                 try clear hx107_0
                 try clear hx107_1
                 try clear hx109_0
                 try clear hx109_1
                 try clear hx115_0
                 try clear hx115_1
                 try clear p1
                 try clear p10
                 try clear p102
                 try clear p104
                 try clear p107
                 try clear p109
                 try clear p115
                 try clear p2
                 try clear p6
                 try clear q1
                 try clear q10
                 try clear q102
                 try clear q104
                 try clear q107
                 try clear q109
                 try clear q115
                 obtain ⟨x79_5, x118000_5, x118001_5, rfl, HA, HK5, HO_12, BK103, BK116, BK117, HB⟩ := hrel
                 cases gk with
                 | zero => exact absurd HA.out (by simp [impl_HullOf.l4])
                 | succ k5 =>
                  have H := HA.out
                  clear HA
                  simp only [impl_HullOf.l4] at H
                  by_cases c66 : x79_5 < (l0.length : Int)
                  ·rw [if_pos c66] at H
                   have c66b0 : decide (x79_5 < (l0.length : Int)) = true := decide_eq_true c66
                   clear c66
                   by_cases c67 : 0 ≤ x79_5
                   ·rw [if_pos c67] at H
                    have c67b0 : decide (0 ≤ x79_5) = true := decide_eq_true c67
                    clear c67
                    by_cases c68 : x79_5 < (l0.length : Int)
                    ·rw [if_pos c68] at H
                     have c68b0 : decide (x79_5 < (l0.length : Int)) = true := decide_eq_true c68
                     clear c68
                     by_cases c69 : (((rd_T44 l0 x79_5).f0) == ((rd_T44 x12_4 (ji55)).f0) && (((rd_T44 l0 x79_5).f1) == ((rd_T44 x12_4 (ji55)).f1))) = true
                     ·rw [if_pos c69] at H
                      have c69b0 : (((rd_T44 l0 x79_5).f0) == ((rd_T44 x12_4 (ji55)).f0) && (((rd_T44 l0 x79_5).f1) == ((rd_T44 x12_4 (ji55)).f1))) = true := c69
                      (try (have c69b1 : decide (((rd_T44 l0 x79_5).f0) = ((rd_T44 x12_4 (ji55)).f0) && (((rd_T44 l0 x79_5).f1) == ((rd_T44 x12_4 (ji55)).f1))) = true := by simpa using c69))
                      (try (have c69b2 : (((rd_T44 l0 x79_5).f0) == ((rd_T44 x12_4 (ji55)).f0) && (((rd_T44 l0 x79_5).f1) == ((rd_T44 x12_4 (ji55)).f1))) = true := by simpa using c69))
                      clear c69
                      have H' := Ak H
                      clear H
                      have p121 : 0 ≤ (x79_5 : Int) := of_decide_eq_true (by first | (with_reducible assumption) | assumption)
                      have q121 : x79_5 < (l0.length : Int) := of_decide_eq_true (by first | (with_reducible assumption) | assumption)
                      obtain ⟨ad121, e121, hx121_0, hx121_1⟩ := at_T44 HR0.out x79_5 p121 q121
                      obtain rfl : ad102 = ad121 := (by injection e121)
                      replace hx121_0 := cB HB.out hx121_0
                      replace hx121_1 := cB HB.out hx121_1
                      replace p121 := eq_true p121
                      replace q121 := eq_true q121
                      go_wp2_with (first | ((with_reducible refine gate_dst (N := 16) rfl ?_); (try (refine gate_guard (by rfl) ?_; dsimp only)); refine box_event ?hg (N := 16) ?hd (cs := #[.int .i64 0, .int .i64 0]) (t := 44) ?hr ?_; (case hd | hg => rfl); (case hr => first | (go_simp; done) | (go_simp; rfl)); intro gb122 hg w70 hbox hb; have n0_ := Ak (Kd.R_below (Kd.R_elderB (by (with_reducible repeat (first | apply Kd.R_alloc | apply Kd.R_drewN | apply Kd.R_drew)); exact HO_12.out) gb122 (Nat.le_of_eq hg.symm)) hb); have m1_ := bK (g := gb103) (o := .cells #[.int .i64 x104000_2, .int .i64 x104001_2] 44 (0, 0)) (by exact BK103.out) hb; have n1_ := Ak (blk_below m1_ hb); have m2_ := bK (g := gb116) (o := .cells #[.int .i64 ((rd_T44 x12_4 (ji55)).f0), .int .i64 ((rd_T44 x12_4 (ji55)).f1)] 44 (0, 0)) (by exact BK116.out) hb; have n2_ := Ak (blk_below m2_ hb); have m3_ := bK (g := gb117) (o := .cells #[.int .i64 x118000_5, .int .i64 x118001_5] 44 (0, 0)) (by exact BK117.out) hb; have n3_ := Ak (blk_below m3_ hb); have n4_ := Ak (below_step (by repeat (first | exact HB.out | apply bA | apply bD | apply bE | refine below_set ?_ GE103.out | refine below_set ?_ GE116.out | refine below_set ?_ GE117.out)) hb); have n5_ := Ak (hbox); have n6_ := Ak ((by rw [hg]; exact (below_size (by repeat (first | exact HB.out | apply bA | apply bD | apply bE | refine below_set ?_ GE103.out | refine below_set ?_ GE116.out | refine below_set ?_ GE117.out))) : w.heap.size ≤ gb122)); have n7_ := n6_; have n8_ := Ak ((by rw [hg]; exact Nat.ne_of_lt (blk_lt m1_) : gb103 ≠ gb122)); have n9_ := Ak n8_.out.symm; have n10_ := Ak ((by rw [hg]; exact Nat.ne_of_lt (blk_lt m2_) : gb116 ≠ gb122)); have n11_ := Ak n10_.out.symm; have n12_ := Ak ((by rw [hg]; exact Nat.ne_of_lt (blk_lt m3_) : gb117 ≠ gb122)); have n13_ := Ak n12_.out.symm; clear HO_12; clear BK103; clear BK116; clear BK117; clear HB; have HO_12 := n0_; have BK103 := n1_; have BK116 := n2_; have BK117 := n3_; have HB := n4_; have BK122 := n5_; have GW122 := n6_; have GE122 := n7_; have NB103_122 := n8_; have NB122_103 := n9_; have NB116_122 := n10_; have NB122_116 := n11_; have NB117_122 := n12_; have NB122_117 := n13_; clear n0_ n1_ n2_ n3_ n4_ n5_ n6_ n7_ n8_ n9_ n10_ n11_ n12_ n13_; clear hb hbox hg; have hnb71 := NB122_103.out; have hnc71 := NB103_122.out; have hnb72 := NB122_116.out; have hnc72 := NB116_122.out; have hnb73 := NB122_117.out; have hnc73 := NB117_122.out; have hcz74_0 : w70.cell? ⟨gb122, 0, none⟩ = some (.int .i64 0) := (blk_cell BK122.out 0).trans rfl; have hcz74_1 : w70.cell? ⟨gb122, 1, none⟩ = some (.int .i64 0) := (blk_cell BK122.out 1).trans rfl; have hfz74_0 := blk_frozen BK122.out 0; have hfz74_1 := blk_frozen BK122.out 1; have hnb75 := NB116_103.out; have hnc75 := NB103_116.out; have hnb76 := NB116_117.out; have hnc76 := NB117_116.out; have hcz77_0 : w70.cell? ⟨gb116, 0, none⟩ = some (.int .i64 ((rd_T44 x12_4 (ji55)).f0)) := (blk_cell BK116.out 0).trans rfl; have hcz77_1 : w70.cell? ⟨gb116, 1, none⟩ = some (.int .i64 ((rd_T44 x12_4 (ji55)).f1)) := (blk_cell BK116.out 1).trans rfl; have hfz77_0 := blk_frozen BK116.out 0; have hfz77_1 := blk_frozen BK116.out 1))
                      go_roundg k5
                      case measure => have := HJ1.out; have := HK2.out; have := HK3.out; have := HK4.out; have := HK5.out; omega
                      case rel => exact ⟨(wrap64 (x79_5 + 1)), (x118000_5), (x118001_5), (by first | rfl | (simp; done) | (simp [*]; done)), H', ⟨by have := HJ1.out; have := HK2.out; have := HK3.out; have := HK4.out; have := HK5.out; omega⟩, ⟨by (with_reducible repeat (first | apply Kd.R_alloc | apply Kd.R_drewN | apply Kd.R_drew)); exact Kd.R_mono (Kd.R_far (p := ⟨gb122, 1, none⟩) (Kd.R_far (p := ⟨gb122, 0, none⟩) (Kd.R_mono HO_12.out (fun k_ hk => (⟨hk, hk.2⟩ : _ ∧ k_ ≠ gb122))) (fun _ hk => hk.2) (.int .i64 ((rd_T44 l0 x79_5).f0))) (fun _ hk => hk.2) (.int .i64 ((rd_T44 l0 x79_5).f1))) (fun _ hk => ⟨hk.1.1.1, ⟨hk.1.1.2.1, hk.1.1.2.2⟩⟩)⟩, ⟨by refine blk_far ?_ NB103_122.out _; refine blk_far ?_ NB103_122.out _; exact BK103.out⟩, ⟨by refine blk_far ?_ NB116_122.out _; refine blk_far ?_ NB116_122.out _; exact BK116.out⟩, ⟨by refine blk_far ?_ NB117_122.out _; refine blk_far ?_ NB117_122.out _; exact BK117.out⟩, ⟨by repeat (first | (with_reducible first | exact HB.out | apply bA | apply bD | apply bE | refine below_set ?_ GE103.out | refine below_set ?_ GE116.out | refine below_set ?_ GE117.out | refine below_set ?_ GE122.out) | exact HB.out)⟩⟩
                     ·rw [if_neg c69] at H
                      have c69b0 : (((rd_T44 l0 x79_5).f0) == ((rd_T44 x12_4 (ji55)).f0) && (((rd_T44 l0 x79_5).f1) == ((rd_T44 x12_4 (ji55)).f1))) = false := by simpa using c69
                      (try (have c69b1 : decide (((rd_T44 l0 x79_5).f0) = ((rd_T44 x12_4 (ji55)).f0) && (((rd_T44 l0 x79_5).f1) == ((rd_T44 x12_4 (ji55)).f1))) = false := by simpa using c69))
                      (try (have c69b2 : (((rd_T44 l0 x79_5).f0) == ((rd_T44 x12_4 (ji55)).f0) && (((rd_T44 l0 x79_5).f1) == ((rd_T44 x12_4 (ji55)).f1))) = false := by simpa using c69))
                      (try (have c69b3 : ¬ (((rd_T44 l0 x79_5).f0) = ((rd_T44 x12_4 (ji55)).f0) && (((rd_T44 l0 x79_5).f1) == ((rd_T44 x12_4 (ji55)).f1))) := by simpa using c69))
                      clear c69
                      have HC78 := Ak H
                      clear H
                      have p121 : 0 ≤ (x79_5 : Int) := of_decide_eq_true (by first | (with_reducible assumption) | assumption)
                      have q121 : x79_5 < (l0.length : Int) := of_decide_eq_true (by first | (with_reducible assumption) | assumption)
                      obtain ⟨ad121, e121, hx121_0, hx121_1⟩ := at_T44 HR0.out x79_5 p121 q121
                      obtain rfl : ad102 = ad121 := (by injection e121)
                      replace hx121_0 := cB HB.out hx121_0
                      replace hx121_1 := cB HB.out hx121_1
                      replace p121 := eq_true p121
                      replace q121 := eq_true q121
                      go_upto_if 88 with (first | ((with_reducible refine gate_dst (N := 16) rfl ?_); (try (refine gate_guard (by rfl) ?_; dsimp only)); refine box_event ?hg (N := 16) ?hd (cs := #[.int .i64 0, .int .i64 0]) (t := 44) ?hr ?_; (case hd | hg => rfl); (case hr => first | (go_simp; done) | (go_simp; rfl)); intro gb122 hg w79 hbox hb; have n0_ := Ak (Kd.R_below (Kd.R_elderB (by (with_reducible repeat (first | apply Kd.R_alloc | apply Kd.R_drewN | apply Kd.R_drew)); exact HO_12.out) gb122 (Nat.le_of_eq hg.symm)) hb); have m1_ := bK (g := gb103) (o := .cells #[.int .i64 x104000_2, .int .i64 x104001_2] 44 (0, 0)) (by exact BK103.out) hb; have n1_ := Ak (blk_below m1_ hb); have m2_ := bK (g := gb116) (o := .cells #[.int .i64 ((rd_T44 x12_4 (ji55)).f0), .int .i64 ((rd_T44 x12_4 (ji55)).f1)] 44 (0, 0)) (by exact BK116.out) hb; have n2_ := Ak (blk_below m2_ hb); have m3_ := bK (g := gb117) (o := .cells #[.int .i64 x118000_5, .int .i64 x118001_5] 44 (0, 0)) (by exact BK117.out) hb; have n3_ := Ak (blk_below m3_ hb); have n4_ := Ak (below_step (by repeat (first | exact HB.out | apply bA | apply bD | apply bE | refine below_set ?_ GE103.out | refine below_set ?_ GE116.out | refine below_set ?_ GE117.out)) hb); have n5_ := Ak (hbox); have n6_ := Ak ((by rw [hg]; exact (below_size (by repeat (first | exact HB.out | apply bA | apply bD | apply bE | refine below_set ?_ GE103.out | refine below_set ?_ GE116.out | refine below_set ?_ GE117.out))) : w.heap.size ≤ gb122)); have n7_ := n6_; have n8_ := Ak ((by rw [hg]; exact Nat.ne_of_lt (blk_lt m1_) : gb103 ≠ gb122)); have n9_ := Ak n8_.out.symm; have n10_ := Ak ((by rw [hg]; exact Nat.ne_of_lt (blk_lt m2_) : gb116 ≠ gb122)); have n11_ := Ak n10_.out.symm; have n12_ := Ak ((by rw [hg]; exact Nat.ne_of_lt (blk_lt m3_) : gb117 ≠ gb122)); have n13_ := Ak n12_.out.symm; clear HO_12; clear BK103; clear BK116; clear BK117; clear HB; have HO_12 := n0_; have BK103 := n1_; have BK116 := n2_; have BK117 := n3_; have HB := n4_; have BK122 := n5_; have GW122 := n6_; have GE122 := n7_; have NB103_122 := n8_; have NB122_103 := n9_; have NB116_122 := n10_; have NB122_116 := n11_; have NB117_122 := n12_; have NB122_117 := n13_; clear n0_ n1_ n2_ n3_ n4_ n5_ n6_ n7_ n8_ n9_ n10_ n11_ n12_ n13_; clear hb hbox hg; have hnb80 := NB122_103.out; have hnc80 := NB103_122.out; have hnb81 := NB122_116.out; have hnc81 := NB116_122.out; have hnb82 := NB122_117.out; have hnc82 := NB117_122.out; have hcz83_0 : w79.cell? ⟨gb122, 0, none⟩ = some (.int .i64 0) := (blk_cell BK122.out 0).trans rfl; have hcz83_1 : w79.cell? ⟨gb122, 1, none⟩ = some (.int .i64 0) := (blk_cell BK122.out 1).trans rfl; have hfz83_0 := blk_frozen BK122.out 0; have hfz83_1 := blk_frozen BK122.out 1; have hnb84 := NB116_103.out; have hnc84 := NB103_116.out; have hnb85 := NB116_117.out; have hnc85 := NB117_116.out; have hcz86_0 : w79.cell? ⟨gb116, 0, none⟩ = some (.int .i64 ((rd_T44 x12_4 (ji55)).f0)) := (blk_cell BK116.out 0).trans rfl; have hcz86_1 : w79.cell? ⟨gb116, 1, none⟩ = some (.int .i64 ((rd_T44 x12_4 (ji55)).f1)) := (blk_cell BK116.out 1).trans rfl; have hfz86_0 := blk_frozen BK116.out 0; have hfz86_1 := blk_frozen BK116.out 1; have hnb87 := NB117_103.out; have hnc87 := NB103_117.out; have hcz88_0 : w79.cell? ⟨gb117, 0, none⟩ = some (.int .i64 x118000_5) := (blk_cell BK117.out 0).trans rfl; have hcz88_1 : w79.cell? ⟨gb117, 1, none⟩ = some (.int .i64 x118001_5) := (blk_cell BK117.out 1).trans rfl; have hfz88_0 := blk_frozen BK117.out 0; have hfz88_1 := blk_frozen BK117.out 1))
                      (try simp only [Act.put, List.setIfInBounds_toArray, List.set_cons_zero, List.set_cons_succ])
                      go_cut [17] (fun v17 wc => ∃ (kq : Nat) (x17_77 : Int), v17 = .int .i64 x17_77 ∧ Aside0 (impl_HullOf.j6 kq l0 x12_4 x17_77 l0 (l0.length : Int) x79_5 x104000_2 x104001_2 ((rd_T44 x12_4 (ji55)).f0) ((rd_T44 x12_4 (ji55)).f1) x118000_5 x118001_5 ((rd_T44 l0 x79_5).f0) ((rd_T44 l0 x79_5).f1) = some (r1, r2)) ∧ Aside0 (kq ≤ k5) ∧ Aside0 (Kd.R k44 44 wc w.heap.size (fun k_ => k_ ≠ gb103 ∧ k_ ≠ gb116 ∧ k_ ≠ gb117 ∧ k_ ≠ gb122) (.slice (some ad115) x12_4.length co58) x12_4) ∧ Aside0 (wc.heap[gb103]? = some (.cells #[.int .i64 x104000_2, .int .i64 x104001_2] 44 (0, 0))) ∧ Aside0 (wc.heap[gb116]? = some (.cells #[.int .i64 ((rd_T44 x12_4 (ji55)).f0), .int .i64 ((rd_T44 x12_4 (ji55)).f1)] 44 (0, 0))) ∧ Aside0 (wc.heap[gb117]? = some (.cells #[.int .i64 x118000_5, .int .i64 x118001_5] 44 (0, 0))) ∧ Aside0 (wc.heap[gb122]? = some (.cells #[.int .i64 ((rd_T44 l0 x79_5).f0), .int .i64 ((rd_T44 l0 x79_5).f1)] 44 (0, 0))) ∧ Aside0 (Below w.heap.size w wc))
                      case first =>
                       have H := HC78.out
                       clear HC78
                       by_cases c89 : (!(x118000_5 == ((rd_T44 x12_4 (ji55)).f0)) || (!(x118001_5 == ((rd_T44 x12_4 (ji55)).f1)))) = true
                       ·rw [if_pos c89] at H
                        have c89b0 : (!(x118000_5 == ((rd_T44 x12_4 (ji55)).f0)) || (!(x118001_5 == ((rd_T44 x12_4 (ji55)).f1)))) = true := c89
                        clear c89
                        (first | rw [c89b0] | (simp only [i64_w, i32_w]; rw [c89b0]) | skip)
                        replace H := Option.bind_eq_some_iff.mp H
                        obtain ⟨t123, A900, H⟩ := H
                        replace H : (impl_HullOf.j6 k5 l0 x12_4 t123 l0 (l0.length : Int) x79_5 x104000_2 x104001_2 ((rd_T44 x12_4 (ji55)).f0) ((rd_T44 x12_4 (ji55)).f1) x118000_5 x118001_5 ((rd_T44 l0 x79_5).f0) ((rd_T44 l0 x79_5).f1)) = some (r1, r2) := H
                        have A90 := Ak A900
                        clear A900
                        have H' := Ak H
                        clear H
                        have hnb91 := NB116_103.out
                        have hnc91 := NB103_116.out
                        have hnb92 := NB116_117.out
                        have hnc92 := NB117_116.out
                        have hnb93 := NB116_122.out
                        have hnc93 := NB122_116.out
                        have hcz94_0 : w79.cell? ⟨gb116, 0, none⟩ = some (.int .i64 ((rd_T44 x12_4 (ji55)).f0)) := (blk_cell BK116.out 0).trans rfl
                        have hcz94_1 : w79.cell? ⟨gb116, 1, none⟩ = some (.int .i64 ((rd_T44 x12_4 (ji55)).f1)) := (blk_cell BK116.out 1).trans rfl
                        have hfz94_0 := blk_frozen BK116.out 0
                        have hfz94_1 := blk_frozen BK116.out 1
                        have hnb95 := NB117_103.out
                        have hnc95 := NB103_117.out
                        have hnb96 := NB117_122.out
                        have hnc96 := NB122_117.out
                        have hcz97_0 : w79.cell? ⟨gb117, 0, none⟩ = some (.int .i64 x118000_5) := (blk_cell BK117.out 0).trans rfl
                        have hcz97_1 : w79.cell? ⟨gb117, 1, none⟩ = some (.int .i64 x118001_5) := (blk_cell BK117.out 1).trans rfl
                        have hfz97_0 := blk_frozen BK117.out 0
                        have hfz97_1 := blk_frozen BK117.out 1
                        have hnb98 := NB122_103.out
                        have hnc98 := NB103_122.out
                        have hcz99_0 : w79.cell? ⟨gb122, 0, none⟩ = some (.int .i64 0) := (blk_cell BK122.out 0).trans rfl
                        have hcz99_1 : w79.cell? ⟨gb122, 1, none⟩ = some (.int .i64 0) := (blk_cell BK122.out 1).trans rfl
                        have hfz99_0 := blk_frozen BK122.out 0
                        have hfz99_1 := blk_frozen BK122.out 1
                        go_wp2_with (first | ((with_reducible refine gate_callee (f := 50) rfl ?_); refine goesL_ (some 92) rfl rfl Try.func50 (by kernel_rfl) rfl #[.agg #[.int .i64 ((rd_T44 x12_4 (ji55)).f0), .int .i64 ((rd_T44 x12_4 (ji55)).f1)], .agg #[.int .i64 x118000_5, .int .i64 x118001_5], .agg #[.int .i64 ((rd_T44 l0 x79_5).f0), .int .i64 ((rd_T44 l0 x79_5).f1)]] rfl (by (try simp only [List.map_toArray, List.map_cons, List.map_nil]); first | done | (simp only [hji55]; rfl) | rfl | (simp only [List.length_drop, List.length_take]; rfl)) ?_; (with_reducible refine (impl_cross.calls ((rd_T44 x12_4 (ji55)).f0) ((rd_T44 x12_4 (ji55)).f1) x118000_5 x118001_5 ((rd_T44 l0 x79_5).f0) ((rd_T44 l0 x79_5).f1) t123 _ A90.out).mono ?_); rintro e w100 ⟨rfl, hb⟩; refine ⟨_, rfl, ?_⟩; have n0_ := Ak (Kd.R_below (by (with_reducible repeat (first | apply Kd.R_alloc | apply Kd.R_drewN | apply Kd.R_drew)); exact (Kd.R_mono (Kd.R_far (p := ⟨gb122, 1, none⟩) (Kd.R_far (p := ⟨gb122, 0, none⟩) (Kd.R_mono HO_12.out (fun k_ hk => (⟨hk, hk.2⟩ : _ ∧ k_ ≠ gb122))) (fun _ hk => hk.2) (.int .i64 ((rd_T44 l0 x79_5).f0))) (fun _ hk => hk.2) (.int .i64 ((rd_T44 l0 x79_5).f1))) (fun _ h_ => h_.1))) hb); have n1_ := Ak (blk_below (g := gb103) (o := .cells #[.int .i64 x104000_2, .int .i64 x104001_2] 44 (0, 0)) (by refine blk_far ?_ NB103_122.out _; refine blk_far ?_ NB103_122.out _; exact BK103.out) hb); have n2_ := Ak (blk_below (g := gb116) (o := .cells #[.int .i64 ((rd_T44 x12_4 (ji55)).f0), .int .i64 ((rd_T44 x12_4 (ji55)).f1)] 44 (0, 0)) (by refine blk_far ?_ NB116_122.out _; refine blk_far ?_ NB116_122.out _; exact BK116.out) hb); have n3_ := Ak (blk_below (g := gb117) (o := .cells #[.int .i64 x118000_5, .int .i64 x118001_5] 44 (0, 0)) (by refine blk_far ?_ NB117_122.out _; refine blk_far ?_ NB117_122.out _; exact BK117.out) hb); have n4_ := Ak (blk_below (g := gb122) (o := .cells #[.int .i64 ((rd_T44 l0 x79_5).f0), .int .i64 ((rd_T44 l0 x79_5).f1)] 44 (0, 0)) (by refine blk_put (cs := #[.int .i64 ((rd_T44 l0 x79_5).f0), .int .i64 0]) ?_ 1 _ rfl; refine blk_put (cs := #[.int .i64 0, .int .i64 0]) ?_ 0 _ rfl; exact BK122.out) hb); have n5_ := Ak (below_step (by repeat (first | exact HB.out | apply bA | apply bD | apply bE | refine below_set ?_ GE103.out | refine below_set ?_ GE116.out | refine below_set ?_ GE117.out | refine below_set ?_ GE122.out)) hb); clear HO_12; clear BK103; clear BK116; clear BK117; clear BK122; clear HB; have HO_12 := n0_; have BK103 := n1_; have BK116 := n2_; have BK117 := n3_; have BK122 := n4_; have HB := n5_; clear n0_ n1_ n2_ n3_ n4_ n5_; (try clear hb); (try clear hb2); (try clear hk); (try clear hi)))
                        go_meet
                        case rel => exact ⟨_, (t123), (by first | rfl | (simp; done) | (simp [*]; done)), H', ⟨by have := HJ1.out; have := HK2.out; have := HK3.out; have := HK4.out; have := HK5.out; first | omega | exact Nat.le_refl _⟩, ⟨by (with_reducible repeat (first | apply Kd.R_alloc | apply Kd.R_drewN | apply Kd.R_drew)); exact Kd.R_mono HO_12.out (fun _ hk => ⟨hk.1.1, ⟨hk.1.2.1, ⟨hk.1.2.2, hk.2⟩⟩⟩)⟩, ⟨by exact BK103.out⟩, ⟨by exact BK116.out⟩, ⟨by exact BK117.out⟩, ⟨by exact BK122.out⟩, ⟨by repeat (first | (with_reducible first | exact HB.out | apply bA | apply bD | apply bE | refine below_set ?_ GE103.out | refine below_set ?_ GE116.out | refine below_set ?_ GE117.out | refine below_set ?_ GE122.out) | exact HB.out)⟩⟩
                       ·rw [if_neg c89] at H
                        have c89b0 : (!(x118000_5 == ((rd_T44 x12_4 (ji55)).f0)) || (!(x118001_5 == ((rd_T44 x12_4 (ji55)).f1)))) = false := by simpa using c89
                        clear c89
                        (first | rw [c89b0] | (simp only [i64_w, i32_w]; rw [c89b0]) | skip)
                        have H' := Ak H
                        clear H
                        go_wp2
                        go_meet
                        case rel => exact ⟨_, (0), (by first | rfl | (simp; done) | (simp [*]; done)), H', ⟨by have := HJ1.out; have := HK2.out; have := HK3.out; have := HK4.out; have := HK5.out; first | omega | exact Nat.le_refl _⟩, ⟨by (with_reducible repeat (first | apply Kd.R_alloc | apply Kd.R_drewN | apply Kd.R_drew)); exact Kd.R_mono (Kd.R_far (p := ⟨gb122, 1, none⟩) (Kd.R_far (p := ⟨gb122, 0, none⟩) (Kd.R_mono HO_12.out (fun k_ hk => (⟨hk, hk.2⟩ : _ ∧ k_ ≠ gb122))) (fun _ hk => hk.2) (.int .i64 ((rd_T44 l0 x79_5).f0))) (fun _ hk => hk.2) (.int .i64 ((rd_T44 l0 x79_5).f1))) (fun _ hk => ⟨hk.1.1.1, ⟨hk.1.1.2.1, ⟨hk.1.1.2.2, hk.1.2⟩⟩⟩)⟩, ⟨by refine blk_far ?_ NB103_122.out _; refine blk_far ?_ NB103_122.out _; exact BK103.out⟩, ⟨by refine blk_far ?_ NB116_122.out _; refine blk_far ?_ NB116_122.out _; exact BK116.out⟩, ⟨by refine blk_far ?_ NB117_122.out _; refine blk_far ?_ NB117_122.out _; exact BK117.out⟩, ⟨by refine blk_put (cs := #[.int .i64 ((rd_T44 l0 x79_5).f0), .int .i64 0]) ?_ 1 _ rfl; refine blk_put (cs := #[.int .i64 0, .int .i64 0]) ?_ 0 _ rfl; exact BK122.out⟩, ⟨by repeat (first | (with_reducible first | exact HB.out | apply bA | apply bD | apply bE | refine below_set ?_ GE103.out | refine below_set ?_ GE116.out | refine below_set ?_ GE117.out | refine below_set ?_ GE122.out) | exact HB.out)⟩⟩
                      case rest =>
                       clear HC78
                       try clear c1
                       try clear p1
                       try clear q1
                       try clear hx1
                       try clear qi1
                       try clear c2
                       try clear p2
                       try clear c3
                       try clear c3b0
                       try clear c3b1
                       try clear c4
                       try clear c4b0
                       try clear c4b1
                       try clear c5
                       try clear c6
                       try clear p6
                       try clear c7
                       try clear c8
                       try clear c8b0
                       try clear c8b1
                       try clear c9
                       try clear p10
                       try clear q10
                       try clear hx10
                       try clear qi10
                       try clear c11
                       try clear c11b0
                       try clear p11
                       try clear q11
                       try clear hx11
                       try clear c12
                       try clear c12b0
                       try clear p12
                       try clear q12
                       try clear hx12
                       try clear c13
                       try clear c13b0
                       try clear c15
                       try clear c17
                       try clear c18
                       try clear c24
                       try clear c28
                       try clear c28b0
                       try clear c29
                       try clear c29b0
                       try clear c30
                       try clear c30b0
                       try clear c32
                       try clear c34
                       try clear c34b0
                       try clear c35
                       try clear c35b0
                       try clear c36
                       try clear c36b0
                       try clear c37
                       try clear c40
                       try clear c41
                       try clear c43
                       try clear c48
                       try clear c49
                       try clear c50
                       try clear c51
                       try clear c56
                       try clear c56b0
                       try clear c57
                       try clear c57b0
                       try clear c60
                       try clear c63
                       try clear c64
                       try clear p64
                       try clear c66
                       try clear c66b0
                       try clear c67
                       try clear c67b0
                       try clear c68
                       try clear c68b0
                       try clear c69
                       try clear c69b0
                       try clear c69b1
                       try clear c69b2
                       try clear c71
                       try clear c72
                       try clear c73
                       try clear c75
                       try clear c76
                       try clear c80
                       try clear c81
                       try clear c82
                       try clear c84
                       try clear c85
                       try clear c87
                       try clear c89
                       try clear c89b0
                       try clear c91
                       try clear c92
                       try clear c93
                       try clear c95
                       try clear c96
                       try clear c98
                       try clear hcz10_0
                       try clear hcz10_1
                       try clear hcz18_0
                       try clear hcz18_1
                       try clear hcz19_0
                       try clear hcz19_1
                       try clear hcz21_0
                       try clear hcz21_1
                       try clear hcz22_0
                       try clear hcz22_1
                       try clear hcz25_0
                       try clear hcz25_1
                       try clear hcz26_0
                       try clear hcz26_1
                       try clear hcz33_0
                       try clear hcz33_1
                       try clear hcz42_0
                       try clear hcz42_1
                       try clear hcz44_0
                       try clear hcz44_1
                       try clear hcz45_0
                       try clear hcz45_1
                       try clear hcz50_0
                       try clear hcz50_1
                       try clear hcz52_0
                       try clear hcz52_1
                       try clear hcz61_0
                       try clear hcz61_1
                       try clear hcz65_0
                       try clear hcz65_1
                       try clear hcz74_0
                       try clear hcz74_1
                       try clear hcz77_0
                       try clear hcz77_1
                       try clear hcz83_0
                       try clear hcz83_1
                       try clear hcz86_0
                       try clear hcz86_1
                       try clear hcz88_0
                       try clear hcz88_1
                       try clear hcz94_0
                       try clear hcz94_1
                       try clear hcz97_0
                       try clear hcz97_1
                       try clear hcz99_0
                       try clear hcz99_1
                       try clear hfz10_0
                       try clear hfz10_1
                       try clear hfz18_0
                       try clear hfz18_1
                       try clear hfz19_0
                       try clear hfz19_1
                       try clear hfz21_0
                       try clear hfz21_1
                       try clear hfz22_0
                       try clear hfz22_1
                       try clear hfz25_0
                       try clear hfz25_1
                       try clear hfz26_0
                       try clear hfz26_1
                       try clear hfz33_0
                       try clear hfz33_1
                       try clear hfz42_0
                       try clear hfz42_1
                       try clear hfz44_0
                       try clear hfz44_1
                       try clear hfz45_0
                       try clear hfz45_1
                       try clear hfz50_0
                       try clear hfz50_1
                       try clear hfz52_0
                       try clear hfz52_1
                       try clear hfz61_0
                       try clear hfz61_1
                       try clear hfz65_0
                       try clear hfz65_1
                       try clear hfz74_0
                       try clear hfz74_1
                       try clear hfz77_0
                       try clear hfz77_1
                       try clear hfz83_0
                       try clear hfz83_1
                       try clear hfz86_0
                       try clear hfz86_1
                       try clear hfz88_0
                       try clear hfz88_1
                       try clear hfz94_0
                       try clear hfz94_1
                       try clear hfz97_0
                       try clear hfz97_1
                       try clear hfz99_0
                       try clear hfz99_1
                       try clear hx102_0
                       try clear hx102_1
                       try clear hx104_0
                       try clear hx104_1
                       try clear hx107_0
                       try clear hx107_1
                       try clear hx109_0
                       try clear hx109_1
                       try clear hx115_0
                       try clear hx115_1
                       try clear hx121_0
                       try clear hx121_1
                       try clear p1
                       try clear p10
                       try clear p102
                       try clear p104
                       try clear p107
                       try clear p109
                       try clear p11
                       try clear p115
                       try clear p121
                       try clear p2
                       try clear p6
                       try clear p64
                       try clear q1
                       try clear q10
                       try clear q102
                       try clear q104
                       try clear q107
                       try clear q109
                       try clear q11
                       try clear q115
                       try clear q121
                       obtain ⟨kq, x17_77, rfl, HA, HJ77, HO_12, BK103, BK116, BK117, BK122, HB⟩ := hcut
                       cases kq with
                       | zero => exact absurd HA.out (by simp [impl_HullOf.j6])
                       | succ kj77 =>
                        have H := HA.out
                        clear HA
                        simp only [impl_HullOf.j6] at H
                        by_cases c101 : (x118000_5 == ((rd_T44 x12_4 (ji55)).f0) && (x118001_5 == ((rd_T44 x12_4 (ji55)).f1))) = true
                        ·rw [if_pos c101] at H
                         have c101b0 : (x118000_5 == ((rd_T44 x12_4 (ji55)).f0) && (x118001_5 == ((rd_T44 x12_4 (ji55)).f1))) = true := c101
                         (try (have c101b1 : decide (x118000_5 = ((rd_T44 x12_4 (ji55)).f0) && (x118001_5 == ((rd_T44 x12_4 (ji55)).f1))) = true := by simpa using c101))
                         (try (have c101b2 : (x118000_5 == ((rd_T44 x12_4 (ji55)).f0) && (x118001_5 == ((rd_T44 x12_4 (ji55)).f1))) = true := by simpa using c101))
                         clear c101
                         have H' := Ak H
                         clear H
                         try go_wp2
                         have n0_ := Ak (Kd.R_drew HO_12.out)
                         have n1_ := Ak (blk_drew BK103.out)
                         have n2_ := Ak (blk_drew BK116.out)
                         have n3_ := Ak (blk_drew BK117.out)
                         have n4_ := Ak (blk_drew BK122.out)
                         have n5_ := Ak (below_drew1 HB.out)
                         clear HO_12
                         clear BK103
                         clear BK116
                         clear BK117
                         clear BK122
                         clear HB
                         have HO_12 := n0_
                         have BK103 := n1_
                         have BK116 := n2_
                         have BK117 := n3_
                         have BK122 := n4_
                         have HB := n5_
                         clear n0_ n1_ n2_ n3_ n4_ n5_
                         refine start_ (n := 20) (S := fun w' => w'.cell? ⟨gb117, 0, none⟩ = some (.int .i64 x118000_5) ∧ w'.cell? ⟨gb117, 1, none⟩ = some (.int .i64 x118001_5) ∧ w'.cell? ⟨gb116, 0, none⟩ = some (.int .i64 ((rd_T44 x12_4 (ji55)).f0)) ∧ w'.cell? ⟨gb116, 1, none⟩ = some (.int .i64 ((rd_T44 x12_4 (ji55)).f1))) (ds := []) #[F,F,F,F,F,F,F,F,F,F,F,F,F,F,F,F,F,F,F,F] (by kernel_rfl) rfl rfl ⟨(blk_cell BK117.out 0).trans rfl, (blk_cell BK117.out 1).trans rfl, (blk_cell BK116.out 0).trans rfl, (blk_cell BK116.out 1).trans rfl⟩ (fun hHeld => ?_); refine with_tabW impl_HullOf.tab31 impl_HullOf.bits31 (fun HT_ HW_ => ?_)
                         generalize wc.drew = w102 at HO_12 BK103 BK116 BK117 BK122 HB hHeld ⊢
                         refine take_ (i := 0) (N := some 93) (v := ?_) (a' := ?_) #[T,F,F,F,F,F,F,F,F,F,F,F,F,F,F,F,F,F,F,F] rfl rfl (take_ofW HT_.out HW_.out (by kernel_rfl)) (fun _ _ _ h => h) (Or.inl ⟨by rfl, ?_⟩) hHeld ?_ ?_
                         rotate_left
                         ·rintro w' ⟨s0, s1, s2, s3⟩
                          go_simp
                          with_reducible rfl
                         rotate_left
                         ·simp only [Act.put, sA, sB, sC, sD, sE]
                          rfl
                         refine take_ (i := 1) (N := some 94) (v := ?_) (a' := ?_) #[T,T,F,F,F,F,F,F,F,F,F,F,F,F,F,F,F,F,F,F] rfl rfl (take_ofW HT_.out HW_.out (by kernel_rfl)) (fun _ _ _ h => h) (Or.inl ⟨by rfl, ?_⟩) hHeld ?_ ?_
                         rotate_left
                         ·rintro w' ⟨s0, s1, s2, s3⟩
                          go_simp
                          with_reducible rfl
                         rotate_left
                         ·simp only [Act.put, sA, sB, sC, sD, sE]
                          rfl
                         refine pure_ (i := 2) (N := some 95) (v := ?_) (a' := ?_) #[T,T,T,F,F,F,F,F,F,F,F,F,F,F,F,F,F,F,F,F] rfl rfl (any_of HT_.out (by kernel_rfl)) (fun _ _ _ h => h) (Or.inl ⟨by rfl, ?_⟩) ?_ ?_
                         rotate_left
                         ·intro w'
                          go_simp
                          with_reducible rfl
                         rotate_left
                         ·simp only [Act.put, sA, sB, sC, sD, sE]
                          rfl
                         refine pure_ (i := 3) (N := some 96) (v := ?_) (a' := ?_) #[T,T,T,T,F,F,F,F,F,F,F,F,F,F,F,F,F,F,F,F] rfl rfl (any_of HT_.out (by kernel_rfl)) (fun _ _ _ h => h) (Or.inl ⟨by rfl, ?_⟩) ?_ ?_
                         rotate_left
                         ·intro w'
                          go_simp
                          with_reducible rfl
                         rotate_left
                         ·simp only [Act.put, sA, sB, sC, sD, sE]
                          rfl
                         refine pure_ (i := 4) (N := some 97) (v := undef) (a' := ?_) #[T,T,T,T,T,F,F,F,F,F,F,F,F,F,F,F,F,F,F,F] rfl rfl (any_of HT_.out (by kernel_rfl)) (fun _ _ _ h => h) (Or.inr ⟨by rfl, rfl⟩) ?_ ?_
                         rotate_left
                         ·simp only [Act.put, sA, sB, sC, sD, sE]
                          rfl
                         refine pure_ (i := 5) (N := some 98) (v := undef) (a' := ?_) #[T,T,T,T,T,T,F,F,F,F,F,F,F,F,F,F,F,F,F,F] rfl rfl (any_of HT_.out (by kernel_rfl)) (fun _ _ _ h => h) (Or.inr ⟨by rfl, rfl⟩) ?_ ?_
                         rotate_left
                         ·simp only [Act.put, sA, sB, sC, sD, sE]
                          rfl
                         refine pure_ (i := 6) (N := some 99) (v := ?_) (a' := ?_) #[T,T,T,T,T,T,T,F,F,F,F,F,F,F,F,F,F,F,F,F] rfl rfl (any_of HT_.out (by kernel_rfl)) (fun _ _ _ h => h) (Or.inl ⟨by rfl, ?_⟩) ?_ ?_
                         rotate_left
                         ·intro w'
                          go_simp
                          with_reducible rfl
                         rotate_left
                         ·simp only [Act.put, sA, sB, sC, sD, sE]
                          rfl
                         refine pure_ (i := 7) (N := some 100) (v := ?_) (a' := ?_) #[T,T,T,T,T,T,T,T,F,F,F,F,F,F,F,F,F,F,F,F] rfl rfl (any_of HT_.out (by kernel_rfl)) (fun _ _ _ h => h) (Or.inl ⟨by rfl, ?_⟩) ?_ ?_
                         rotate_left
                         ·intro w'
                          go_simp
                          with_reducible rfl
                         rotate_left
                         ·simp only [Act.put, sA, sB, sC, sD, sE]
                          rfl
                         refine pure_ (i := 8) (N := some 101) (v := undef) (a' := ?_) #[T,T,T,T,T,T,T,T,T,F,F,F,F,F,F,F,F,F,F,F] rfl rfl (any_of HT_.out (by kernel_rfl)) (fun _ _ _ h => h) (Or.inr ⟨by rfl, rfl⟩) ?_ ?_
                         rotate_left
                         ·simp only [Act.put, sA, sB, sC, sD, sE]
                          rfl
                         refine pure_ (i := 9) (N := some 102) (v := undef) (a' := ?_) #[T,T,T,T,T,T,T,T,T,T,F,F,F,F,F,F,F,F,F,F] rfl rfl (any_of HT_.out (by kernel_rfl)) (fun _ _ _ h => h) (Or.inr ⟨by rfl, rfl⟩) ?_ ?_
                         rotate_left
                         ·simp only [Act.put, sA, sB, sC, sD, sE]
                          rfl
                         refine pure_ (i := 10) (N := some 103) (v := undef) (a' := ?_) #[T,T,T,T,T,T,T,T,T,T,T,F,F,F,F,F,F,F,F,F] rfl rfl (any_of HT_.out (by kernel_rfl)) (fun _ _ _ h => h) (Or.inr ⟨by rfl, rfl⟩) ?_ ?_
                         rotate_left
                         ·simp only [Act.put, sA, sB, sC, sD, sE]
                          rfl
                         refine pure_ (i := 11) (N := some 104) (v := undef) (a' := ?_) #[T,T,T,T,T,T,T,T,T,T,T,T,F,F,F,F,F,F,F,F] rfl rfl (any_of HT_.out (by kernel_rfl)) (fun _ _ _ h => h) (Or.inr ⟨by rfl, rfl⟩) ?_ ?_
                         rotate_left
                         ·simp only [Act.put, sA, sB, sC, sD, sE]
                          rfl
                         refine pure_ (i := 12) (N := some 105) (v := undef) (a' := ?_) #[T,T,T,T,T,T,T,T,T,T,T,T,T,F,F,F,F,F,F,F] rfl rfl (any_of HT_.out (by kernel_rfl)) (fun _ _ _ h => h) (Or.inr ⟨by rfl, rfl⟩) ?_ ?_
                         rotate_left
                         ·simp only [Act.put, sA, sB, sC, sD, sE]
                          rfl
                         refine pure_ (i := 13) (N := some 106) (v := undef) (a' := ?_) #[T,T,T,T,T,T,T,T,T,T,T,T,T,T,F,F,F,F,F,F] rfl rfl (any_of HT_.out (by kernel_rfl)) (fun _ _ _ h => h) (Or.inr ⟨by rfl, rfl⟩) ?_ ?_
                         rotate_left
                         ·simp only [Act.put, sA, sB, sC, sD, sE]
                          rfl
                         refine pure_ (i := 14) (N := some 107) (v := undef) (a' := ?_) #[T,T,T,T,T,T,T,T,T,T,T,T,T,T,T,F,F,F,F,F] rfl rfl (any_of HT_.out (by kernel_rfl)) (fun _ _ _ h => h) (Or.inr ⟨by rfl, rfl⟩) ?_ ?_
                         rotate_left
                         ·simp only [Act.put, sA, sB, sC, sD, sE]
                          rfl
                         refine pure_ (i := 15) (N := some 108) (v := undef) (a' := ?_) #[T,T,T,T,T,T,T,T,T,T,T,T,T,T,T,T,F,F,F,F] rfl rfl (any_of HT_.out (by kernel_rfl)) (fun _ _ _ h => h) (Or.inr ⟨by rfl, rfl⟩) ?_ ?_
                         rotate_left
                         ·simp only [Act.put, sA, sB, sC, sD, sE]
                          rfl
                         refine pure_ (i := 16) (N := some 109) (v := undef) (a' := ?_) #[T,T,T,T,T,T,T,T,T,T,T,T,T,T,T,T,T,F,F,F] rfl rfl (any_of HT_.out (by kernel_rfl)) (fun _ _ _ h => h) (Or.inr ⟨by rfl, rfl⟩) ?_ ?_
                         rotate_left
                         ·simp only [Act.put, sA, sB, sC, sD, sE]
                          rfl
                         refine pure_ (i := 17) (N := some 110) (v := undef) (a' := ?_) #[T,T,T,T,T,T,T,T,T,T,T,T,T,T,T,T,T,T,F,F] rfl rfl (any_of HT_.out (by kernel_rfl)) (fun _ _ _ h => h) (Or.inr ⟨by rfl, rfl⟩) ?_ ?_
                         rotate_left
                         ·simp only [Act.put, sA, sB, sC, sD, sE]
                          rfl
                         refine pure_ (i := 18) (N := some 111) (v := undef) (a' := ?_) #[T,T,T,T,T,T,T,T,T,T,T,T,T,T,T,T,T,T,T,F] rfl rfl (any_of HT_.out (by kernel_rfl)) (fun _ _ _ h => h) (Or.inr ⟨by rfl, rfl⟩) ?_ ?_
                         rotate_left
                         ·simp only [Act.put, sA, sB, sC, sD, sE]
                          rfl
                         refine pure_ (i := 19) (N := some 112) (v := ?_) (a' := ?_) #[T,T,T,T,T,T,T,T,T,T,T,T,T,T,T,T,T,T,T,T] rfl rfl (any_of HT_.out (by kernel_rfl)) (fun _ _ _ h => h) (Or.inl ⟨by rfl, ?_⟩) ?_ ?_
                         rotate_left
                         ·intro w'
                          go_simp
                          with_reducible rfl
                         rotate_left
                         ·simp only [Act.put, sA, sB, sC, sD, sE]
                          rfl
                         refine done_ (done_of HT_.out (by kernel_rfl)) ?_
                         have hnb103 := NB122_103.out
                         have hnc103 := NB103_122.out
                         have hnb104 := NB122_116.out
                         have hnc104 := NB116_122.out
                         have hnb105 := NB122_117.out
                         have hnc105 := NB117_122.out
                         have hcz106_0 : w102.cell? ⟨gb122, 0, none⟩ = some (.int .i64 ((rd_T44 l0 x79_5).f0)) := (blk_cell BK122.out 0).trans rfl
                         have hcz106_1 : w102.cell? ⟨gb122, 1, none⟩ = some (.int .i64 ((rd_T44 l0 x79_5).f1)) := (blk_cell BK122.out 1).trans rfl
                         have hfz106_0 := blk_frozen BK122.out 0
                         have hfz106_1 := blk_frozen BK122.out 1
                         have hnb107 := NB117_103.out
                         have hnc107 := NB103_117.out
                         have hnb108 := NB117_116.out
                         have hnc108 := NB116_117.out
                         have hcz109_0 : w102.cell? ⟨gb117, 0, none⟩ = some (.int .i64 x118000_5) := (blk_cell BK117.out 0).trans rfl
                         have hcz109_1 : w102.cell? ⟨gb117, 1, none⟩ = some (.int .i64 x118001_5) := (blk_cell BK117.out 1).trans rfl
                         have hfz109_0 := blk_frozen BK117.out 0
                         have hfz109_1 := blk_frozen BK117.out 1
                         try go_wp2
                         go_roundg kj77
                         case measure => have := HJ1.out; have := HK2.out; have := HK3.out; have := HK4.out; have := HK5.out; have := HJ77.out; omega
                         case rel => exact ⟨(wrap64 (x79_5 + 1)), (((rd_T44 l0 x79_5).f0)), (((rd_T44 l0 x79_5).f1)), (by first | rfl | (simp; done) | (simp [*]; done)), H', ⟨by have := HJ1.out; have := HK2.out; have := HK3.out; have := HK4.out; have := HK5.out; have := HJ77.out; omega⟩, ⟨by (with_reducible repeat (first | apply Kd.R_alloc | apply Kd.R_drewN | apply Kd.R_drew)); exact Kd.R_mono (Kd.R_far (p := ⟨gb117, 1, none⟩) (Kd.R_far (p := ⟨gb117, 0, none⟩) (Kd.R_mono HO_12.out (fun k_ hk => (⟨hk, hk.2.2.1⟩ : _ ∧ k_ ≠ gb117))) (fun _ hk => hk.2) (.int .i64 ((rd_T44 l0 x79_5).f0))) (fun _ hk => hk.2) (.int .i64 ((rd_T44 l0 x79_5).f1))) (fun _ hk => ⟨hk.1.1, ⟨hk.1.2.1, hk.1.2.2.1⟩⟩)⟩, ⟨by refine blk_far ?_ NB103_117.out _; refine blk_far ?_ NB103_117.out _; exact BK103.out⟩, ⟨by refine blk_far ?_ NB116_117.out _; refine blk_far ?_ NB116_117.out _; exact BK116.out⟩, ⟨by refine blk_put (cs := #[.int .i64 ((rd_T44 l0 x79_5).f0), .int .i64 x118001_5]) ?_ 1 _ rfl; refine blk_put (cs := #[.int .i64 x118000_5, .int .i64 x118001_5]) ?_ 0 _ rfl; exact BK117.out⟩, ⟨by repeat (first | (with_reducible first | exact HB.out | apply bA | apply bD | apply bE | refine below_set ?_ GE103.out | refine below_set ?_ GE116.out | refine below_set ?_ GE117.out | refine below_set ?_ GE122.out) | exact HB.out)⟩⟩
                        ·rw [if_neg c101] at H
                         have c101b0 : (x118000_5 == ((rd_T44 x12_4 (ji55)).f0) && (x118001_5 == ((rd_T44 x12_4 (ji55)).f1))) = false := by simpa using c101
                         (try (have c101b1 : decide (x118000_5 = ((rd_T44 x12_4 (ji55)).f0) && (x118001_5 == ((rd_T44 x12_4 (ji55)).f1))) = false := by simpa using c101))
                         (try (have c101b2 : (x118000_5 == ((rd_T44 x12_4 (ji55)).f0) && (x118001_5 == ((rd_T44 x12_4 (ji55)).f1))) = false := by simpa using c101))
                         (try (have c101b3 : ¬ (x118000_5 = ((rd_T44 x12_4 (ji55)).f0) && (x118001_5 == ((rd_T44 x12_4 (ji55)).f1))) := by simpa using c101))
                         clear c101
                         by_cases c110 : x17_77 < 0
                         ·rw [if_pos c110] at H
                          have c110b0 : decide (x17_77 < 0) = true := decide_eq_true c110
                          clear c110
                          have H' := Ak H
                          clear H
                          try go_wp2
                          have n0_ := Ak (Kd.R_drew HO_12.out)
                          have n1_ := Ak (blk_drew BK103.out)
                          have n2_ := Ak (blk_drew BK116.out)
                          have n3_ := Ak (blk_drew BK117.out)
                          have n4_ := Ak (blk_drew BK122.out)
                          have n5_ := Ak (below_drew1 HB.out)
                          clear HO_12
                          clear BK103
                          clear BK116
                          clear BK117
                          clear BK122
                          clear HB
                          have HO_12 := n0_
                          have BK103 := n1_
                          have BK116 := n2_
                          have BK117 := n3_
                          have BK122 := n4_
                          have HB := n5_
                          clear n0_ n1_ n2_ n3_ n4_ n5_
                          refine start_ (n := 20) (S := fun w' => w'.cell? ⟨gb117, 0, none⟩ = some (.int .i64 x118000_5) ∧ w'.cell? ⟨gb117, 1, none⟩ = some (.int .i64 x118001_5) ∧ w'.cell? ⟨gb116, 0, none⟩ = some (.int .i64 ((rd_T44 x12_4 (ji55)).f0)) ∧ w'.cell? ⟨gb116, 1, none⟩ = some (.int .i64 ((rd_T44 x12_4 (ji55)).f1))) (ds := []) #[F,F,F,F,F,F,F,F,F,F,F,F,F,F,F,F,F,F,F,F] (by kernel_rfl) rfl rfl ⟨(blk_cell BK117.out 0).trans rfl, (blk_cell BK117.out 1).trans rfl, (blk_cell BK116.out 0).trans rfl, (blk_cell BK116.out 1).trans rfl⟩ (fun hHeld => ?_); refine with_tabW impl_HullOf.tab31 impl_HullOf.bits31 (fun HT_ HW_ => ?_)
                          generalize wc.drew = w111 at HO_12 BK103 BK116 BK117 BK122 HB hHeld ⊢
                          refine take_ (i := 0) (N := some 93) (v := ?_) (a' := ?_) #[T,F,F,F,F,F,F,F,F,F,F,F,F,F,F,F,F,F,F,F] rfl rfl (take_ofW HT_.out HW_.out (by kernel_rfl)) (fun _ _ _ h => h) (Or.inl ⟨by rfl, ?_⟩) hHeld ?_ ?_
                          rotate_left
                          ·rintro w' ⟨s0, s1, s2, s3⟩
                           go_simp
                           with_reducible rfl
                          rotate_left
                          ·simp only [Act.put, sA, sB, sC, sD, sE]
                           rfl
                          refine take_ (i := 1) (N := some 94) (v := ?_) (a' := ?_) #[T,T,F,F,F,F,F,F,F,F,F,F,F,F,F,F,F,F,F,F] rfl rfl (take_ofW HT_.out HW_.out (by kernel_rfl)) (fun _ _ _ h => h) (Or.inl ⟨by rfl, ?_⟩) hHeld ?_ ?_
                          rotate_left
                          ·rintro w' ⟨s0, s1, s2, s3⟩
                           go_simp
                           with_reducible rfl
                          rotate_left
                          ·simp only [Act.put, sA, sB, sC, sD, sE]
                           rfl
                          refine pure_ (i := 2) (N := some 95) (v := ?_) (a' := ?_) #[T,T,T,F,F,F,F,F,F,F,F,F,F,F,F,F,F,F,F,F] rfl rfl (any_of HT_.out (by kernel_rfl)) (fun _ _ _ h => h) (Or.inl ⟨by rfl, ?_⟩) ?_ ?_
                          rotate_left
                          ·intro w'
                           go_simp
                           with_reducible rfl
                          rotate_left
                          ·simp only [Act.put, sA, sB, sC, sD, sE]
                           rfl
                          refine pure_ (i := 3) (N := some 96) (v := ?_) (a' := ?_) #[T,T,T,T,F,F,F,F,F,F,F,F,F,F,F,F,F,F,F,F] rfl rfl (any_of HT_.out (by kernel_rfl)) (fun _ _ _ h => h) (Or.inl ⟨by rfl, ?_⟩) ?_ ?_
                          rotate_left
                          ·intro w'
                           go_simp
                           with_reducible rfl
                          rotate_left
                          ·simp only [Act.put, sA, sB, sC, sD, sE]
                           rfl
                          refine pure_ (i := 4) (N := some 97) (v := ?_) (a' := ?_) #[T,T,T,T,T,F,F,F,F,F,F,F,F,F,F,F,F,F,F,F] rfl rfl (any_of HT_.out (by kernel_rfl)) (fun _ _ _ h => h) (Or.inl ⟨by rfl, ?_⟩) ?_ ?_
                          rotate_left
                          ·intro w'
                           go_simp
                           with_reducible rfl
                          rotate_left
                          ·simp only [Act.put, sA, sB, sC, sD, sE]
                           rfl
                          refine pure_ (i := 5) (N := some 98) (v := ?_) (a' := ?_) #[T,T,T,T,T,T,F,F,F,F,F,F,F,F,F,F,F,F,F,F] rfl rfl (any_of HT_.out (by kernel_rfl)) (fun _ _ _ h => h) (Or.inl ⟨by rfl, ?_⟩) ?_ ?_
                          rotate_left
                          ·intro w'
                           go_simp
                           with_reducible rfl
                          rotate_left
                          ·simp only [Act.put, sA, sB, sC, sD, sE]
                           rfl
                          refine pure_ (i := 6) (N := some 99) (v := ?_) (a' := ?_) #[T,T,T,T,T,T,T,F,F,F,F,F,F,F,F,F,F,F,F,F] rfl rfl (any_of HT_.out (by kernel_rfl)) (fun _ _ _ h => h) (Or.inl ⟨by rfl, ?_⟩) ?_ ?_
                          rotate_left
                          ·intro w'
                           go_simp
                           with_reducible rfl
                          rotate_left
                          ·simp only [Act.put, sA, sB, sC, sD, sE]
                           rfl
                          refine pure_ (i := 7) (N := some 100) (v := ?_) (a' := ?_) #[T,T,T,T,T,T,T,T,F,F,F,F,F,F,F,F,F,F,F,F] rfl rfl (any_of HT_.out (by kernel_rfl)) (fun _ _ _ h => h) (Or.inl ⟨by rfl, ?_⟩) ?_ ?_
                          rotate_left
                          ·intro w'
                           go_simp
                           with_reducible rfl
                          rotate_left
                          ·simp only [Act.put, sA, sB, sC, sD, sE]
                           rfl
                          refine pure_ (i := 8) (N := some 101) (v := undef) (a' := ?_) #[T,T,T,T,T,T,T,T,T,F,F,F,F,F,F,F,F,F,F,F] rfl rfl (any_of HT_.out (by kernel_rfl)) (fun _ _ _ h => h) (Or.inr ⟨by rfl, rfl⟩) ?_ ?_
                          rotate_left
                          ·simp only [Act.put, sA, sB, sC, sD, sE]
                           rfl
                          refine pure_ (i := 9) (N := some 102) (v := undef) (a' := ?_) #[T,T,T,T,T,T,T,T,T,T,F,F,F,F,F,F,F,F,F,F] rfl rfl (any_of HT_.out (by kernel_rfl)) (fun _ _ _ h => h) (Or.inr ⟨by rfl, rfl⟩) ?_ ?_
                          rotate_left
                          ·simp only [Act.put, sA, sB, sC, sD, sE]
                           rfl
                          refine pure_ (i := 10) (N := some 103) (v := undef) (a' := ?_) #[T,T,T,T,T,T,T,T,T,T,T,F,F,F,F,F,F,F,F,F] rfl rfl (any_of HT_.out (by kernel_rfl)) (fun _ _ _ h => h) (Or.inr ⟨by rfl, rfl⟩) ?_ ?_
                          rotate_left
                          ·simp only [Act.put, sA, sB, sC, sD, sE]
                           rfl
                          refine pure_ (i := 11) (N := some 104) (v := undef) (a' := ?_) #[T,T,T,T,T,T,T,T,T,T,T,T,F,F,F,F,F,F,F,F] rfl rfl (any_of HT_.out (by kernel_rfl)) (fun _ _ _ h => h) (Or.inr ⟨by rfl, rfl⟩) ?_ ?_
                          rotate_left
                          ·simp only [Act.put, sA, sB, sC, sD, sE]
                           rfl
                          refine pure_ (i := 12) (N := some 105) (v := undef) (a' := ?_) #[T,T,T,T,T,T,T,T,T,T,T,T,T,F,F,F,F,F,F,F] rfl rfl (any_of HT_.out (by kernel_rfl)) (fun _ _ _ h => h) (Or.inr ⟨by rfl, rfl⟩) ?_ ?_
                          rotate_left
                          ·simp only [Act.put, sA, sB, sC, sD, sE]
                           rfl
                          refine pure_ (i := 13) (N := some 106) (v := undef) (a' := ?_) #[T,T,T,T,T,T,T,T,T,T,T,T,T,T,F,F,F,F,F,F] rfl rfl (any_of HT_.out (by kernel_rfl)) (fun _ _ _ h => h) (Or.inr ⟨by rfl, rfl⟩) ?_ ?_
                          rotate_left
                          ·simp only [Act.put, sA, sB, sC, sD, sE]
                           rfl
                          refine pure_ (i := 14) (N := some 107) (v := undef) (a' := ?_) #[T,T,T,T,T,T,T,T,T,T,T,T,T,T,T,F,F,F,F,F] rfl rfl (any_of HT_.out (by kernel_rfl)) (fun _ _ _ h => h) (Or.inr ⟨by rfl, rfl⟩) ?_ ?_
                          rotate_left
                          ·simp only [Act.put, sA, sB, sC, sD, sE]
                           rfl
                          refine pure_ (i := 15) (N := some 108) (v := undef) (a' := ?_) #[T,T,T,T,T,T,T,T,T,T,T,T,T,T,T,T,F,F,F,F] rfl rfl (any_of HT_.out (by kernel_rfl)) (fun _ _ _ h => h) (Or.inr ⟨by rfl, rfl⟩) ?_ ?_
                          rotate_left
                          ·simp only [Act.put, sA, sB, sC, sD, sE]
                           rfl
                          refine pure_ (i := 16) (N := some 109) (v := undef) (a' := ?_) #[T,T,T,T,T,T,T,T,T,T,T,T,T,T,T,T,T,F,F,F] rfl rfl (any_of HT_.out (by kernel_rfl)) (fun _ _ _ h => h) (Or.inr ⟨by rfl, rfl⟩) ?_ ?_
                          rotate_left
                          ·simp only [Act.put, sA, sB, sC, sD, sE]
                           rfl
                          refine pure_ (i := 17) (N := some 110) (v := undef) (a' := ?_) #[T,T,T,T,T,T,T,T,T,T,T,T,T,T,T,T,T,T,F,F] rfl rfl (any_of HT_.out (by kernel_rfl)) (fun _ _ _ h => h) (Or.inr ⟨by rfl, rfl⟩) ?_ ?_
                          rotate_left
                          ·simp only [Act.put, sA, sB, sC, sD, sE]
                           rfl
                          refine pure_ (i := 18) (N := some 111) (v := undef) (a' := ?_) #[T,T,T,T,T,T,T,T,T,T,T,T,T,T,T,T,T,T,T,F] rfl rfl (any_of HT_.out (by kernel_rfl)) (fun _ _ _ h => h) (Or.inr ⟨by rfl, rfl⟩) ?_ ?_
                          rotate_left
                          ·simp only [Act.put, sA, sB, sC, sD, sE]
                           rfl
                          refine pure_ (i := 19) (N := some 112) (v := ?_) (a' := ?_) #[T,T,T,T,T,T,T,T,T,T,T,T,T,T,T,T,T,T,T,T] rfl rfl (any_of HT_.out (by kernel_rfl)) (fun _ _ _ h => h) (Or.inl ⟨by rfl, ?_⟩) ?_ ?_
                          rotate_left
                          ·intro w'
                           go_simp
                           with_reducible rfl
                          rotate_left
                          ·simp only [Act.put, sA, sB, sC, sD, sE]
                           rfl
                          refine done_ (done_of HT_.out (by kernel_rfl)) ?_
                          have hnb112 := NB122_103.out
                          have hnc112 := NB103_122.out
                          have hnb113 := NB122_116.out
                          have hnc113 := NB116_122.out
                          have hnb114 := NB122_117.out
                          have hnc114 := NB117_122.out
                          have hcz115_0 : w111.cell? ⟨gb122, 0, none⟩ = some (.int .i64 ((rd_T44 l0 x79_5).f0)) := (blk_cell BK122.out 0).trans rfl
                          have hcz115_1 : w111.cell? ⟨gb122, 1, none⟩ = some (.int .i64 ((rd_T44 l0 x79_5).f1)) := (blk_cell BK122.out 1).trans rfl
                          have hfz115_0 := blk_frozen BK122.out 0
                          have hfz115_1 := blk_frozen BK122.out 1
                          have hnb116 := NB117_103.out
                          have hnc116 := NB103_117.out
                          have hnb117 := NB117_116.out
                          have hnc117 := NB116_117.out
                          have hcz118_0 : w111.cell? ⟨gb117, 0, none⟩ = some (.int .i64 x118000_5) := (blk_cell BK117.out 0).trans rfl
                          have hcz118_1 : w111.cell? ⟨gb117, 1, none⟩ = some (.int .i64 x118001_5) := (blk_cell BK117.out 1).trans rfl
                          have hfz118_0 := blk_frozen BK117.out 0
                          have hfz118_1 := blk_frozen BK117.out 1
                          try go_wp2
                          go_roundg kj77
                          case measure => have := HJ1.out; have := HK2.out; have := HK3.out; have := HK4.out; have := HK5.out; have := HJ77.out; omega
                          case rel => exact ⟨(wrap64 (x79_5 + 1)), (((rd_T44 l0 x79_5).f0)), (((rd_T44 l0 x79_5).f1)), (by first | rfl | (simp; done) | (simp [*]; done)), H', ⟨by have := HJ1.out; have := HK2.out; have := HK3.out; have := HK4.out; have := HK5.out; have := HJ77.out; omega⟩, ⟨by (with_reducible repeat (first | apply Kd.R_alloc | apply Kd.R_drewN | apply Kd.R_drew)); exact Kd.R_mono (Kd.R_far (p := ⟨gb117, 1, none⟩) (Kd.R_far (p := ⟨gb117, 0, none⟩) (Kd.R_mono HO_12.out (fun k_ hk => (⟨hk, hk.2.2.1⟩ : _ ∧ k_ ≠ gb117))) (fun _ hk => hk.2) (.int .i64 ((rd_T44 l0 x79_5).f0))) (fun _ hk => hk.2) (.int .i64 ((rd_T44 l0 x79_5).f1))) (fun _ hk => ⟨hk.1.1, ⟨hk.1.2.1, hk.1.2.2.1⟩⟩)⟩, ⟨by refine blk_far ?_ NB103_117.out _; refine blk_far ?_ NB103_117.out _; exact BK103.out⟩, ⟨by refine blk_far ?_ NB116_117.out _; refine blk_far ?_ NB116_117.out _; exact BK116.out⟩, ⟨by refine blk_put (cs := #[.int .i64 ((rd_T44 l0 x79_5).f0), .int .i64 x118001_5]) ?_ 1 _ rfl; refine blk_put (cs := #[.int .i64 x118000_5, .int .i64 x118001_5]) ?_ 0 _ rfl; exact BK117.out⟩, ⟨by repeat (first | (with_reducible first | exact HB.out | apply bA | apply bD | apply bE | refine below_set ?_ GE103.out | refine below_set ?_ GE116.out | refine below_set ?_ GE117.out | refine below_set ?_ GE122.out) | exact HB.out)⟩⟩
                         ·rw [if_neg c110] at H
                          have c110b0 : decide (x17_77 < 0) = false := decide_eq_false c110
                          clear c110
                          by_cases c119 : x17_77 = 0
                          ·rw [if_pos c119] at H
                           have c119b0 : (x17_77 == 0) = true := beq_iff_eq.mpr c119
                           have c119b1 : (x17_77 != 0) = false := bne_eq_false_iff_eq.mpr c119
                           clear c119
                           replace H := Option.bind_eq_some_iff.mp H
                           obtain ⟨t124, A1200, H⟩ := H
                           replace H : ((impl_square.f ((rd_T44 x12_4 (ji55)).f0) ((rd_T44 x12_4 (ji55)).f1) x118000_5 x118001_5).bind fun t125 => (if t124 > t125 then (impl_HullOf.l4 kj77 l0 x12_4 l0 (l0.length : Int) (wrap64 (x79_5 + 1)) x104000_2 x104001_2 ((rd_T44 x12_4 (ji55)).f0) ((rd_T44 x12_4 (ji55)).f1) ((rd_T44 l0 x79_5).f0) ((rd_T44 l0 x79_5).f1)) else (impl_HullOf.l4 kj77 l0 x12_4 l0 (l0.length : Int) (wrap64 (x79_5 + 1)) x104000_2 x104001_2 ((rd_T44 x12_4 (ji55)).f0) ((rd_T44 x12_4 (ji55)).f1) x118000_5 x118001_5))) = some (r1, r2) := H
                           have A120 := Ak A1200
                           clear A1200
                           replace H := Option.bind_eq_some_iff.mp H
                           obtain ⟨t125, A1210, H⟩ := H
                           replace H : (if t124 > t125 then (impl_HullOf.l4 kj77 l0 x12_4 l0 (l0.length : Int) (wrap64 (x79_5 + 1)) x104000_2 x104001_2 ((rd_T44 x12_4 (ji55)).f0) ((rd_T44 x12_4 (ji55)).f1) ((rd_T44 l0 x79_5).f0) ((rd_T44 l0 x79_5).f1)) else (impl_HullOf.l4 kj77 l0 x12_4 l0 (l0.length : Int) (wrap64 (x79_5 + 1)) x104000_2 x104001_2 ((rd_T44 x12_4 (ji55)).f0) ((rd_T44 x12_4 (ji55)).f1) x118000_5 x118001_5)) = some (r1, r2) := H
                           have A121 := Ak A1210
                           clear A1210
                           by_cases c122 : t124 > t125
                           ·rw [if_pos c122] at H
                            have c122b0 : decide (t125 < t124) = true := decide_eq_true c122
                            clear c122
                            have H' := Ak H
                            clear H
                            try go_wp2
                            have n0_ := Ak (Kd.R_drew HO_12.out)
                            have n1_ := Ak (blk_drew BK103.out)
                            have n2_ := Ak (blk_drew BK116.out)
                            have n3_ := Ak (blk_drew BK117.out)
                            have n4_ := Ak (blk_drew BK122.out)
                            have n5_ := Ak (below_drew1 HB.out)
                            clear HO_12
                            clear BK103
                            clear BK116
                            clear BK117
                            clear BK122
                            clear HB
                            have HO_12 := n0_
                            have BK103 := n1_
                            have BK116 := n2_
                            have BK117 := n3_
                            have BK122 := n4_
                            have HB := n5_
                            clear n0_ n1_ n2_ n3_ n4_ n5_
                            refine start_ (n := 20) (S := fun w' => w'.cell? ⟨gb117, 0, none⟩ = some (.int .i64 x118000_5) ∧ w'.cell? ⟨gb117, 1, none⟩ = some (.int .i64 x118001_5) ∧ w'.cell? ⟨gb116, 0, none⟩ = some (.int .i64 ((rd_T44 x12_4 (ji55)).f0)) ∧ w'.cell? ⟨gb116, 1, none⟩ = some (.int .i64 ((rd_T44 x12_4 (ji55)).f1)) ∧ w'.cell? ⟨gb122, 0, none⟩ = some (.int .i64 ((rd_T44 l0 x79_5).f0)) ∧ w'.cell? ⟨gb122, 1, none⟩ = some (.int .i64 ((rd_T44 l0 x79_5).f1))) (ds := []) #[F,F,F,F,F,F,F,F,F,F,F,F,F,F,F,F,F,F,F,F] (by kernel_rfl) rfl rfl ⟨(blk_cell BK117.out 0).trans rfl, (blk_cell BK117.out 1).trans rfl, (blk_cell BK116.out 0).trans rfl, (blk_cell BK116.out 1).trans rfl, (blk_cell BK122.out 0).trans rfl, (blk_cell BK122.out 1).trans rfl⟩ (fun hHeld => ?_); refine with_tabW impl_HullOf.tab31 impl_HullOf.bits31 (fun HT_ HW_ => ?_)
                            generalize wc.drew = w123 at HO_12 BK103 BK116 BK117 BK122 HB hHeld ⊢
                            refine take_ (i := 0) (N := some 93) (v := ?_) (a' := ?_) #[T,F,F,F,F,F,F,F,F,F,F,F,F,F,F,F,F,F,F,F] rfl rfl (take_ofW HT_.out HW_.out (by kernel_rfl)) (fun _ _ _ h => h) (Or.inl ⟨by rfl, ?_⟩) hHeld ?_ ?_
                            rotate_left
                            ·rintro w' ⟨s0, s1, s2, s3, s4, s5⟩
                             go_simp
                             with_reducible rfl
                            rotate_left
                            ·simp only [Act.put, sA, sB, sC, sD, sE]
                             rfl
                            refine take_ (i := 1) (N := some 94) (v := ?_) (a' := ?_) #[T,T,F,F,F,F,F,F,F,F,F,F,F,F,F,F,F,F,F,F] rfl rfl (take_ofW HT_.out HW_.out (by kernel_rfl)) (fun _ _ _ h => h) (Or.inl ⟨by rfl, ?_⟩) hHeld ?_ ?_
                            rotate_left
                            ·rintro w' ⟨s0, s1, s2, s3, s4, s5⟩
                             go_simp
                             with_reducible rfl
                            rotate_left
                            ·simp only [Act.put, sA, sB, sC, sD, sE]
                             rfl
                            refine pure_ (i := 2) (N := some 95) (v := ?_) (a' := ?_) #[T,T,T,F,F,F,F,F,F,F,F,F,F,F,F,F,F,F,F,F] rfl rfl (any_of HT_.out (by kernel_rfl)) (fun _ _ _ h => h) (Or.inl ⟨by rfl, ?_⟩) ?_ ?_
                            rotate_left
                            ·intro w'
                             go_simp
                             with_reducible rfl
                            rotate_left
                            ·simp only [Act.put, sA, sB, sC, sD, sE]
                             rfl
                            refine pure_ (i := 3) (N := some 96) (v := ?_) (a' := ?_) #[T,T,T,T,F,F,F,F,F,F,F,F,F,F,F,F,F,F,F,F] rfl rfl (any_of HT_.out (by kernel_rfl)) (fun _ _ _ h => h) (Or.inl ⟨by rfl, ?_⟩) ?_ ?_
                            rotate_left
                            ·intro w'
                             go_simp
                             with_reducible rfl
                            rotate_left
                            ·simp only [Act.put, sA, sB, sC, sD, sE]
                             rfl
                            refine pure_ (i := 4) (N := some 97) (v := ?_) (a' := ?_) #[T,T,T,T,T,F,F,F,F,F,F,F,F,F,F,F,F,F,F,F] rfl rfl (any_of HT_.out (by kernel_rfl)) (fun _ _ _ h => h) (Or.inl ⟨by rfl, ?_⟩) ?_ ?_
                            rotate_left
                            ·intro w'
                             go_simp
                             with_reducible rfl
                            rotate_left
                            ·simp only [Act.put, sA, sB, sC, sD, sE]
                             rfl
                            refine pure_ (i := 5) (N := some 98) (v := ?_) (a' := ?_) #[T,T,T,T,T,T,F,F,F,F,F,F,F,F,F,F,F,F,F,F] rfl rfl (any_of HT_.out (by kernel_rfl)) (fun _ _ _ h => h) (Or.inl ⟨by rfl, ?_⟩) ?_ ?_
                            rotate_left
                            ·intro w'
                             go_simp
                             with_reducible rfl
                            rotate_left
                            ·simp only [Act.put, sA, sB, sC, sD, sE]
                             rfl
                            refine pure_ (i := 6) (N := some 99) (v := ?_) (a' := ?_) #[T,T,T,T,T,T,T,F,F,F,F,F,F,F,F,F,F,F,F,F] rfl rfl (any_of HT_.out (by kernel_rfl)) (fun _ _ _ h => h) (Or.inl ⟨by rfl, ?_⟩) ?_ ?_
                            rotate_left
                            ·intro w'
                             go_simp
                             with_reducible rfl
                            rotate_left
                            ·simp only [Act.put, sA, sB, sC, sD, sE]
                             rfl
                            refine pure_ (i := 7) (N := some 100) (v := ?_) (a' := ?_) #[T,T,T,T,T,T,T,T,F,F,F,F,F,F,F,F,F,F,F,F] rfl rfl (any_of HT_.out (by kernel_rfl)) (fun _ _ _ h => h) (Or.inl ⟨by rfl, ?_⟩) ?_ ?_
                            rotate_left
                            ·intro w'
                             go_simp
                             with_reducible rfl
                            rotate_left
                            ·simp only [Act.put, sA, sB, sC, sD, sE]
                             rfl
                            refine pure_ (i := 8) (N := some 101) (v := ?_) (a' := ?_) #[T,T,T,T,T,T,T,T,T,F,F,F,F,F,F,F,F,F,F,F] rfl rfl (any_of HT_.out (by kernel_rfl)) (fun _ _ _ h => h) (Or.inl ⟨by rfl, ?_⟩) ?_ ?_
                            rotate_left
                            ·intro w'
                             go_simp
                             with_reducible rfl
                            rotate_left
                            ·simp only [Act.put, sA, sB, sC, sD, sE]
                             rfl
                            refine pure_ (i := 9) (N := some 102) (v := ?_) (a' := ?_) #[T,T,T,T,T,T,T,T,T,T,F,F,F,F,F,F,F,F,F,F] rfl rfl (any_of HT_.out (by kernel_rfl)) (fun _ _ _ h => h) (Or.inl ⟨by rfl, ?_⟩) ?_ ?_
                            rotate_left
                            ·intro w'
                             go_simp
                             with_reducible rfl
                            rotate_left
                            ·simp only [Act.put, sA, sB, sC, sD, sE]
                             rfl
                            refine pure_ (i := 10) (N := some 103) (v := ?_) (a' := ?_) #[T,T,T,T,T,T,T,T,T,T,T,F,F,F,F,F,F,F,F,F] rfl rfl (any_of HT_.out (by kernel_rfl)) (fun _ _ _ h => h) (Or.inl ⟨by rfl, ?_⟩) ?_ ?_
                            rotate_left
                            ·intro w'
                             go_simp
                             with_reducible rfl
                            rotate_left
                            ·simp only [Act.put, sA, sB, sC, sD, sE]
                             rfl
                            refine take_ (i := 11) (N := some 104) (v := ?_) (a' := ?_) #[T,T,T,T,T,T,T,T,T,T,T,T,F,F,F,F,F,F,F,F] rfl rfl (take_ofW HT_.out HW_.out (by kernel_rfl)) (fun _ _ _ h => h) (Or.inl ⟨by rfl, ?_⟩) hHeld ?_ ?_
                            rotate_left
                            ·rintro w' ⟨s0, s1, s2, s3, s4, s5⟩
                             go_simp
                             with_reducible rfl
                            rotate_left
                            ·simp only [Act.put, sA, sB, sC, sD, sE]
                             rfl
                            refine take_ (i := 12) (N := some 105) (v := ?_) (a' := ?_) #[T,T,T,T,T,T,T,T,T,T,T,T,T,F,F,F,F,F,F,F] rfl rfl (take_ofW HT_.out HW_.out (by kernel_rfl)) (fun _ _ _ h => h) (Or.inl ⟨by rfl, ?_⟩) hHeld ?_ ?_
                            rotate_left
                            ·rintro w' ⟨s0, s1, s2, s3, s4, s5⟩
                             go_simp
                             with_reducible rfl
                            rotate_left
                            ·simp only [Act.put, sA, sB, sC, sD, sE]
                             rfl
                            refine take_ (i := 14) (N := some 107) (v := ?_) (a' := ?_) #[T,T,T,T,T,T,T,T,T,T,T,T,T,F,T,F,F,F,F,F] rfl rfl (take_ofW HT_.out HW_.out (by kernel_rfl)) (fun _ _ _ h => h) (Or.inl ⟨by rfl, ?_⟩) hHeld ?_ ?_
                            rotate_left
                            ·rintro w' ⟨s0, s1, s2, s3, s4, s5⟩
                             go_simp
                             with_reducible rfl
                            rotate_left
                            ·simp only [Act.put, sA, sB, sC, sD, sE]
                             rfl
                            refine take_ (i := 15) (N := some 108) (v := ?_) (a' := ?_) #[T,T,T,T,T,T,T,T,T,T,T,T,T,F,T,T,F,F,F,F] rfl rfl (take_ofW HT_.out HW_.out (by kernel_rfl)) (fun _ _ _ h => h) (Or.inl ⟨by rfl, ?_⟩) hHeld ?_ ?_
                            rotate_left
                            ·rintro w' ⟨s0, s1, s2, s3, s4, s5⟩
                             go_simp
                             with_reducible rfl
                            rotate_left
                            ·simp only [Act.put, sA, sB, sC, sD, sE]
                             rfl
                            refine one_ (i := 13) (N := some 106) #[T,T,T,T,T,T,T,T,T,T,T,T,T,T,T,T,F,F,F,F] rfl rfl (one_of HT_.out (by kernel_rfl)) (by decide) (fun K hK => ?_)
                            refine goes_ Try.func51 (by kernel_rfl) rfl #[.agg #[.int .i64 ((rd_T44 x12_4 (ji55)).f0), .int .i64 ((rd_T44 x12_4 (ji55)).f1)], .agg #[.int .i64 ((rd_T44 l0 x79_5).f0), .int .i64 ((rd_T44 l0 x79_5).f1)]] (by rfl) rfl rfl (by (try simp only [List.map_toArray, List.map_cons, List.map_nil]); first | done | (simp only [hji55]; rfl) | rfl | (simp only [List.length_drop, List.length_take]; rfl)) ?_
                            with_reducible refine (impl_square.calls ((rd_T44 x12_4 (ji55)).f0) ((rd_T44 x12_4 (ji55)).f1) ((rd_T44 l0 x79_5).f0) ((rd_T44 l0 x79_5).f1) t124 _ A120.out).mono ?_
                            rintro e w124 ⟨rfl, hb⟩
                            refine ⟨_, rfl, ?_⟩
                            have n0_ := Ak (Kd.R_below (by (with_reducible repeat (first | apply Kd.R_alloc | apply Kd.R_drewN | apply Kd.R_drew)); exact HO_12.out) hb)
                            have n1_ := Ak (blk_below (g := gb103) (o := .cells #[.int .i64 x104000_2, .int .i64 x104001_2] 44 (0, 0)) (by exact BK103.out) hb)
                            have n2_ := Ak (blk_below (g := gb116) (o := .cells #[.int .i64 ((rd_T44 x12_4 (ji55)).f0), .int .i64 ((rd_T44 x12_4 (ji55)).f1)] 44 (0, 0)) (by exact BK116.out) hb)
                            have n3_ := Ak (blk_below (g := gb117) (o := .cells #[.int .i64 x118000_5, .int .i64 x118001_5] 44 (0, 0)) (by exact BK117.out) hb)
                            have n4_ := Ak (blk_below (g := gb122) (o := .cells #[.int .i64 ((rd_T44 l0 x79_5).f0), .int .i64 ((rd_T44 l0 x79_5).f1)] 44 (0, 0)) (by exact BK122.out) hb)
                            have n5_ := Ak (below_step (by repeat (first | exact HB.out | apply bA | apply bD | apply bE | refine below_set ?_ GE103.out | refine below_set ?_ GE116.out | refine below_set ?_ GE117.out | refine below_set ?_ GE122.out)) hb)
                            clear HO_12
                            clear BK103
                            clear BK116
                            clear BK117
                            clear BK122
                            clear HB
                            have HO_12 := n0_
                            have BK103 := n1_
                            have BK116 := n2_
                            have BK117 := n3_
                            have BK122 := n4_
                            have HB := n5_
                            clear n0_ n1_ n2_ n3_ n4_ n5_
                            (try clear hb)
                            (try clear hb2)
                            (try clear hk)
                            (try clear hi)
                            refine hK.out _ _ ⟨(blk_cell BK117.out 0).trans rfl, (blk_cell BK117.out 1).trans rfl, (blk_cell BK116.out 0).trans rfl, (blk_cell BK116.out 1).trans rfl, (blk_cell BK122.out 0).trans rfl, (blk_cell BK122.out 1).trans rfl⟩ (fun hHeld => ?_)
                            clear hK K
                            refine norm_ (a' := ?_) ?_ ?_
                            rotate_left
                            ·show Act.put _ (some 106) _ = _
                             simp only [Act.put, sA, sB, sC, sD, sE]
                             rfl
                            refine one_ (i := 16) (N := some 109) #[T,T,T,T,T,T,T,T,T,T,T,T,T,T,T,T,T,F,F,F] rfl rfl (one_of HT_.out (by kernel_rfl)) (by decide) (fun K hK => ?_)
                            refine goes_ Try.func51 (by kernel_rfl) rfl #[.agg #[.int .i64 ((rd_T44 x12_4 (ji55)).f0), .int .i64 ((rd_T44 x12_4 (ji55)).f1)], .agg #[.int .i64 x118000_5, .int .i64 x118001_5]] (by rfl) rfl rfl (by (try simp only [List.map_toArray, List.map_cons, List.map_nil]); first | done | (simp only [hji55]; rfl) | rfl | (simp only [List.length_drop, List.length_take]; rfl)) ?_
                            with_reducible refine (impl_square.calls ((rd_T44 x12_4 (ji55)).f0) ((rd_T44 x12_4 (ji55)).f1) x118000_5 x118001_5 t125 _ A121.out).mono ?_
                            rintro e w125 ⟨rfl, hb⟩
                            refine ⟨_, rfl, ?_⟩
                            have n0_ := Ak (Kd.R_below (by (with_reducible repeat (first | apply Kd.R_alloc | apply Kd.R_drewN | apply Kd.R_drew)); exact HO_12.out) hb)
                            have n1_ := Ak (blk_below (g := gb103) (o := .cells #[.int .i64 x104000_2, .int .i64 x104001_2] 44 (0, 0)) (by exact BK103.out) hb)
                            have n2_ := Ak (blk_below (g := gb116) (o := .cells #[.int .i64 ((rd_T44 x12_4 (ji55)).f0), .int .i64 ((rd_T44 x12_4 (ji55)).f1)] 44 (0, 0)) (by exact BK116.out) hb)
                            have n3_ := Ak (blk_below (g := gb117) (o := .cells #[.int .i64 x118000_5, .int .i64 x118001_5] 44 (0, 0)) (by exact BK117.out) hb)
                            have n4_ := Ak (blk_below (g := gb122) (o := .cells #[.int .i64 ((rd_T44 l0 x79_5).f0), .int .i64 ((rd_T44 l0 x79_5).f1)] 44 (0, 0)) (by exact BK122.out) hb)
                            have n5_ := Ak (below_step (by repeat (first | exact HB.out | apply bA | apply bD | apply bE | refine below_set ?_ GE103.out | refine below_set ?_ GE116.out | refine below_set ?_ GE117.out | refine below_set ?_ GE122.out)) hb)
                            clear HO_12
                            clear BK103
                            clear BK116
                            clear BK117
                            clear BK122
                            clear HB
                            have HO_12 := n0_
                            have BK103 := n1_
                            have BK116 := n2_
                            have BK117 := n3_
                            have BK122 := n4_
                            have HB := n5_
                            clear n0_ n1_ n2_ n3_ n4_ n5_
                            (try clear hb)
                            (try clear hb2)
                            (try clear hk)
                            (try clear hi)
                            refine hK.out _ _ ⟨(blk_cell BK117.out 0).trans rfl, (blk_cell BK117.out 1).trans rfl, (blk_cell BK116.out 0).trans rfl, (blk_cell BK116.out 1).trans rfl, (blk_cell BK122.out 0).trans rfl, (blk_cell BK122.out 1).trans rfl⟩ (fun hHeld => ?_)
                            clear hK K
                            refine norm_ (a' := ?_) ?_ ?_
                            rotate_left
                            ·show Act.put _ (some 109) _ = _
                             simp only [Act.put, sA, sB, sC, sD, sE]
                             rfl
                            refine pure_ (i := 17) (N := some 110) (v := ?_) (a' := ?_) #[T,T,T,T,T,T,T,T,T,T,T,T,T,T,T,T,T,T,F,F] rfl rfl (any_of HT_.out (by kernel_rfl)) (fun _ _ _ h => h) (Or.inl ⟨by rfl, ?_⟩) ?_ ?_
                            rotate_left
                            ·intro w'
                             go_simp
                             with_reducible rfl
                            rotate_left
                            ·simp only [Act.put, sA, sB, sC, sD, sE]
                             rfl
                            refine pure_ (i := 18) (N := some 111) (v := ?_) (a' := ?_) #[T,T,T,T,T,T,T,T,T,T,T,T,T,T,T,T,T,T,T,F] rfl rfl (any_of HT_.out (by kernel_rfl)) (fun _ _ _ h => h) (Or.inl ⟨by rfl, ?_⟩) ?_ ?_
                            rotate_left
                            ·intro w'
                             go_simp
                             with_reducible rfl
                            rotate_left
                            ·simp only [Act.put, sA, sB, sC, sD, sE]
                             rfl
                            refine pure_ (i := 19) (N := some 112) (v := ?_) (a' := ?_) #[T,T,T,T,T,T,T,T,T,T,T,T,T,T,T,T,T,T,T,T] rfl rfl (any_of HT_.out (by kernel_rfl)) (fun _ _ _ h => h) (Or.inl ⟨by rfl, ?_⟩) ?_ ?_
                            rotate_left
                            ·intro w'
                             go_simp
                             with_reducible rfl
                            rotate_left
                            ·simp only [Act.put, sA, sB, sC, sD, sE]
                             rfl
                            refine done_ (done_of HT_.out (by kernel_rfl)) ?_
                            have hnb126 := NB122_103.out
                            have hnc126 := NB103_122.out
                            have hnb127 := NB122_116.out
                            have hnc127 := NB116_122.out
                            have hnb128 := NB122_117.out
                            have hnc128 := NB117_122.out
                            have hcz129_0 : w125.cell? ⟨gb122, 0, none⟩ = some (.int .i64 ((rd_T44 l0 x79_5).f0)) := (blk_cell BK122.out 0).trans rfl
                            have hcz129_1 : w125.cell? ⟨gb122, 1, none⟩ = some (.int .i64 ((rd_T44 l0 x79_5).f1)) := (blk_cell BK122.out 1).trans rfl
                            have hfz129_0 := blk_frozen BK122.out 0
                            have hfz129_1 := blk_frozen BK122.out 1
                            have hnb130 := NB117_103.out
                            have hnc130 := NB103_117.out
                            have hnb131 := NB117_116.out
                            have hnc131 := NB116_117.out
                            have hcz132_0 : w125.cell? ⟨gb117, 0, none⟩ = some (.int .i64 x118000_5) := (blk_cell BK117.out 0).trans rfl
                            have hcz132_1 : w125.cell? ⟨gb117, 1, none⟩ = some (.int .i64 x118001_5) := (blk_cell BK117.out 1).trans rfl
                            have hfz132_0 := blk_frozen BK117.out 0
                            have hfz132_1 := blk_frozen BK117.out 1
                            try go_wp2
                            go_roundg kj77
                            case measure => have := HJ1.out; have := HK2.out; have := HK3.out; have := HK4.out; have := HK5.out; have := HJ77.out; omega
                            case rel => exact ⟨(wrap64 (x79_5 + 1)), (((rd_T44 l0 x79_5).f0)), (((rd_T44 l0 x79_5).f1)), (by first | rfl | (simp; done) | (simp [*]; done)), H', ⟨by have := HJ1.out; have := HK2.out; have := HK3.out; have := HK4.out; have := HK5.out; have := HJ77.out; omega⟩, ⟨by (with_reducible repeat (first | apply Kd.R_alloc | apply Kd.R_drewN | apply Kd.R_drew)); exact Kd.R_mono (Kd.R_far (p := ⟨gb117, 1, none⟩) (Kd.R_far (p := ⟨gb117, 0, none⟩) (Kd.R_mono HO_12.out (fun k_ hk => (⟨hk, hk.2.2.1⟩ : _ ∧ k_ ≠ gb117))) (fun _ hk => hk.2) (.int .i64 ((rd_T44 l0 x79_5).f0))) (fun _ hk => hk.2) (.int .i64 ((rd_T44 l0 x79_5).f1))) (fun _ hk => ⟨hk.1.1, ⟨hk.1.2.1, hk.1.2.2.1⟩⟩)⟩, ⟨by refine blk_far ?_ NB103_117.out _; refine blk_far ?_ NB103_117.out _; exact BK103.out⟩, ⟨by refine blk_far ?_ NB116_117.out _; refine blk_far ?_ NB116_117.out _; exact BK116.out⟩, ⟨by refine blk_put (cs := #[.int .i64 ((rd_T44 l0 x79_5).f0), .int .i64 x118001_5]) ?_ 1 _ rfl; refine blk_put (cs := #[.int .i64 x118000_5, .int .i64 x118001_5]) ?_ 0 _ rfl; exact BK117.out⟩, ⟨by repeat (first | (with_reducible first | exact HB.out | apply bA | apply bD | apply bE | refine below_set ?_ GE103.out | refine below_set ?_ GE116.out | refine below_set ?_ GE117.out | refine below_set ?_ GE122.out) | exact HB.out)⟩⟩
                           ·rw [if_neg c122] at H
                            have c122b0 : decide (t125 < t124) = false := decide_eq_false c122
                            clear c122
                            have H' := Ak H
                            clear H
                            try go_wp2
                            have n0_ := Ak (Kd.R_drew HO_12.out)
                            have n1_ := Ak (blk_drew BK103.out)
                            have n2_ := Ak (blk_drew BK116.out)
                            have n3_ := Ak (blk_drew BK117.out)
                            have n4_ := Ak (blk_drew BK122.out)
                            have n5_ := Ak (below_drew1 HB.out)
                            clear HO_12
                            clear BK103
                            clear BK116
                            clear BK117
                            clear BK122
                            clear HB
                            have HO_12 := n0_
                            have BK103 := n1_
                            have BK116 := n2_
                            have BK117 := n3_
                            have BK122 := n4_
                            have HB := n5_
                            clear n0_ n1_ n2_ n3_ n4_ n5_
                            refine start_ (n := 20) (S := fun w' => w'.cell? ⟨gb117, 0, none⟩ = some (.int .i64 x118000_5) ∧ w'.cell? ⟨gb117, 1, none⟩ = some (.int .i64 x118001_5) ∧ w'.cell? ⟨gb116, 0, none⟩ = some (.int .i64 ((rd_T44 x12_4 (ji55)).f0)) ∧ w'.cell? ⟨gb116, 1, none⟩ = some (.int .i64 ((rd_T44 x12_4 (ji55)).f1)) ∧ w'.cell? ⟨gb122, 0, none⟩ = some (.int .i64 ((rd_T44 l0 x79_5).f0)) ∧ w'.cell? ⟨gb122, 1, none⟩ = some (.int .i64 ((rd_T44 l0 x79_5).f1))) (ds := []) #[F,F,F,F,F,F,F,F,F,F,F,F,F,F,F,F,F,F,F,F] (by kernel_rfl) rfl rfl ⟨(blk_cell BK117.out 0).trans rfl, (blk_cell BK117.out 1).trans rfl, (blk_cell BK116.out 0).trans rfl, (blk_cell BK116.out 1).trans rfl, (blk_cell BK122.out 0).trans rfl, (blk_cell BK122.out 1).trans rfl⟩ (fun hHeld => ?_); refine with_tabW impl_HullOf.tab31 impl_HullOf.bits31 (fun HT_ HW_ => ?_)
                            generalize wc.drew = w133 at HO_12 BK103 BK116 BK117 BK122 HB hHeld ⊢
                            refine take_ (i := 0) (N := some 93) (v := ?_) (a' := ?_) #[T,F,F,F,F,F,F,F,F,F,F,F,F,F,F,F,F,F,F,F] rfl rfl (take_ofW HT_.out HW_.out (by kernel_rfl)) (fun _ _ _ h => h) (Or.inl ⟨by rfl, ?_⟩) hHeld ?_ ?_
                            rotate_left
                            ·rintro w' ⟨s0, s1, s2, s3, s4, s5⟩
                             go_simp
                             with_reducible rfl
                            rotate_left
                            ·simp only [Act.put, sA, sB, sC, sD, sE]
                             rfl
                            refine take_ (i := 1) (N := some 94) (v := ?_) (a' := ?_) #[T,T,F,F,F,F,F,F,F,F,F,F,F,F,F,F,F,F,F,F] rfl rfl (take_ofW HT_.out HW_.out (by kernel_rfl)) (fun _ _ _ h => h) (Or.inl ⟨by rfl, ?_⟩) hHeld ?_ ?_
                            rotate_left
                            ·rintro w' ⟨s0, s1, s2, s3, s4, s5⟩
                             go_simp
                             with_reducible rfl
                            rotate_left
                            ·simp only [Act.put, sA, sB, sC, sD, sE]
                             rfl
                            refine pure_ (i := 2) (N := some 95) (v := ?_) (a' := ?_) #[T,T,T,F,F,F,F,F,F,F,F,F,F,F,F,F,F,F,F,F] rfl rfl (any_of HT_.out (by kernel_rfl)) (fun _ _ _ h => h) (Or.inl ⟨by rfl, ?_⟩) ?_ ?_
                            rotate_left
                            ·intro w'
                             go_simp
                             with_reducible rfl
                            rotate_left
                            ·simp only [Act.put, sA, sB, sC, sD, sE]
                             rfl
                            refine pure_ (i := 3) (N := some 96) (v := ?_) (a' := ?_) #[T,T,T,T,F,F,F,F,F,F,F,F,F,F,F,F,F,F,F,F] rfl rfl (any_of HT_.out (by kernel_rfl)) (fun _ _ _ h => h) (Or.inl ⟨by rfl, ?_⟩) ?_ ?_
                            rotate_left
                            ·intro w'
                             go_simp
                             with_reducible rfl
                            rotate_left
                            ·simp only [Act.put, sA, sB, sC, sD, sE]
                             rfl
                            refine pure_ (i := 4) (N := some 97) (v := ?_) (a' := ?_) #[T,T,T,T,T,F,F,F,F,F,F,F,F,F,F,F,F,F,F,F] rfl rfl (any_of HT_.out (by kernel_rfl)) (fun _ _ _ h => h) (Or.inl ⟨by rfl, ?_⟩) ?_ ?_
                            rotate_left
                            ·intro w'
                             go_simp
                             with_reducible rfl
                            rotate_left
                            ·simp only [Act.put, sA, sB, sC, sD, sE]
                             rfl
                            refine pure_ (i := 5) (N := some 98) (v := ?_) (a' := ?_) #[T,T,T,T,T,T,F,F,F,F,F,F,F,F,F,F,F,F,F,F] rfl rfl (any_of HT_.out (by kernel_rfl)) (fun _ _ _ h => h) (Or.inl ⟨by rfl, ?_⟩) ?_ ?_
                            rotate_left
                            ·intro w'
                             go_simp
                             with_reducible rfl
                            rotate_left
                            ·simp only [Act.put, sA, sB, sC, sD, sE]
                             rfl
                            refine pure_ (i := 6) (N := some 99) (v := ?_) (a' := ?_) #[T,T,T,T,T,T,T,F,F,F,F,F,F,F,F,F,F,F,F,F] rfl rfl (any_of HT_.out (by kernel_rfl)) (fun _ _ _ h => h) (Or.inl ⟨by rfl, ?_⟩) ?_ ?_
                            rotate_left
                            ·intro w'
                             go_simp
                             with_reducible rfl
                            rotate_left
                            ·simp only [Act.put, sA, sB, sC, sD, sE]
                             rfl
                            refine pure_ (i := 7) (N := some 100) (v := ?_) (a' := ?_) #[T,T,T,T,T,T,T,T,F,F,F,F,F,F,F,F,F,F,F,F] rfl rfl (any_of HT_.out (by kernel_rfl)) (fun _ _ _ h => h) (Or.inl ⟨by rfl, ?_⟩) ?_ ?_
                            rotate_left
                            ·intro w'
                             go_simp
                             with_reducible rfl
                            rotate_left
                            ·simp only [Act.put, sA, sB, sC, sD, sE]
                             rfl
                            refine pure_ (i := 8) (N := some 101) (v := ?_) (a' := ?_) #[T,T,T,T,T,T,T,T,T,F,F,F,F,F,F,F,F,F,F,F] rfl rfl (any_of HT_.out (by kernel_rfl)) (fun _ _ _ h => h) (Or.inl ⟨by rfl, ?_⟩) ?_ ?_
                            rotate_left
                            ·intro w'
                             go_simp
                             with_reducible rfl
                            rotate_left
                            ·simp only [Act.put, sA, sB, sC, sD, sE]
                             rfl
                            refine pure_ (i := 9) (N := some 102) (v := ?_) (a' := ?_) #[T,T,T,T,T,T,T,T,T,T,F,F,F,F,F,F,F,F,F,F] rfl rfl (any_of HT_.out (by kernel_rfl)) (fun _ _ _ h => h) (Or.inl ⟨by rfl, ?_⟩) ?_ ?_
                            rotate_left
                            ·intro w'
                             go_simp
                             with_reducible rfl
                            rotate_left
                            ·simp only [Act.put, sA, sB, sC, sD, sE]
                             rfl
                            refine pure_ (i := 10) (N := some 103) (v := ?_) (a' := ?_) #[T,T,T,T,T,T,T,T,T,T,T,F,F,F,F,F,F,F,F,F] rfl rfl (any_of HT_.out (by kernel_rfl)) (fun _ _ _ h => h) (Or.inl ⟨by rfl, ?_⟩) ?_ ?_
                            rotate_left
                            ·intro w'
                             go_simp
                             with_reducible rfl
                            rotate_left
                            ·simp only [Act.put, sA, sB, sC, sD, sE]
                             rfl
                            refine take_ (i := 11) (N := some 104) (v := ?_) (a' := ?_) #[T,T,T,T,T,T,T,T,T,T,T,T,F,F,F,F,F,F,F,F] rfl rfl (take_ofW HT_.out HW_.out (by kernel_rfl)) (fun _ _ _ h => h) (Or.inl ⟨by rfl, ?_⟩) hHeld ?_ ?_
                            rotate_left
                            ·rintro w' ⟨s0, s1, s2, s3, s4, s5⟩
                             go_simp
                             with_reducible rfl
                            rotate_left
                            ·simp only [Act.put, sA, sB, sC, sD, sE]
                             rfl
                            refine take_ (i := 12) (N := some 105) (v := ?_) (a' := ?_) #[T,T,T,T,T,T,T,T,T,T,T,T,T,F,F,F,F,F,F,F] rfl rfl (take_ofW HT_.out HW_.out (by kernel_rfl)) (fun _ _ _ h => h) (Or.inl ⟨by rfl, ?_⟩) hHeld ?_ ?_
                            rotate_left
                            ·rintro w' ⟨s0, s1, s2, s3, s4, s5⟩
                             go_simp
                             with_reducible rfl
                            rotate_left
                            ·simp only [Act.put, sA, sB, sC, sD, sE]
                             rfl
                            refine take_ (i := 14) (N := some 107) (v := ?_) (a' := ?_) #[T,T,T,T,T,T,T,T,T,T,T,T,T,F,T,F,F,F,F,F] rfl rfl (take_ofW HT_.out HW_.out (by kernel_rfl)) (fun _ _ _ h => h) (Or.inl ⟨by rfl, ?_⟩) hHeld ?_ ?_
                            rotate_left
                            ·rintro w' ⟨s0, s1, s2, s3, s4, s5⟩
                             go_simp
                             with_reducible rfl
                            rotate_left
                            ·simp only [Act.put, sA, sB, sC, sD, sE]
                             rfl
                            refine take_ (i := 15) (N := some 108) (v := ?_) (a' := ?_) #[T,T,T,T,T,T,T,T,T,T,T,T,T,F,T,T,F,F,F,F] rfl rfl (take_ofW HT_.out HW_.out (by kernel_rfl)) (fun _ _ _ h => h) (Or.inl ⟨by rfl, ?_⟩) hHeld ?_ ?_
                            rotate_left
                            ·rintro w' ⟨s0, s1, s2, s3, s4, s5⟩
                             go_simp
                             with_reducible rfl
                            rotate_left
                            ·simp only [Act.put, sA, sB, sC, sD, sE]
                             rfl
                            refine one_ (i := 13) (N := some 106) #[T,T,T,T,T,T,T,T,T,T,T,T,T,T,T,T,F,F,F,F] rfl rfl (one_of HT_.out (by kernel_rfl)) (by decide) (fun K hK => ?_)
                            refine goes_ Try.func51 (by kernel_rfl) rfl #[.agg #[.int .i64 ((rd_T44 x12_4 (ji55)).f0), .int .i64 ((rd_T44 x12_4 (ji55)).f1)], .agg #[.int .i64 ((rd_T44 l0 x79_5).f0), .int .i64 ((rd_T44 l0 x79_5).f1)]] (by rfl) rfl rfl (by (try simp only [List.map_toArray, List.map_cons, List.map_nil]); first | done | (simp only [hji55]; rfl) | rfl | (simp only [List.length_drop, List.length_take]; rfl)) ?_
                            with_reducible refine (impl_square.calls ((rd_T44 x12_4 (ji55)).f0) ((rd_T44 x12_4 (ji55)).f1) ((rd_T44 l0 x79_5).f0) ((rd_T44 l0 x79_5).f1) t124 _ A120.out).mono ?_
                            rintro e w134 ⟨rfl, hb⟩
                            refine ⟨_, rfl, ?_⟩
                            have n0_ := Ak (Kd.R_below (by (with_reducible repeat (first | apply Kd.R_alloc | apply Kd.R_drewN | apply Kd.R_drew)); exact HO_12.out) hb)
                            have n1_ := Ak (blk_below (g := gb103) (o := .cells #[.int .i64 x104000_2, .int .i64 x104001_2] 44 (0, 0)) (by exact BK103.out) hb)
                            have n2_ := Ak (blk_below (g := gb116) (o := .cells #[.int .i64 ((rd_T44 x12_4 (ji55)).f0), .int .i64 ((rd_T44 x12_4 (ji55)).f1)] 44 (0, 0)) (by exact BK116.out) hb)
                            have n3_ := Ak (blk_below (g := gb117) (o := .cells #[.int .i64 x118000_5, .int .i64 x118001_5] 44 (0, 0)) (by exact BK117.out) hb)
                            have n4_ := Ak (blk_below (g := gb122) (o := .cells #[.int .i64 ((rd_T44 l0 x79_5).f0), .int .i64 ((rd_T44 l0 x79_5).f1)] 44 (0, 0)) (by exact BK122.out) hb)
                            have n5_ := Ak (below_step (by repeat (first | exact HB.out | apply bA | apply bD | apply bE | refine below_set ?_ GE103.out | refine below_set ?_ GE116.out | refine below_set ?_ GE117.out | refine below_set ?_ GE122.out)) hb)
                            clear HO_12
                            clear BK103
                            clear BK116
                            clear BK117
                            clear BK122
                            clear HB
                            have HO_12 := n0_
                            have BK103 := n1_
                            have BK116 := n2_
                            have BK117 := n3_
                            have BK122 := n4_
                            have HB := n5_
                            clear n0_ n1_ n2_ n3_ n4_ n5_
                            (try clear hb)
                            (try clear hb2)
                            (try clear hk)
                            (try clear hi)
                            refine hK.out _ _ ⟨(blk_cell BK117.out 0).trans rfl, (blk_cell BK117.out 1).trans rfl, (blk_cell BK116.out 0).trans rfl, (blk_cell BK116.out 1).trans rfl, (blk_cell BK122.out 0).trans rfl, (blk_cell BK122.out 1).trans rfl⟩ (fun hHeld => ?_)
                            clear hK K
                            refine norm_ (a' := ?_) ?_ ?_
                            rotate_left
                            ·show Act.put _ (some 106) _ = _
                             simp only [Act.put, sA, sB, sC, sD, sE]
                             rfl
                            refine one_ (i := 16) (N := some 109) #[T,T,T,T,T,T,T,T,T,T,T,T,T,T,T,T,T,F,F,F] rfl rfl (one_of HT_.out (by kernel_rfl)) (by decide) (fun K hK => ?_)
                            refine goes_ Try.func51 (by kernel_rfl) rfl #[.agg #[.int .i64 ((rd_T44 x12_4 (ji55)).f0), .int .i64 ((rd_T44 x12_4 (ji55)).f1)], .agg #[.int .i64 x118000_5, .int .i64 x118001_5]] (by rfl) rfl rfl (by (try simp only [List.map_toArray, List.map_cons, List.map_nil]); first | done | (simp only [hji55]; rfl) | rfl | (simp only [List.length_drop, List.length_take]; rfl)) ?_
                            with_reducible refine (impl_square.calls ((rd_T44 x12_4 (ji55)).f0) ((rd_T44 x12_4 (ji55)).f1) x118000_5 x118001_5 t125 _ A121.out).mono ?_
                            rintro e w135 ⟨rfl, hb⟩
                            refine ⟨_, rfl, ?_⟩
                            have n0_ := Ak (Kd.R_below (by (with_reducible repeat (first | apply Kd.R_alloc | apply Kd.R_drewN | apply Kd.R_drew)); exact HO_12.out) hb)
                            have n1_ := Ak (blk_below (g := gb103) (o := .cells #[.int .i64 x104000_2, .int .i64 x104001_2] 44 (0, 0)) (by exact BK103.out) hb)
                            have n2_ := Ak (blk_below (g := gb116) (o := .cells #[.int .i64 ((rd_T44 x12_4 (ji55)).f0), .int .i64 ((rd_T44 x12_4 (ji55)).f1)] 44 (0, 0)) (by exact BK116.out) hb)
                            have n3_ := Ak (blk_below (g := gb117) (o := .cells #[.int .i64 x118000_5, .int .i64 x118001_5] 44 (0, 0)) (by exact BK117.out) hb)
                            have n4_ := Ak (blk_below (g := gb122) (o := .cells #[.int .i64 ((rd_T44 l0 x79_5).f0), .int .i64 ((rd_T44 l0 x79_5).f1)] 44 (0, 0)) (by exact BK122.out) hb)
                            have n5_ := Ak (below_step (by repeat (first | exact HB.out | apply bA | apply bD | apply bE | refine below_set ?_ GE103.out | refine below_set ?_ GE116.out | refine below_set ?_ GE117.out | refine below_set ?_ GE122.out)) hb)
                            clear HO_12
                            clear BK103
                            clear BK116
                            clear BK117
                            clear BK122
                            clear HB
                            have HO_12 := n0_
                            have BK103 := n1_
                            have BK116 := n2_
                            have BK117 := n3_
                            have BK122 := n4_
                            have HB := n5_
                            clear n0_ n1_ n2_ n3_ n4_ n5_
                            (try clear hb)
                            (try clear hb2)
                            (try clear hk)
                            (try clear hi)
                            refine hK.out _ _ ⟨(blk_cell BK117.out 0).trans rfl, (blk_cell BK117.out 1).trans rfl, (blk_cell BK116.out 0).trans rfl, (blk_cell BK116.out 1).trans rfl, (blk_cell BK122.out 0).trans rfl, (blk_cell BK122.out 1).trans rfl⟩ (fun hHeld => ?_)
                            clear hK K
                            refine norm_ (a' := ?_) ?_ ?_
                            rotate_left
                            ·show Act.put _ (some 109) _ = _
                             simp only [Act.put, sA, sB, sC, sD, sE]
                             rfl
                            refine pure_ (i := 17) (N := some 110) (v := ?_) (a' := ?_) #[T,T,T,T,T,T,T,T,T,T,T,T,T,T,T,T,T,T,F,F] rfl rfl (any_of HT_.out (by kernel_rfl)) (fun _ _ _ h => h) (Or.inl ⟨by rfl, ?_⟩) ?_ ?_
                            rotate_left
                            ·intro w'
                             go_simp
                             with_reducible rfl
                            rotate_left
                            ·simp only [Act.put, sA, sB, sC, sD, sE]
                             rfl
                            refine pure_ (i := 18) (N := some 111) (v := ?_) (a' := ?_) #[T,T,T,T,T,T,T,T,T,T,T,T,T,T,T,T,T,T,T,F] rfl rfl (any_of HT_.out (by kernel_rfl)) (fun _ _ _ h => h) (Or.inl ⟨by rfl, ?_⟩) ?_ ?_
                            rotate_left
                            ·intro w'
                             go_simp
                             with_reducible rfl
                            rotate_left
                            ·simp only [Act.put, sA, sB, sC, sD, sE]
                             rfl
                            refine pure_ (i := 19) (N := some 112) (v := ?_) (a' := ?_) #[T,T,T,T,T,T,T,T,T,T,T,T,T,T,T,T,T,T,T,T] rfl rfl (any_of HT_.out (by kernel_rfl)) (fun _ _ _ h => h) (Or.inl ⟨by rfl, ?_⟩) ?_ ?_
                            rotate_left
                            ·intro w'
                             go_simp
                             with_reducible rfl
                            rotate_left
                            ·simp only [Act.put, sA, sB, sC, sD, sE]
                             rfl
                            refine done_ (done_of HT_.out (by kernel_rfl)) ?_
                            try go_wp2
                            go_roundg kj77
                            case measure => have := HJ1.out; have := HK2.out; have := HK3.out; have := HK4.out; have := HK5.out; have := HJ77.out; omega
                            case rel => exact ⟨(wrap64 (x79_5 + 1)), (x118000_5), (x118001_5), (by first | rfl | (simp; done) | (simp [*]; done)), H', ⟨by have := HJ1.out; have := HK2.out; have := HK3.out; have := HK4.out; have := HK5.out; have := HJ77.out; omega⟩, ⟨by (with_reducible repeat (first | apply Kd.R_alloc | apply Kd.R_drewN | apply Kd.R_drew)); exact Kd.R_mono HO_12.out (fun _ hk => ⟨hk.1, ⟨hk.2.1, hk.2.2.1⟩⟩)⟩, ⟨by exact BK103.out⟩, ⟨by exact BK116.out⟩, ⟨by exact BK117.out⟩, ⟨by repeat (first | (with_reducible first | exact HB.out | apply bA | apply bD | apply bE | refine below_set ?_ GE103.out | refine below_set ?_ GE116.out | refine below_set ?_ GE117.out | refine below_set ?_ GE122.out) | exact HB.out)⟩⟩
                          ·rw [if_neg c119] at H
                           have c119b0 : (x17_77 == 0) = false := beq_eq_false_iff_ne.mpr c119
                           have c119b1 : (x17_77 != 0) = true := bne_iff_ne.mpr c119
                           have H' := Ak H
                           clear H
                           try go_wp2
                           have n0_ := Ak (Kd.R_drew HO_12.out)
                           have n1_ := Ak (blk_drew BK103.out)
                           have n2_ := Ak (blk_drew BK116.out)
                           have n3_ := Ak (blk_drew BK117.out)
                           have n4_ := Ak (blk_drew BK122.out)
                           have n5_ := Ak (below_drew1 HB.out)
                           clear HO_12
                           clear BK103
                           clear BK116
                           clear BK117
                           clear BK122
                           clear HB
                           have HO_12 := n0_
                           have BK103 := n1_
                           have BK116 := n2_
                           have BK117 := n3_
                           have BK122 := n4_
                           have HB := n5_
                           clear n0_ n1_ n2_ n3_ n4_ n5_
                           refine start_ (n := 20) (S := fun w' => w'.cell? ⟨gb117, 0, none⟩ = some (.int .i64 x118000_5) ∧ w'.cell? ⟨gb117, 1, none⟩ = some (.int .i64 x118001_5) ∧ w'.cell? ⟨gb116, 0, none⟩ = some (.int .i64 ((rd_T44 x12_4 (ji55)).f0)) ∧ w'.cell? ⟨gb116, 1, none⟩ = some (.int .i64 ((rd_T44 x12_4 (ji55)).f1))) (ds := []) #[F,F,F,F,F,F,F,F,F,F,F,F,F,F,F,F,F,F,F,F] (by kernel_rfl) rfl rfl ⟨(blk_cell BK117.out 0).trans rfl, (blk_cell BK117.out 1).trans rfl, (blk_cell BK116.out 0).trans rfl, (blk_cell BK116.out 1).trans rfl⟩ (fun hHeld => ?_); refine with_tabW impl_HullOf.tab31 impl_HullOf.bits31 (fun HT_ HW_ => ?_)
                           generalize wc.drew = w136 at HO_12 BK103 BK116 BK117 BK122 HB hHeld ⊢
                           refine take_ (i := 0) (N := some 93) (v := ?_) (a' := ?_) #[T,F,F,F,F,F,F,F,F,F,F,F,F,F,F,F,F,F,F,F] rfl rfl (take_ofW HT_.out HW_.out (by kernel_rfl)) (fun _ _ _ h => h) (Or.inl ⟨by rfl, ?_⟩) hHeld ?_ ?_
                           rotate_left
                           ·rintro w' ⟨s0, s1, s2, s3⟩
                            go_simp
                            with_reducible rfl
                           rotate_left
                           ·simp only [Act.put, sA, sB, sC, sD, sE]
                            rfl
                           refine take_ (i := 1) (N := some 94) (v := ?_) (a' := ?_) #[T,T,F,F,F,F,F,F,F,F,F,F,F,F,F,F,F,F,F,F] rfl rfl (take_ofW HT_.out HW_.out (by kernel_rfl)) (fun _ _ _ h => h) (Or.inl ⟨by rfl, ?_⟩) hHeld ?_ ?_
                           rotate_left
                           ·rintro w' ⟨s0, s1, s2, s3⟩
                            go_simp
                            with_reducible rfl
                           rotate_left
                           ·simp only [Act.put, sA, sB, sC, sD, sE]
                            rfl
                           refine pure_ (i := 2) (N := some 95) (v := ?_) (a' := ?_) #[T,T,T,F,F,F,F,F,F,F,F,F,F,F,F,F,F,F,F,F] rfl rfl (any_of HT_.out (by kernel_rfl)) (fun _ _ _ h => h) (Or.inl ⟨by rfl, ?_⟩) ?_ ?_
                           rotate_left
                           ·intro w'
                            go_simp
                            with_reducible rfl
                           rotate_left
                           ·simp only [Act.put, sA, sB, sC, sD, sE]
                            rfl
                           refine pure_ (i := 3) (N := some 96) (v := ?_) (a' := ?_) #[T,T,T,T,F,F,F,F,F,F,F,F,F,F,F,F,F,F,F,F] rfl rfl (any_of HT_.out (by kernel_rfl)) (fun _ _ _ h => h) (Or.inl ⟨by rfl, ?_⟩) ?_ ?_
                           rotate_left
                           ·intro w'
                            go_simp
                            with_reducible rfl
                           rotate_left
                           ·simp only [Act.put, sA, sB, sC, sD, sE]
                            rfl
                           refine pure_ (i := 4) (N := some 97) (v := ?_) (a' := ?_) #[T,T,T,T,T,F,F,F,F,F,F,F,F,F,F,F,F,F,F,F] rfl rfl (any_of HT_.out (by kernel_rfl)) (fun _ _ _ h => h) (Or.inl ⟨by rfl, ?_⟩) ?_ ?_
                           rotate_left
                           ·intro w'
                            go_simp
                            with_reducible rfl
                           rotate_left
                           ·simp only [Act.put, sA, sB, sC, sD, sE]
                            rfl
                           refine pure_ (i := 5) (N := some 98) (v := ?_) (a' := ?_) #[T,T,T,T,T,T,F,F,F,F,F,F,F,F,F,F,F,F,F,F] rfl rfl (any_of HT_.out (by kernel_rfl)) (fun _ _ _ h => h) (Or.inl ⟨by rfl, ?_⟩) ?_ ?_
                           rotate_left
                           ·intro w'
                            go_simp
                            with_reducible rfl
                           rotate_left
                           ·simp only [Act.put, sA, sB, sC, sD, sE]
                            rfl
                           refine pure_ (i := 6) (N := some 99) (v := ?_) (a' := ?_) #[T,T,T,T,T,T,T,F,F,F,F,F,F,F,F,F,F,F,F,F] rfl rfl (any_of HT_.out (by kernel_rfl)) (fun _ _ _ h => h) (Or.inl ⟨by rfl, ?_⟩) ?_ ?_
                           rotate_left
                           ·intro w'
                            go_simp
                            with_reducible rfl
                           rotate_left
                           ·simp only [Act.put, sA, sB, sC, sD, sE]
                            rfl
                           refine pure_ (i := 7) (N := some 100) (v := ?_) (a' := ?_) #[T,T,T,T,T,T,T,T,F,F,F,F,F,F,F,F,F,F,F,F] rfl rfl (any_of HT_.out (by kernel_rfl)) (fun _ _ _ h => h) (Or.inl ⟨by rfl, ?_⟩) ?_ ?_
                           rotate_left
                           ·intro w'
                            go_simp
                            with_reducible rfl
                           rotate_left
                           ·simp only [Act.put, sA, sB, sC, sD, sE]
                            rfl
                           refine pure_ (i := 8) (N := some 101) (v := ?_) (a' := ?_) #[T,T,T,T,T,T,T,T,T,F,F,F,F,F,F,F,F,F,F,F] rfl rfl (any_of HT_.out (by kernel_rfl)) (fun _ _ _ h => h) (Or.inl ⟨by rfl, ?_⟩) ?_ ?_
                           rotate_left
                           ·intro w'
                            go_simp
                            with_reducible rfl
                           rotate_left
                           ·simp only [Act.put, sA, sB, sC, sD, sE]
                            rfl
                           refine pure_ (i := 9) (N := some 102) (v := ?_) (a' := ?_) #[T,T,T,T,T,T,T,T,T,T,F,F,F,F,F,F,F,F,F,F] rfl rfl (any_of HT_.out (by kernel_rfl)) (fun _ _ _ h => h) (Or.inl ⟨by rfl, ?_⟩) ?_ ?_
                           rotate_left
                           ·intro w'
                            go_simp
                            with_reducible rfl
                           rotate_left
                           ·simp only [Act.put, sA, sB, sC, sD, sE]
                            rfl
                           refine pure_ (i := 10) (N := some 103) (v := ?_) (a' := ?_) #[T,T,T,T,T,T,T,T,T,T,T,F,F,F,F,F,F,F,F,F] rfl rfl (any_of HT_.out (by kernel_rfl)) (fun _ _ _ h => h) (Or.inl ⟨by rfl, ?_⟩) ?_ ?_
                           rotate_left
                           ·intro w'
                            go_simp
                            with_reducible rfl
                           rotate_left
                           ·simp only [Act.put, sA, sB, sC, sD, sE]
                            rfl
                           refine pure_ (i := 11) (N := some 104) (v := undef) (a' := ?_) #[T,T,T,T,T,T,T,T,T,T,T,T,F,F,F,F,F,F,F,F] rfl rfl (any_of HT_.out (by kernel_rfl)) (fun _ _ _ h => h) (Or.inr ⟨by rfl, rfl⟩) ?_ ?_
                           rotate_left
                           ·simp only [Act.put, sA, sB, sC, sD, sE]
                            rfl
                           refine pure_ (i := 12) (N := some 105) (v := undef) (a' := ?_) #[T,T,T,T,T,T,T,T,T,T,T,T,T,F,F,F,F,F,F,F] rfl rfl (any_of HT_.out (by kernel_rfl)) (fun _ _ _ h => h) (Or.inr ⟨by rfl, rfl⟩) ?_ ?_
                           rotate_left
                           ·simp only [Act.put, sA, sB, sC, sD, sE]
                            rfl
                           refine pure_ (i := 13) (N := some 106) (v := undef) (a' := ?_) #[T,T,T,T,T,T,T,T,T,T,T,T,T,T,F,F,F,F,F,F] rfl rfl (any_of HT_.out (by kernel_rfl)) (fun _ _ _ h => h) (Or.inr ⟨by rfl, rfl⟩) ?_ ?_
                           rotate_left
                           ·simp only [Act.put, sA, sB, sC, sD, sE]
                            rfl
                           refine pure_ (i := 14) (N := some 107) (v := undef) (a' := ?_) #[T,T,T,T,T,T,T,T,T,T,T,T,T,T,T,F,F,F,F,F] rfl rfl (any_of HT_.out (by kernel_rfl)) (fun _ _ _ h => h) (Or.inr ⟨by rfl, rfl⟩) ?_ ?_
                           rotate_left
                           ·simp only [Act.put, sA, sB, sC, sD, sE]
                            rfl
                           refine pure_ (i := 15) (N := some 108) (v := undef) (a' := ?_) #[T,T,T,T,T,T,T,T,T,T,T,T,T,T,T,T,F,F,F,F] rfl rfl (any_of HT_.out (by kernel_rfl)) (fun _ _ _ h => h) (Or.inr ⟨by rfl, rfl⟩) ?_ ?_
                           rotate_left
                           ·simp only [Act.put, sA, sB, sC, sD, sE]
                            rfl
                           refine pure_ (i := 16) (N := some 109) (v := undef) (a' := ?_) #[T,T,T,T,T,T,T,T,T,T,T,T,T,T,T,T,T,F,F,F] rfl rfl (any_of HT_.out (by kernel_rfl)) (fun _ _ _ h => h) (Or.inr ⟨by rfl, rfl⟩) ?_ ?_
                           rotate_left
                           ·simp only [Act.put, sA, sB, sC, sD, sE]
                            rfl
                           refine pure_ (i := 17) (N := some 110) (v := undef) (a' := ?_) #[T,T,T,T,T,T,T,T,T,T,T,T,T,T,T,T,T,T,F,F] rfl rfl (any_of HT_.out (by kernel_rfl)) (fun _ _ _ h => h) (Or.inr ⟨by rfl, rfl⟩) ?_ ?_
                           rotate_left
                           ·simp only [Act.put, sA, sB, sC, sD, sE]
                            rfl
                           refine pure_ (i := 18) (N := some 111) (v := ?_) (a' := ?_) #[T,T,T,T,T,T,T,T,T,T,T,T,T,T,T,T,T,T,T,F] rfl rfl (any_of HT_.out (by kernel_rfl)) (fun _ _ _ h => h) (Or.inl ⟨by rfl, ?_⟩) ?_ ?_
                           rotate_left
                           ·intro w'
                            go_simp
                            with_reducible rfl
                           rotate_left
                           ·simp only [Act.put, sA, sB, sC, sD, sE]
                            rfl
                           refine pure_ (i := 19) (N := some 112) (v := ?_) (a' := ?_) #[T,T,T,T,T,T,T,T,T,T,T,T,T,T,T,T,T,T,T,T] rfl rfl (any_of HT_.out (by kernel_rfl)) (fun _ _ _ h => h) (Or.inl ⟨by rfl, ?_⟩) ?_ ?_
                           rotate_left
                           ·intro w'
                            go_simp
                            with_reducible rfl
                           rotate_left
                           ·simp only [Act.put, sA, sB, sC, sD, sE]
                            rfl
                           refine done_ (done_of HT_.out (by kernel_rfl)) ?_
                           try go_wp2
                           go_roundg kj77
                           case measure => have := HJ1.out; have := HK2.out; have := HK3.out; have := HK4.out; have := HK5.out; have := HJ77.out; omega
                           case rel => exact ⟨(wrap64 (x79_5 + 1)), (x118000_5), (x118001_5), (by first | rfl | (simp; done) | (simp [*]; done)), H', ⟨by have := HJ1.out; have := HK2.out; have := HK3.out; have := HK4.out; have := HK5.out; have := HJ77.out; omega⟩, ⟨by (with_reducible repeat (first | apply Kd.R_alloc | apply Kd.R_drewN | apply Kd.R_drew)); exact Kd.R_mono HO_12.out (fun _ hk => ⟨hk.1, ⟨hk.2.1, hk.2.2.1⟩⟩)⟩, ⟨by exact BK103.out⟩, ⟨by exact BK116.out⟩, ⟨by exact BK117.out⟩, ⟨by repeat (first | (with_reducible first | exact HB.out | apply bA | apply bD | apply bE | refine below_set ?_ GE103.out | refine below_set ?_ GE116.out | refine below_set ?_ GE117.out | refine below_set ?_ GE122.out) | exact HB.out)⟩⟩
                    ·rw [if_neg c68] at H
                     exact absurd H (by simp)
                   ·rw [if_neg c67] at H
                    exact absurd H (by simp)
                  ·rw [if_neg c66] at H
                   have c66b0 : decide (x79_5 < (l0.length : Int)) = false := decide_eq_false c66
                   clear c66
                   by_cases c137 : (x118000_5 == x104000_2 && (x118001_5 == x104001_2)) = true
                   ·rw [if_pos c137] at H
                    have c137b0 : (x118000_5 == x104000_2 && (x118001_5 == x104001_2)) = true := c137
                    (try (have c137b1 : decide (x118000_5 = x104000_2 && (x118001_5 == x104001_2)) = true := by simpa using c137))
                    (try (have c137b2 : (x118000_5 == x104000_2 && (x118001_5 == x104001_2)) = true := by simpa using c137))
                    clear c137
                    by_cases c138 : (x12_4.length : Int) > 10
                    ·rw [if_pos c138] at H
                     have c138b0 : decide (10 < (x12_4.length : Int)) = true := decide_eq_true c138
                     have c138b1 : decide (10 < x12_4.length) = true := decide_eq_true (by omega)
                     clear c138
                     simp only [Option.some.injEq, Prod.mk.injEq] at H
                     obtain ⟨rfl, rfl⟩ := H
                     have hnb139 := NB117_103.out
                     have hnc139 := NB103_117.out
                     have hnb140 := NB117_116.out
                     have hnc140 := NB116_117.out
                     have hcz141_0 : wr.cell? ⟨gb117, 0, none⟩ = some (.int .i64 x118000_5) := (blk_cell BK117.out 0).trans rfl
                     have hcz141_1 : wr.cell? ⟨gb117, 1, none⟩ = some (.int .i64 x118001_5) := (blk_cell BK117.out 1).trans rfl
                     have hfz141_0 := blk_frozen BK117.out 0
                     have hfz141_1 := blk_frozen BK117.out 1
                     have hnb142 := NB103_116.out
                     have hnc142 := NB116_103.out
                     have hcz143_0 : wr.cell? ⟨gb103, 0, none⟩ = some (.int .i64 x104000_2) := (blk_cell BK103.out 0).trans rfl
                     have hcz143_1 : wr.cell? ⟨gb103, 1, none⟩ = some (.int .i64 x104001_2) := (blk_cell BK103.out 1).trans rfl
                     have hfz143_0 := blk_frozen BK103.out 0
                     have hfz143_1 := blk_frozen BK103.out 1
                     go_wp2
                     go_ret2
                     exact ⟨_, by first | rfl | (simp [errW_none, errW_some] <;> rfl) | (simp only [← hji55]; first | rfl | (simp [errW_none, errW_some] <;> rfl)) | (simp [*, errW_none, errW_some] <;> rfl), by first | exact Kd.R_nil _ _ _ _ _ | exact Kd.N_nil _ _ _ _ _ | exact Kd.V_nil _ _ _ _ _ | exact Kd.Q_nil _ _ _ _ _ | exact Kd.S_nil _ _ _ _ _, by repeat (first | (with_reducible first | exact HB.out | apply bA | apply bD | apply bE | refine below_set ?_ GE103.out | refine below_set ?_ GE116.out | refine below_set ?_ GE117.out) | exact HB.out)⟩
                    ·rw [if_neg c138] at H
                     have c138b0 : decide (10 < (x12_4.length : Int)) = false := decide_eq_false c138
                     have c138b1 : decide (10 < x12_4.length) = false := decide_eq_false (by omega)
                     clear c138
                     simp only [Option.some.injEq, Prod.mk.injEq] at H
                     obtain ⟨rfl, rfl⟩ := H
                     have hnb144 := NB117_103.out
                     have hnc144 := NB103_117.out
                     have hnb145 := NB117_116.out
                     have hnc145 := NB116_117.out
                     have hcz146_0 : wr.cell? ⟨gb117, 0, none⟩ = some (.int .i64 x118000_5) := (blk_cell BK117.out 0).trans rfl
                     have hcz146_1 : wr.cell? ⟨gb117, 1, none⟩ = some (.int .i64 x118001_5) := (blk_cell BK117.out 1).trans rfl
                     have hfz146_0 := blk_frozen BK117.out 0
                     have hfz146_1 := blk_frozen BK117.out 1
                     have hnb147 := NB103_116.out
                     have hnc147 := NB116_103.out
                     have hcz148_0 : wr.cell? ⟨gb103, 0, none⟩ = some (.int .i64 x104000_2) := (blk_cell BK103.out 0).trans rfl
                     have hcz148_1 : wr.cell? ⟨gb103, 1, none⟩ = some (.int .i64 x104001_2) := (blk_cell BK103.out 1).trans rfl
                     have hfz148_0 := blk_frozen BK103.out 0
                     have hfz148_1 := blk_frozen BK103.out 1
                     go_wp2
                     go_ret2
                     exact ⟨_, by first | rfl | (simp [errW_none, errW_some] <;> rfl) | (simp only [← hji55]; first | rfl | (simp [errW_none, errW_some] <;> rfl)) | (simp [*, errW_none, errW_some] <;> rfl), by (with_reducible repeat (first | apply Kd.R_alloc | apply Kd.R_drewN | apply Kd.R_drew)); exact Kd.R_mono HO_12.out (fun _ hk => trivial), by repeat (first | (with_reducible first | exact HB.out | apply bA | apply bD | apply bE | refine below_set ?_ GE103.out | refine below_set ?_ GE116.out | refine below_set ?_ GE117.out) | exact HB.out)⟩
                   ·rw [if_neg c137] at H
                    have c137b0 : (x118000_5 == x104000_2 && (x118001_5 == x104001_2)) = false := by simpa using c137
                    (try (have c137b1 : decide (x118000_5 = x104000_2 && (x118001_5 == x104001_2)) = false := by simpa using c137))
                    (try (have c137b2 : (x118000_5 == x104000_2 && (x118001_5 == x104001_2)) = false := by simpa using c137))
                    (try (have c137b3 : ¬ (x118000_5 = x104000_2 && (x118001_5 == x104001_2)) := by simpa using c137))
                    clear c137
                    by_cases c149 : x12_4.length < 8796093022208
                    ·rw [if_pos c149] at H
                     have LMc149 := Ak c149
                     clear c149
                     obtain ⟨y118, hy118⟩ : ∃ y_ : List (S44), y_ = (x12_4 ++ [(⟨x118000_5, x118001_5⟩ : S44)]) := ⟨_, rfl⟩
                     replace H : (impl_HullOf.l3 k5 l0 y118 x104000_2 x104001_2) = some (r1, r2) := by first | (rw [hy118]; exact H) | exact H
                     have Ny118 := Ak hy118
                     clear hy118
                     have H' := Ak H
                     clear H
                     have hnb150 := NB117_103.out
                     have hnc150 := NB103_117.out
                     have hnb151 := NB117_116.out
                     have hnc151 := NB116_117.out
                     have hcz152_0 : wr.cell? ⟨gb117, 0, none⟩ = some (.int .i64 x118000_5) := (blk_cell BK117.out 0).trans rfl
                     have hcz152_1 : wr.cell? ⟨gb117, 1, none⟩ = some (.int .i64 x118001_5) := (blk_cell BK117.out 1).trans rfl
                     have hfz152_0 := blk_frozen BK117.out 0
                     have hfz152_1 := blk_frozen BK117.out 1
                     have hnb153 := NB103_116.out
                     have hnc153 := NB116_103.out
                     have hcz154_0 : wr.cell? ⟨gb103, 0, none⟩ = some (.int .i64 x104000_2) := (blk_cell BK103.out 0).trans rfl
                     have hcz154_1 : wr.cell? ⟨gb103, 1, none⟩ = some (.int .i64 x104001_2) := (blk_cell BK103.out 1).trans rfl
                     have hfz154_0 := blk_frozen BK103.out 0
                     have hfz154_1 := blk_frozen BK103.out 1
                     go_wp2_with (first | ((with_reducible refine gate_builtin (b := .append) (xs := #[.tmp 118, .tmp 120]) rfl ?_); (try (refine gate_guard (by rfl) ?_; dsimp only)); at_builtin; refine Kd.R_append k44 (w0 := w) w.heap.size rfl (.tmp 118) (.tmp 120) 24 44 (.agg #[(.int .i64 0), (.int .i64 0)]) 16 rfl Try.underlying24 info44 rfl (by decide) (by omega) (.slice (some ad115) x12_4.length co58) x12_4 (⟨x118000_5, x118001_5⟩ : S44) [.int .i64 x118000_5, .int .i64 x118001_5] (fun k_ => k_ ≠ gb103 ∧ k_ ≠ gb116 ∧ k_ ≠ gb117) (fun _ => False) rfl rfl ?aP (fun _ hk => hk.elim) ?aF ?aO ?aB ?aS ?aL ?_; (case aP => exact k44_mkM _ _ _ (⟨x118000_5, x118001_5⟩ : S44)); (case aB => exact (by repeat (first | exact HB.out | apply bA | apply bD | apply bE | refine below_set ?_ GE103.out | refine below_set ?_ GE116.out | refine below_set ?_ GE117.out))); (case aF => exact (fun k_ hk => ⟨Kd.freshB (g := gb103) (o := .cells #[.int .i64 x104000_2, .int .i64 x104001_2] 44 (0, 0)) (by exact BK103.out) k_ hk, Kd.freshB (g := gb116) (o := .cells #[.int .i64 ((rd_T44 x12_4 (ji55)).f0), .int .i64 ((rd_T44 x12_4 (ji55)).f1)] 44 (0, 0)) (by exact BK116.out) k_ hk, Kd.freshB (g := gb117) (o := .cells #[.int .i64 x118000_5, .int .i64 x118001_5] 44 (0, 0)) (by exact BK117.out) k_ hk⟩)); (case aO => exact (by (with_reducible repeat (first | apply Kd.R_alloc | apply Kd.R_drewN | apply Kd.R_drew)); exact HO_12.out)); (case aS => exact (below_size (by repeat (first | exact HB.out | apply bA | apply bD | apply bE | refine below_set ?_ GE103.out | refine below_set ?_ GE116.out | refine below_set ?_ GE117.out)))); (case aL => have := LMc149.out; omega); intro v119 w155 ho hb hg hat; rw [← Ny118.out] at ho; have n0_ := Ak (blk_grown (g := gb103) (o := .cells #[.int .i64 x104000_2, .int .i64 x104001_2] 44 (0, 0)) (by exact BK103.out) hg (Kd.R_away HO_12.out (fun _ hk => hk.1))); have n1_ := Ak (blk_grown (g := gb116) (o := .cells #[.int .i64 ((rd_T44 x12_4 (ji55)).f0), .int .i64 ((rd_T44 x12_4 (ji55)).f1)] 44 (0, 0)) (by exact BK116.out) hg (Kd.R_away HO_12.out (fun _ hk => hk.2.1))); have n2_ := Ak (blk_grown (g := gb117) (o := .cells #[.int .i64 x118000_5, .int .i64 x118001_5] 44 (0, 0)) (by exact BK117.out) hg (Kd.R_away HO_12.out (fun _ hk => hk.2.2))); have n3_ := Ak (hb); have n4_ := Ak (ho); clear BK103; clear BK116; clear BK117; clear HB; clear HO_12; have BK103 := n0_; have BK116 := n1_; have BK117 := n2_; have HB := n3_; have HO120 := n4_; clear n0_ n1_ n2_ n3_ n4_; clear ho hb hg hat))
                     go_roundg k5
                     case measure => have := HJ1.out; have := HK2.out; have := HK3.out; have := HK4.out; have := HK5.out; omega
                     case rel => exact ⟨(y118), H', ⟨by have := HJ1.out; have := HK2.out; have := HK3.out; have := HK4.out; have := HK5.out; omega⟩, ⟨by (with_reducible repeat (first | apply Kd.R_alloc | apply Kd.R_drewN | apply Kd.R_drew)); exact Kd.R_mono HO120.out (fun _ hk => hk.1)⟩, ⟨by exact BK103.out⟩, ⟨by repeat (first | (with_reducible first | exact HB.out | apply bA | apply bD | apply bE | refine below_set ?_ GE103.out | refine below_set ?_ GE116.out | refine below_set ?_ GE117.out) | exact HB.out)⟩⟩
                    ·rw [if_neg c149] at H
                     exact absurd H (by simp)
               ·rw [if_neg c57] at H
                exact absurd H (by simp)
              ·rw [if_neg c56] at H
               exact absurd H (by simp)
    ·rw [if_neg c8] at H
     exact absurd H (by simp)

end Go.Proofs.Ytbhnmofbbnimaaa.G
