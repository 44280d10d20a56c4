/- A Go function as a plain Lean function, and the proof that Go's call comes to its answer. No conditions but those in the theorem. Written by gen.py (a program of this session over the kit's print). -/
-- SHRUNK by pack.py
import Derived.Test.YtlccpkggdmngaaaG0
import Derived.Test.YtlccpkggdmngaaaF70
import Derived.Test.YtlccpkggdmngaaaF79
import Derived.Test.YtlccpkggdmngaaaF78
import Derived.Test.YtlccpkggdmngaaaF80
namespace Go.Proofs.Ytlccpkggdmngaaa.G
open Go.RowKit Go.Proofs.YtlccpkggdmngaaaW.PrintWords Go.Proofs.YtlccpkggdmngaaaW.PrintLast Go.Proofs.YtlccpkggdmngaaaW.PrintMore Go.Proofs.YtlccpkggdmngaaaW.PrintBits
attribute [local go_sem] max2_int min2_int max_two min_two max_three min_three max_four min_four   -- for this text's walks alone
set_option linter.unusedVariables false
set_option linter.unusedSimpArgs false

/-! ### spec_IsTriangulation: function 39 -/
mutual
def spec_IsTriangulation.j0 : Nat → List (S27) → List (List Int) → Bool → Option (Bool)
 | 0, _, _, _ => none
 | k + 1, x0, x1, x23 => if x23 = true then (some false) else (if 0 ≤ (wrap64 ((x0.length : Int) * (x0.length : Int))) then (if (wrap64 ((x0.length : Int) * (x0.length : Int)) : Int).toNat ≤ 35184372088832 then (spec_IsTriangulation.l0 k x0 (x0.length : Int) 0 (List.replicate (wrap64 ((x0.length : Int) * (x0.length : Int)) : Int).toNat 0) x1 (x1.length : Int) 0) else (none)) else (none))
def spec_IsTriangulation.l0 : Nat → List (S27) → Int → Int → List Int → List (List Int) → Int → Int → Option (Bool)
 | 0, _, _, _, _, _, _, _ => none
 | k + 1, x0, x5, x6, x7, x30, x31, x32 => if x32 < x31 then (if 0 ≤ x32 then (if x32 < (x30.length : Int) then (if ((rd_L5 x30 x32).length : Int) = 3 then (if 0 < ((rd_L5 x30 x32).length : Int) then (if (rd (rd_L5 x30 x32) 0) < 0 then (some false) else (if 1 < ((rd_L5 x30 x32).length : Int) then (if (rd (rd_L5 x30 x32) 0) ≥ (rd (rd_L5 x30 x32) 1) then (some false) else (if 2 < ((rd_L5 x30 x32).length : Int) then (if (rd (rd_L5 x30 x32) 1) ≥ (rd (rd_L5 x30 x32) 2) then (some false) else (if (rd (rd_L5 x30 x32) 2) ≥ x5 then (some false) else ((spec_l05Area.f x0 (rd_L5 x30 x32)).bind fun t112 => (if t112 = 0 then (some false) else ((spec_l05Area.f x0 (rd_L5 x30 x32)).bind fun t113 => (if 0 ≤ (wrap64 ((wrap64 ((rd (rd_L5 x30 x32) 0) * x5)) + (rd (rd_L5 x30 x32) 1))) then (if (wrap64 ((wrap64 ((rd (rd_L5 x30 x32) 0) * x5)) + (rd (rd_L5 x30 x32) 1))) < (x7.length : Int) then ((some (x7.set ((wrap64 ((wrap64 ((rd (rd_L5 x30 x32) 0) * x5)) + (rd (rd_L5 x30 x32) 1))) : Int).toNat (wrap64 ((rd x7 (wrap64 ((wrap64 ((rd (rd_L5 x30 x32) 0) * x5)) + (rd (rd_L5 x30 x32) 1)))) + 1)) : List Int)).bind fun y117 => (if 0 ≤ (wrap64 ((wrap64 ((rd (rd_L5 x30 x32) 1) * x5)) + (rd (rd_L5 x30 x32) 2))) then (if (wrap64 ((wrap64 ((rd (rd_L5 x30 x32) 1) * x5)) + (rd (rd_L5 x30 x32) 2))) < (x7.length : Int) then ((some (y117.set ((wrap64 ((wrap64 ((rd (rd_L5 x30 x32) 1) * x5)) + (rd (rd_L5 x30 x32) 2))) : Int).toNat (wrap64 ((rd y117 (wrap64 ((wrap64 ((rd (rd_L5 x30 x32) 1) * x5)) + (rd (rd_L5 x30 x32) 2)))) + 1)) : List Int)).bind fun y121 => (if 0 ≤ (wrap64 ((wrap64 ((rd (rd_L5 x30 x32) 0) * x5)) + (rd (rd_L5 x30 x32) 2))) then (if (wrap64 ((wrap64 ((rd (rd_L5 x30 x32) 0) * x5)) + (rd (rd_L5 x30 x32) 2))) < (x7.length : Int) then (spec_IsTriangulation.l0 k x0 x5 (wrap64 (x6 + t113)) (y121.set ((wrap64 ((wrap64 ((rd (rd_L5 x30 x32) 0) * x5)) + (rd (rd_L5 x30 x32) 2))) : Int).toNat (wrap64 ((rd y121 (wrap64 ((wrap64 ((rd (rd_L5 x30 x32) 0) * x5)) + (rd (rd_L5 x30 x32) 2)))) + 1))) x30 x31 (wrap64 (x32 + 1))) else (none)) else (none))) else (none)) else (none))) else (none)) else (none))))))) else (none))) else (none))) else (none)) else (some false)) else (none)) else (none)) else (spec_IsTriangulation.l1 k x0 x5 x6 x7 0)
def spec_IsTriangulation.l1 : Nat → List (S27) → Int → Int → List Int → Int → Option (Bool)
 | 0, _, _, _, _, _ => none
 | k + 1, x0, x5, x6, x7, x10 => if x10 < x5 then (spec_IsTriangulation.l2 k x0 x5 x6 x7 x10 (wrap64 (x10 + 1))) else ((spec_l03Twice.f k x0).bind fun t126 => ((spec_l04Mag.f t126).bind fun t127 => (some (x6 == t127))))
def spec_IsTriangulation.l2 : Nat → List (S27) → Int → Int → List Int → Int → Int → Option (Bool)
 | 0, _, _, _, _, _, _ => none
 | k + 1, x0, x5, x6, x7, x10, x11 => if x11 < x5 then (if 0 ≤ (wrap64 ((wrap64 (x10 * x5)) + x11)) then (if (wrap64 ((wrap64 (x10 * x5)) + x11)) < (x7.length : Int) then (if x11 = (wrap64 (x10 + 1)) then (spec_IsTriangulation.j4 k x0 x5 x6 x7 x10 x11 (rd x7 (wrap64 ((wrap64 (x10 * x5)) + x11))) true) else (if x10 = 0 then (spec_IsTriangulation.j4 k x0 x5 x6 x7 x10 x11 (rd x7 (wrap64 ((wrap64 (x10 * x5)) + x11))) (x11 == (wrap64 (x5 - 1)))) else (spec_IsTriangulation.j4 k x0 x5 x6 x7 x10 x11 (rd x7 (wrap64 ((wrap64 (x10 * x5)) + x11))) false))) else (none)) else (none)) else (spec_IsTriangulation.l1 k x0 x5 x6 x7 (wrap64 (x10 + 1)))
def spec_IsTriangulation.j4 : Nat → List (S27) → Int → Int → List Int → Int → Int → Int → Bool → Option (Bool)
 | 0, _, _, _, _, _, _, _, _ => none
 | k + 1, x0, x5, x6, x7, x10, x11, x12, x157 => if x157 = true then (if x12 = 1 then (spec_IsTriangulation.l2 k x0 x5 x6 x7 x10 (wrap64 (x11 + 1))) else (some false)) else (if x12 = 0 then (spec_IsTriangulation.l2 k x0 x5 x6 x7 x10 (wrap64 (x11 + 1))) else (if x12 = 2 then (spec_IsTriangulation.l2 k x0 x5 x6 x7 x10 (wrap64 (x11 + 1))) else (some false)))
end
def spec_IsTriangulation.f (k : Nat) (l0 : List (S27)) (l1 : List (List Int)) : Option (Bool) := (spec_PolygonOk.f k l0).bind fun t101 => (if t101 = true then (spec_IsTriangulation.j0 k l0 l1 ((l1.length : Int) != (wrap64 ((l0.length : Int) - 2)))) else (spec_IsTriangulation.j0 k l0 l1 true))
theorem spec_IsTriangulation.mono_l : ∀ k, (∀ y0 y1 y2, LeO (spec_IsTriangulation.j0 k y0 y1 y2) (spec_IsTriangulation.j0 (k + 1) y0 y1 y2)) ∧ (∀ y0 y1 y2 y3 y4 y5 y6, LeO (spec_IsTriangulation.l0 k y0 y1 y2 y3 y4 y5 y6) (spec_IsTriangulation.l0 (k + 1) y0 y1 y2 y3 y4 y5 y6)) ∧ (∀ y0 y1 y2 y3 y4, LeO (spec_IsTriangulation.l1 k y0 y1 y2 y3 y4) (spec_IsTriangulation.l1 (k + 1) y0 y1 y2 y3 y4)) ∧ (∀ y0 y1 y2 y3 y4 y5, LeO (spec_IsTriangulation.l2 k y0 y1 y2 y3 y4 y5) (spec_IsTriangulation.l2 (k + 1) y0 y1 y2 y3 y4 y5)) ∧ (∀ y0 y1 y2 y3 y4 y5 y6 y7, LeO (spec_IsTriangulation.j4 k y0 y1 y2 y3 y4 y5 y6 y7) (spec_IsTriangulation.j4 (k + 1) y0 y1 y2 y3 y4 y5 y6 y7))
 | 0 => ⟨fun _ _ _ r h => by simp [spec_IsTriangulation.j0] at h, fun _ _ _ _ _ _ _ r h => by simp [spec_IsTriangulation.l0] at h, fun _ _ _ _ _ r h => by simp [spec_IsTriangulation.l1] at h, fun _ _ _ _ _ _ r h => by simp [spec_IsTriangulation.l2] at h, fun _ _ _ _ _ _ _ _ r h => by simp [spec_IsTriangulation.j4] at h⟩
 | k + 1 => by
  obtain ⟨ih0, ih1, ih2, ih3, ih4⟩ := spec_IsTriangulation.mono_l k
  refine ⟨?_, ?_, ?_, ?_, ?_⟩
  ·intro y0 y1 y2
   unfold spec_IsTriangulation.j0
   repeat' first
   | (with_reducible exact ih0 _ _ _)
   | (with_reducible exact ih1 _ _ _ _ _ _ _)
   | (with_reducible exact ih2 _ _ _ _ _)
   | (with_reducible exact ih3 _ _ _ _ _ _)
   | (with_reducible exact ih4 _ _ _ _ _ _ _ _)
   | (with_reducible exact spec_PolygonOk.mono _ _)
   | (with_reducible exact spec_l03Twice.mono _ _)
   | (with_reducible exact LeO.refl _)
   | (with_reducible exact LeO.none _)
   | (with_reducible refine LeO.ite ?_ ?_)
   | (with_reducible refine LeO.bind ?_ (fun _ => ?_))
   | exact ih0 _ _ _
   | exact ih1 _ _ _ _ _ _ _
   | exact ih2 _ _ _ _ _
   | exact ih3 _ _ _ _ _ _
   | exact ih4 _ _ _ _ _ _ _ _
   | exact spec_PolygonOk.mono _ _
   | exact spec_l03Twice.mono _ _
   | exact LeO.none _
   | refine LeO.ite ?_ ?_
   | refine LeO.bind ?_ (fun _ => ?_)
  ·intro y0 y1 y2 y3 y4 y5 y6
   unfold spec_IsTriangulation.l0
   repeat' first
   | (with_reducible exact ih0 _ _ _)
   | (with_reducible exact ih1 _ _ _ _ _ _ _)
   | (with_reducible exact ih2 _ _ _ _ _)
   | (with_reducible exact ih3 _ _ _ _ _ _)
   | (with_reducible exact ih4 _ _ _ _ _ _ _ _)
   | (with_reducible exact spec_PolygonOk.mono _ _)
   | (with_reducible exact spec_l03Twice.mono _ _)
   | (with_reducible exact LeO.refl _)
   | (with_reducible exact LeO.none _)
   | (with_reducible refine LeO.ite ?_ ?_)
   | (with_reducible refine LeO.bind ?_ (fun _ => ?_))
   | exact ih0 _ _ _
   | exact ih1 _ _ _ _ _ _ _
   | exact ih2 _ _ _ _ _
   | exact ih3 _ _ _ _ _ _
   | exact ih4 _ _ _ _ _ _ _ _
   | exact spec_PolygonOk.mono _ _
   | exact spec_l03Twice.mono _ _
   | exact LeO.none _
   | refine LeO.ite ?_ ?_
   | refine LeO.bind ?_ (fun _ => ?_)
  ·intro y0 y1 y2 y3 y4
   unfold spec_IsTriangulation.l1
   repeat' first
   | (with_reducible exact ih0 _ _ _)
   | (with_reducible exact ih1 _ _ _ _ _ _ _)
   | (with_reducible exact ih2 _ _ _ _ _)
   | (with_reducible exact ih3 _ _ _ _ _ _)
   | (with_reducible exact ih4 _ _ _ _ _ _ _ _)
   | (with_reducible exact spec_PolygonOk.mono _ _)
   | (with_reducible exact spec_l03Twice.mono _ _)
   | (with_reducible exact LeO.refl _)
   | (with_reducible exact LeO.none _)
   | (with_reducible refine LeO.ite ?_ ?_)
   | (with_reducible refine LeO.bind ?_ (fun _ => ?_))
   | exact ih0 _ _ _
   | exact ih1 _ _ _ _ _ _ _
   | exact ih2 _ _ _ _ _
   | exact ih3 _ _ _ _ _ _
   | exact ih4 _ _ _ _ _ _ _ _
   | exact spec_PolygonOk.mono _ _
   | exact spec_l03Twice.mono _ _
   | exact LeO.none _
   | refine LeO.ite ?_ ?_
   | refine LeO.bind ?_ (fun _ => ?_)
  ·intro y0 y1 y2 y3 y4 y5
   unfold spec_IsTriangulation.l2
   repeat' first
   | (with_reducible exact ih0 _ _ _)
   | (with_reducible exact ih1 _ _ _ _ _ _ _)
   | (with_reducible exact ih2 _ _ _ _ _)
   | (with_reducible exact ih3 _ _ _ _ _ _)
   | (with_reducible exact ih4 _ _ _ _ _ _ _ _)
   | (with_reducible exact spec_PolygonOk.mono _ _)
   | (with_reducible exact spec_l03Twice.mono _ _)
   | (with_reducible exact LeO.refl _)
   | (with_reducible exact LeO.none _)
   | (with_reducible refine LeO.ite ?_ ?_)
   | (with_reducible refine LeO.bind ?_ (fun _ => ?_))
   | exact ih0 _ _ _
   | exact ih1 _ _ _ _ _ _ _
   | exact ih2 _ _ _ _ _
   | exact ih3 _ _ _ _ _ _
   | exact ih4 _ _ _ _ _ _ _ _
   | exact spec_PolygonOk.mono _ _
   | exact spec_l03Twice.mono _ _
   | exact LeO.none _
   | refine LeO.ite ?_ ?_
   | refine LeO.bind ?_ (fun _ => ?_)
  ·intro y0 y1 y2 y3 y4 y5 y6 y7
   unfold spec_IsTriangulation.j4
   repeat' first
   | (with_reducible exact ih0 _ _ _)
   | (with_reducible exact ih1 _ _ _ _ _ _ _)
   | (with_reducible exact ih2 _ _ _ _ _)
   | (with_reducible exact ih3 _ _ _ _ _ _)
   | (with_reducible exact ih4 _ _ _ _ _ _ _ _)
   | (with_reducible exact spec_PolygonOk.mono _ _)
   | (with_reducible exact spec_l03Twice.mono _ _)
   | (with_reducible exact LeO.refl _)
   | (with_reducible exact LeO.none _)
   | (with_reducible refine LeO.ite ?_ ?_)
   | (with_reducible refine LeO.bind ?_ (fun _ => ?_))
   | exact ih0 _ _ _
   | exact ih1 _ _ _ _ _ _ _
   | exact ih2 _ _ _ _ _
   | exact ih3 _ _ _ _ _ _
   | exact ih4 _ _ _ _ _ _ _ _
   | exact spec_PolygonOk.mono _ _
   | exact spec_l03Twice.mono _ _
   | exact LeO.none _
   | refine LeO.ite ?_ ?_
   | refine LeO.bind ?_ (fun _ => ?_)
theorem spec_IsTriangulation.mono : ∀ a0 a1 k, LeO (spec_IsTriangulation.f k a0 a1) (spec_IsTriangulation.f (k + 1) a0 a1) := by
 intro a0 a1 k
 obtain ⟨ih0, ih1, ih2, ih3, ih4⟩ := spec_IsTriangulation.mono_l k
 unfold spec_IsTriangulation.f
 repeat' first
   | (with_reducible exact ih0 _ _ _)
   | (with_reducible exact ih1 _ _ _ _ _ _ _)
   | (with_reducible exact ih2 _ _ _ _ _)
   | (with_reducible exact ih3 _ _ _ _ _ _)
   | (with_reducible exact ih4 _ _ _ _ _ _ _ _)
   | (with_reducible exact spec_PolygonOk.mono _ _)
   | (with_reducible exact spec_l03Twice.mono _ _)
   | (with_reducible exact LeO.refl _)
   | (with_reducible exact LeO.none _)
   | (with_reducible refine LeO.ite ?_ ?_)
   | (with_reducible refine LeO.bind ?_ (fun _ => ?_))
   | exact ih0 _ _ _
   | exact ih1 _ _ _ _ _ _ _
   | exact ih2 _ _ _ _ _
   | exact ih3 _ _ _ _ _ _
   | exact ih4 _ _ _ _ _ _ _ _
   | exact spec_PolygonOk.mono _ _
   | exact spec_l03Twice.mono _ _
   | exact LeO.none _
   | refine LeO.ite ?_ ?_
   | refine LeO.bind ?_ (fun _ => ?_)
def spec_IsTriangulation.T9 : Bool × List (List Nat × List Nat) := (true, [([], []), ([0], [0]), ([1], [1]), ([2], [2]), ([3], [3]), ([4, 3], [3, 4]), ([5, 3], [3, 5]), ([6, 3], [3, 6]), ([3, 7], [3, 7]), ([8, 3], [8]), ([9], [9]), ([10, 9], [9, 10]), ([11, 9], [9, 11]), ([9], [9]), ([13, 9], [9, 13]), ([14, 9], [9, 14]), ([12, 15, 9], [9, 12, 15]), ([9, 16], [9, 16]), ([17, 9], [17]), ([18], [18]), ([19, 18], [18, 19]), ([20, 18], [18, 20]), ([18], [18]), ([22, 18], [18, 22]), ([23, 18], [18, 23]), ([21, 24, 18], [18, 21, 24]), ([18, 25], [18, 25]), ([26, 18], [26]), ([27], [27]), ([28, 27], [27, 28]), ([29, 27], [27, 29]), ([27], [27]), ([30, 31, 27], [27, 30, 31]), ([27, 32], [27, 32]), ([33, 27], [33]), ([34], [34]), ([34], [34]), ([35, 36, 34, 34], [34, 35, 36]), ([37, 34], [34, 37]), ([34, 38], [34, 38])])
def spec_IsTriangulation.B9 : List Nat := [0, 1, 3, 7, 15, 31, 63, 127, 255, 511, 1023, 2047, 4095, 1023, 9215, 25599, 65535, 131071, 262143, 524287, 1048575, 2097151, 524287, 4718591, 13107199, 33554431, 67108863, 134217727, 268435455, 536870911, 1073741823, 268435455, 4294967295, 8589934591, 17179869183, 34359738367, 34359738367, 137438953471, 274877906943, 549755813887]
theorem spec_IsTriangulation.tab9 : rtab .any (opsOf Try.f39 9) = spec_IsTriangulation.T9 := by kernel_rfl
theorem spec_IsTriangulation.bits9 : waitsOk spec_IsTriangulation.T9.2 spec_IsTriangulation.B9 = true := by kernel_rfl
def spec_IsTriangulation.T12 : Bool × List (List Nat × List Nat) := (true, [([], []), ([], []), ([1], [1]), ([2], [2]), ([], []), ([3, 4], [3, 4]), ([], []), ([6], [6]), ([7], [7]), ([5, 8], [5, 8]), ([0, 9], [0, 9]), ([10], [10]), ([11], [11]), ([0, 9, 0, 1, 2, 3, 4, 5, 6, 7, 8, 9, 10, 11, 12], [0, 9]), ([13, 12, 0, 1, 2, 3, 4, 5, 6, 7, 8, 9, 10, 11, 12], [12, 13])])
def spec_IsTriangulation.B12 : List Nat := [0, 0, 2, 6, 0, 30, 0, 64, 192, 510, 1023, 2047, 4095, 8191, 16383]
theorem spec_IsTriangulation.tab12 : rtab .any (opsOf Try.f39 12) = spec_IsTriangulation.T12 := by kernel_rfl
theorem spec_IsTriangulation.bits12 : waitsOk spec_IsTriangulation.T12.2 spec_IsTriangulation.B12 = true := by kernel_rfl
def spec_IsTriangulation.T13 : Bool × List (List Nat × List Nat) := (true, [([], []), ([], []), ([1], [1]), ([2], [2]), ([], []), ([3, 4], [3, 4]), ([], []), ([6], [6]), ([7], [7]), ([5, 8], [5, 8]), ([0, 9], [0, 9]), ([10], [10]), ([11], [11]), ([0, 9, 0, 1, 2, 3, 4, 5, 6, 7, 8, 9, 10, 11, 12], [0, 9]), ([13, 12, 0, 1, 2, 3, 4, 5, 6, 7, 8, 9, 10, 11, 12], [12, 13])])
def spec_IsTriangulation.B13 : List Nat := [0, 0, 2, 6, 0, 30, 0, 64, 192, 510, 1023, 2047, 4095, 8191, 16383]
theorem spec_IsTriangulation.tab13 : rtab .any (opsOf Try.f39 13) = spec_IsTriangulation.T13 := by kernel_rfl
theorem spec_IsTriangulation.bits13 : waitsOk spec_IsTriangulation.T13.2 spec_IsTriangulation.B13 = true := by kernel_rfl
def spec_IsTriangulation.T14 : Bool × List (List Nat × List Nat) := (true, [([], []), ([], []), ([1], [1]), ([2], [2]), ([], []), ([3, 4], [3, 4]), ([], []), ([6], [6]), ([7], [7]), ([5, 8], [5, 8]), ([0, 9], [0, 9]), ([10], [10]), ([11], [11]), ([0, 9, 0, 1, 2, 3, 4, 5, 6, 7, 8, 9, 10, 11, 12], [0, 9]), ([13, 12, 0, 1, 2, 3, 4, 5, 6, 7, 8, 9, 10, 11, 12], [12, 13])])
def spec_IsTriangulation.B14 : List Nat := [0, 0, 2, 6, 0, 30, 0, 64, 192, 510, 1023, 2047, 4095, 8191, 16383]
theorem spec_IsTriangulation.tab14 : rtab .any (opsOf Try.f39 14) = spec_IsTriangulation.T14 := by kernel_rfl
theorem spec_IsTriangulation.bits14 : waitsOk spec_IsTriangulation.T14.2 spec_IsTriangulation.B14 = true := by kernel_rfl
set_option maxHeartbeats 8000000 in
set_option maxRecDepth 100000 in
theorem spec_IsTriangulation.calls (k : Nat) (A0 : Option Addr) (c0 : Nat) (l0 : List (S27)) (A1 : Option Addr) (c1 : Nat) (l1 : List (List Int)) (r : Bool) (w : World) (hr0 : Kd.C k27 w A0 l0.length l0) (hc0 : l0.length ≤ c0) (hr1 : Kd.C (Kd.slice 3 (Kd.int .i64)) w A1 l1.length l1) (hc1 : l1.length ≤ c1) (h : spec_IsTriangulation.f k l0 l1 = some r) :
  Calls Try.prog 39 #[.slice A0 l0.length c0, .slice A1 l1.length c1] w fun e w' => e = .returned (.bool r) ∧ Below w.heap.size w w' := by
 have HR0 := Ak hr0; have HC0 := Ak hc0; clear hr0 hc0; have HR1 := Ak hr1; have HC1 := Ak hc1; clear hr1 hc1; have HB := Ak (Below.refl w.heap.size w); have H : ((spec_PolygonOk.f k l0).bind fun t101 => (if t101 = true then (spec_IsTriangulation.j0 k l0 l1 ((l1.length : Int) != (wrap64 ((l0.length : Int) - 2)))) else (spec_IsTriangulation.j0 k l0 l1 true))) = some r := h; clear h; have HC3 := Ak H; clear H
 go_enter Try.func39, Try.ntmps39
 go_upto_region 1 with (fail)
 go_cut [23] (fun v23 wc => ∃ (kq : Nat) (x23_2 : Bool), v23 = .bool x23_2 ∧ Aside0 (spec_IsTriangulation.j0 kq l0 l1 x23_2 = some r) ∧ Aside0 (kq ≤ k) ∧ Aside0 (Below w.heap.size w wc))
 case first =>
  have H := HC3.out; clear HC3; replace H := Option.bind_eq_some_iff.mp H; obtain ⟨t101, A40, H⟩ := H; replace H : (if t101 = true then (spec_IsTriangulation.j0 k l0 l1 ((l1.length : Int) != (wrap64 ((l0.length : Int) - 2)))) else (spec_IsTriangulation.j0 k l0 l1 true)) = some r := H; have A4 := Ak A40; clear A40
  by_cases c5 : t101 = true
  ·subst c5; have H1 : (spec_IsTriangulation.j0 k l0 l1 ((l1.length : Int) != (wrap64 ((l0.length : Int) - 2)))) = some r := by rw [if_pos rfl] at H; exact H
   clear H; have H := H1; clear H1; have H' := Ak H; clear H
   go_wp2_with (first | ((with_reducible refine gate_callee (f := 70) rfl ?_); refine goesL_ (some 14) rfl rfl Try.func70 (by kernel_rfl) rfl #[.slice A0 l0.length c0] rfl (by (try simp only [List.map_toArray, List.map_cons, List.map_nil]); first | done | rfl | (simp only [List.length_drop, List.length_take]; rfl)) ?_; (with_reducible refine (spec_PolygonOk.calls k _ _ l0 true _ ?side1 ?side2 A4.out).mono ?_); (case side1 => repeat (first | exact (Kd.C_below HR0.out HB.out) | (with_reducible refine Kd.C_alloc ?_ _) | (with_reducible refine Kd.C_drewN ?_ _) | (with_reducible refine Kd.C_drew ?_))); (case side2 => exact HC0.out); rintro e w6 ⟨rfl, hb⟩; refine ⟨_, rfl, ?_⟩; have n0_ := Ak (below_step (by repeat (first | exact HB.out | apply bA | apply bD | apply bE)) hb); clear HB; have HB := n0_; clear n0_; (try clear hb); (try clear hb2); (try clear hk); (try clear hi)))
   go_meet
   case rel => exact ⟨_, (((l1.length : Int) != (wrap64 ((l0.length : Int) - 2)))), (by first | rfl | (simp; done) | (simp [*]; done)), H', ⟨by first | omega | exact Nat.le_refl _⟩, ⟨by repeat (first | (with_reducible first | exact HB.out | apply bA | apply bD | apply bE) | exact HB.out)⟩⟩
  ·replace c5 := Bool.eq_false_iff.mpr c5; subst c5; have H1 : (spec_IsTriangulation.j0 k l0 l1 true) = some r := by rw [if_neg (show ¬ (false = true) by decide)] at H; exact H
   clear H; have H := H1; clear H1; have H' := Ak H; clear H
   go_wp2_with (first | ((with_reducible refine gate_callee (f := 70) rfl ?_); refine goesL_ (some 14) rfl rfl Try.func70 (by kernel_rfl) rfl #[.slice A0 l0.length c0] rfl (by (try simp only [List.map_toArray, List.map_cons, List.map_nil]); first | done | rfl | (simp only [List.length_drop, List.length_take]; rfl)) ?_; (with_reducible refine (spec_PolygonOk.calls k _ _ l0 false _ ?side1 ?side2 A4.out).mono ?_); (case side1 => repeat (first | exact (Kd.C_below HR0.out HB.out) | (with_reducible refine Kd.C_alloc ?_ _) | (with_reducible refine Kd.C_drewN ?_ _) | (with_reducible refine Kd.C_drew ?_))); (case side2 => exact HC0.out); rintro e w7 ⟨rfl, hb⟩; refine ⟨_, rfl, ?_⟩; have n0_ := Ak (below_step (by repeat (first | exact HB.out | apply bA | apply bD | apply bE)) hb); clear HB; have HB := n0_; clear n0_; (try clear hb); (try clear hb2); (try clear hk); (try clear hi)))
   go_meet
   case rel => exact ⟨_, (true), (by first | rfl | (simp; done) | (simp [*]; done)), H', ⟨by first | omega | exact Nat.le_refl _⟩, ⟨by repeat (first | (with_reducible first | exact HB.out | apply bA | apply bD | apply bE) | exact HB.out)⟩⟩
 case rest =>
  clear HC3
  try clear c1
  try clear p2
  try clear c3
  try clear c5
  try clear p6
  try clear c7
  obtain ⟨kq, x23_2, rfl, HA, HJ2, HB⟩ := hcut
  cases kq with
  | zero => exact absurd HA.out (by simp [spec_IsTriangulation.j0])
  | succ kj2 =>
   have H := HA.out; clear HA; simp only [spec_IsTriangulation.j0] at H
   by_cases c8 : x23_2 = true
   ·subst c8; have H1 : (some false) = some r := by rw [if_pos rfl] at H; exact H
    clear H; have H := H1; clear H1; obtain rfl := Option.some.inj H
    go_wp2
    go_ret
    exact ⟨by first | rfl | (simp [*, errW_none, errW_some] <;> rfl), by repeat (first | (with_reducible first | exact HB.out | apply bA | apply bD | apply bE) | exact HB.out)⟩
   ·replace c8 := Bool.eq_false_iff.mpr c8; subst c8; have H1 : (if 0 ≤ (wrap64 ((l0.length : Int) * (l0.length : Int))) then (if (wrap64 ((l0.length : Int) * (l0.length : Int)) : Int).toNat ≤ 35184372088832 then (spec_IsTriangulation.l0 kj2 l0 (l0.length : Int) 0 (List.replicate (wrap64 ((l0.length : Int) * (l0.length : Int)) : Int).toNat 0) l1 (l1.length : Int) 0) else (none)) else (none)) = some r := by rw [if_neg (show ¬ (false = true) by decide)] at H; exact H
    clear H; have H := H1; clear H1; obtain ⟨ji9, hji9⟩ : ∃ j_ : Int, (wrap64 ((l0.length : Int) * (l0.length : Int))) = j_ := ⟨_, rfl⟩; replace H : (if 0 ≤ (ji9) then (if (ji9 : Int).toNat ≤ 35184372088832 then (spec_IsTriangulation.l0 kj2 l0 (l0.length : Int) 0 (List.replicate (ji9 : Int).toNat 0) l1 (l1.length : Int) 0) else (none)) else (none)) = some r := by first | (rw [hji9] at H; exact H) | (simp only [hji9] at H ⊢; exact H)
    have hji9w : (IntKind.i64.wrap ((l0.length : Int) * (l0.length : Int))) = ji9 := (i64_w _).trans hji9
    by_cases c10 : 0 ≤ (ji9)
    ·rw [if_pos c10] at H; have c10b0 := eq_true c10; have c10b1 : decide (0 ≤ (ji9)) = true := decide_eq_true c10; clear c10
     by_cases c11 : (ji9 : Int).toNat ≤ 35184372088832
     ·rw [if_pos c11] at H; have c11b0 := eq_true c11; have c11b1 : decide ((ji9 : Int).toNat ≤ 35184372088832) = true := decide_eq_true c11; clear c11; obtain ⟨y102, hy102⟩ : ∃ y_ : List Int, y_ = (List.replicate (ji9 : Int).toNat 0) := ⟨_, rfl⟩; replace H : (spec_IsTriangulation.l0 kj2 l0 (l0.length : Int) 0 y102 l1 (l1.length : Int) 0) = some r := by first | (rw [hy102]; exact H) | exact H
      have Ny102 := Ak hy102; clear hy102; have H' := Ak H; clear H
      go_wp2_with (first | ((with_reducible refine gate_dst (N := 29) rfl ?_); (try (refine gate_guard (by rfl) ?_; dsimp only)); refine Kd.R_make (Kd.int .i64) _ 3 rfl (N := 29) rfl 78 _ _ rfl ji9 rfl rfl Try.underlying78 (.int .i64 0) 8 info3 rfl (by decide) (by omega) 0 (ok := fun _ => True) (okp := fun _ => True) rfl (fun _ hk => hk) trivial (of_decide_eq_true (by first | (with_reducible assumption) | assumption)) (Nat.le_trans (Nat.mul_le_mul_right _ (of_decide_eq_true (by first | (with_reducible assumption) | assumption) : ji9.toNat ≤ 35184372088832)) (by omega)) (Below.refl _ _) (Nat.le_refl _) ?_; intro v103 w12 ho13 hb hg_ hnew_; clear hg_ hnew_; (first | rw [← Ny102.out] at ho13 | (simp only [Int.reduceToNat] at ho13; rw [← Ny102.out] at ho13)); have n0_ := Ak (Kd.R_lower ho13 (below_size (by repeat (first | exact HB.out | apply bA | apply bD | apply bE)))); have n1_ := Ak (below_step (by repeat (first | exact HB.out | apply bA | apply bD | apply bE)) hb); clear HB; have HO104 := n0_; have HB := n1_; clear n0_ n1_; clear hb ho13))
      go_loopg [6, 32] kj2 (fun kq v6 v32 w' => ∃ (x6_2 : Int) (x7_2 : List Int) (x32_2 : Int), v6 = .int .i64 x6_2 ∧ v32 = .int .i64 x32_2 ∧ Aside0 (spec_IsTriangulation.l0 kq l0 (l0.length : Int) x6_2 x7_2 l1 (l1.length : Int) x32_2 = some r) ∧ Aside0 (kq ≤ kj2) ∧ Aside0 (Kd.R (Kd.int .i64) 3 w' w.heap.size (fun _ => True) v103 x7_2) ∧ Aside0 (Below w.heap.size w w'))
      case atStart => exact ⟨(0), (y102), (0), (by first | rfl | (simp; done) | (simp [*]; done)), (by first | rfl | (simp; done) | (simp [*]; done)), H', ⟨Nat.le_refl _⟩, ⟨by (with_reducible repeat (first | apply Kd.R_alloc | apply Kd.R_drewN | apply Kd.R_drew)); exact HO104.out⟩, ⟨by repeat (first | (with_reducible first | exact HB.out | apply bA | apply bD | apply bE) | exact HB.out)⟩⟩
      case round =>
       clear H'
       try clear c1
       try clear p2
       try clear c3
       try clear c5
       try clear p6
       try clear c7
       try clear c8
       try clear c10
       try clear c10b0
       try clear c10b1
       try clear c11
       try clear c11b0
       try clear c11b1
       try clear p2
       try clear p6
       obtain ⟨x6_2, x7_2, x32_2, rfl, rfl, HA, HK2, HO_7, HB⟩ := hrel
       cases gk with
       | zero => exact absurd HA.out (by simp [spec_IsTriangulation.l0])
       | succ k2 =>
        have H := HA.out; clear HA; simp only [spec_IsTriangulation.l0] at H
        by_cases c14 : x32_2 < (l1.length : Int)
        ·rw [if_pos c14] at H; have c14b0 : decide (x32_2 < (l1.length : Int)) = true := decide_eq_true c14; clear c14
         by_cases c15 : 0 ≤ x32_2
         ·rw [if_pos c15] at H; have c15b0 : decide (0 ≤ x32_2) = true := decide_eq_true c15; clear c15
          by_cases c16 : x32_2 < (l1.length : Int)
          ·rw [if_pos c16] at H; have c16b0 : decide (x32_2 < (l1.length : Int)) = true := decide_eq_true c16; clear c16
           by_cases c17 : ((rd_L5 l1 x32_2).length : Int) = 3
           ·rw [if_pos c17] at H; have c17b0 : (((rd_L5 l1 x32_2).length : Int) == 3) = true := beq_iff_eq.mpr c17; have c17b1 : (((rd_L5 l1 x32_2).length : Int) != 3) = false := bne_eq_false_iff_eq.mpr c17; clear c17
            by_cases c18 : 0 < ((rd_L5 l1 x32_2).length : Int)
            ·rw [if_pos c18] at H; have c18b0 : decide (0 < ((rd_L5 l1 x32_2).length : Int)) = true := decide_eq_true c18; have c18b1 : decide (0 < (rd_L5 l1 x32_2).length) = true := decide_eq_true (by omega); clear c18
             by_cases c19 : (rd (rd_L5 l1 x32_2) 0) < 0
             ·rw [if_pos c19] at H; have c19b0 : decide ((rd (rd_L5 l1 x32_2) 0) < 0) = true := decide_eq_true c19; clear c19; obtain rfl := Option.some.inj H; have p105 : 0 ≤ (x32_2 : Int) := of_decide_eq_true (by first | (with_reducible assumption) | assumption); have q105 : x32_2 < (l1.length : Int) := of_decide_eq_true (by first | (with_reducible assumption) | assumption); obtain ⟨ad105, A105_0, c105_0, e105, hx105_0, hl105_0, hi105_0⟩ := at_L5 HR1.out x32_2 p105 q105; cases e105; replace hx105_0 := cB HB.out hx105_0; have HR105_0 := Ak hi105_0; have HC105_0 := Ak hl105_0; clear hi105_0 hl105_0; replace p105 := eq_true p105; replace q105 := eq_true q105
              try go_wp2
              have n0_ := Ak (Kd.R_drew HO_7.out); have n1_ := Ak (below_drew1 HB.out); clear HO_7 HB; have HO_7 := n0_; have HB := n1_; clear n0_ n1_; have p106 : 0 ≤ (0 : Int) := (by omega); have q106 : 0 < ((rd_L5 l1 x32_2).length : Int) := of_decide_eq_true (by first | (with_reducible assumption) | assumption); obtain ⟨ad106, e106, hx106_0⟩ := Kd.at_int HR105_0.out 0 p106 q106; have hw106_0 := hx106_0; (try rw [show ((0 : Int)).toNat = 0 from rfl] at hw106_0); (try rw [show 0 * 1 = 0 from rfl] at hw106_0); (try rw [Addr.add_zero'] at hw106_0); cases e106; have qi106 : (0 < (rd_L5 l1 x32_2).length) = True := eq_true (by omega); (try rw [show ((0 : Int)).toNat = 0 from rfl] at hx106_0); (try rw [Addr.add_zero'] at hx106_0); replace hx106_0 := cB HB.out hx106_0; replace p106 := eq_true p106; replace q106 := eq_true q106; refine start_ (n := 40) (S := fun w' => w'.cell? ad106 = some (.int .i64 (rd (rd_L5 l1 x32_2) 0))) (ds := []) #[F,F,F,F,F,F,F,F,F,F,F,F,F,F,F,F,F,F,F,F,F,F,F,F,F,F,F,F,F,F,F,F,F,F,F,F,F,F,F,F] (by kernel_rfl) rfl rfl (((HB.out.cell (World.block_lt_of_cell? w _ hw106_0)).trans hw106_0)) (fun hHeld => ?_); refine with_tabW spec_IsTriangulation.tab9 spec_IsTriangulation.bits9 (fun HT_ HW_ => ?_); generalize wr.drew = w20 at HO_7 HB hx106_0 hHeld ⊢; refine pure_ (i := 0) (N := some 36) (v := ?_) (a' := ?_) #[T,F,F,F,F,F,F,F,F,F,F,F,F,F,F,F,F,F,F,F,F,F,F,F,F,F,F,F,F,F,F,F,F,F,F,F,F,F,F,F] rfl rfl (any_of HT_.out (by kernel_rfl)) (fun _ _ _ h => h) (Or.inl ⟨by rfl, ?_⟩) ?_ ?_; rotate_left
              ·intro w'; go_simp; with_reducible rfl
              rotate_left
              ·simp only [Act.put, sA, sB, sC, sD, sE]; rfl
              refine pure_ (i := 1) (N := some 37) (v := ?_) (a' := ?_) #[T,T,F,F,F,F,F,F,F,F,F,F,F,F,F,F,F,F,F,F,F,F,F,F,F,F,F,F,F,F,F,F,F,F,F,F,F,F,F,F] rfl rfl (any_of HT_.out (by kernel_rfl)) (fun _ _ _ h => h) (Or.inl ⟨by rfl, ?_⟩) ?_ ?_; rotate_left
              ·intro w'; go_simp; with_reducible rfl
              rotate_left
              ·simp only [Act.put, sA, sB, sC, sD, sE]; rfl
              refine pure_ (i := 2) (N := some 38) (v := ?_) (a' := ?_) #[T,T,T,F,F,F,F,F,F,F,F,F,F,F,F,F,F,F,F,F,F,F,F,F,F,F,F,F,F,F,F,F,F,F,F,F,F,F,F,F] rfl rfl (any_of HT_.out (by kernel_rfl)) (fun _ _ _ h => h) (Or.inl ⟨by rfl, ?_⟩) ?_ ?_; rotate_left
              ·intro w'; go_simp; with_reducible rfl
              rotate_left
              ·simp only [Act.put, sA, sB, sC, sD, sE]; rfl
              refine pure_ (i := 3) (N := some 39) (v := ?_) (a' := ?_) #[T,T,T,T,F,F,F,F,F,F,F,F,F,F,F,F,F,F,F,F,F,F,F,F,F,F,F,F,F,F,F,F,F,F,F,F,F,F,F,F] rfl rfl (any_of HT_.out (by kernel_rfl)) (fun _ _ _ h => h) (Or.inl ⟨by rfl, ?_⟩) ?_ ?_; rotate_left
              ·intro w'; go_simp; with_reducible rfl
              rotate_left
              ·simp only [Act.put, sA, sB, sC, sD, sE]; rfl
              refine pure_ (i := 4) (N := some 40) (v := ?_) (a' := ?_) #[T,T,T,T,T,F,F,F,F,F,F,F,F,F,F,F,F,F,F,F,F,F,F,F,F,F,F,F,F,F,F,F,F,F,F,F,F,F,F,F] rfl rfl (any_of HT_.out (by kernel_rfl)) (fun _ _ _ h => h) (Or.inl ⟨by rfl, ?_⟩) ?_ ?_; rotate_left
              ·intro w'; go_simp; with_reducible rfl
              rotate_left
              ·simp only [Act.put, sA, sB, sC, sD, sE]; rfl
              refine pure_ (i := 5) (N := some 41) (v := ?_) (a' := ?_) #[T,T,T,T,T,T,F,F,F,F,F,F,F,F,F,F,F,F,F,F,F,F,F,F,F,F,F,F,F,F,F,F,F,F,F,F,F,F,F,F] rfl rfl (any_of HT_.out (by kernel_rfl)) (fun _ _ _ h => h) (Or.inl ⟨by rfl, ?_⟩) ?_ ?_; rotate_left
              ·intro w'; go_simp; with_reducible rfl
              rotate_left
              ·simp only [Act.put, sA, sB, sC, sD, sE]; rfl
              refine take_ (i := 6) (N := some 42) (v := ?_) (a' := ?_) #[T,T,T,T,T,T,T,F,F,F,F,F,F,F,F,F,F,F,F,F,F,F,F,F,F,F,F,F,F,F,F,F,F,F,F,F,F,F,F,F] rfl rfl (take_ofW HT_.out HW_.out (by kernel_rfl)) (fun _ _ _ h => h) (Or.inl ⟨by rfl, ?_⟩) hHeld ?_ ?_; rotate_left
              ·intro w' s0; go_simp; with_reducible rfl
              rotate_left
              ·simp only [Act.put, sA, sB, sC, sD, sE]; rfl
              refine pure_ (i := 7) (N := some 43) (v := ?_) (a' := ?_) #[T,T,T,T,T,T,T,T,F,F,F,F,F,F,F,F,F,F,F,F,F,F,F,F,F,F,F,F,F,F,F,F,F,F,F,F,F,F,F,F] rfl rfl (any_of HT_.out (by kernel_rfl)) (fun _ _ _ h => h) (Or.inl ⟨by rfl, ?_⟩) ?_ ?_; rotate_left
              ·intro w'; go_simp; with_reducible rfl
              rotate_left
              ·simp only [Act.put, sA, sB, sC, sD, sE]; rfl
              refine pure_ (i := 8) (N := some 44) (v := ?_) (a' := ?_) #[T,T,T,T,T,T,T,T,T,F,F,F,F,F,F,F,F,F,F,F,F,F,F,F,F,F,F,F,F,F,F,F,F,F,F,F,F,F,F,F] rfl rfl (any_of HT_.out (by kernel_rfl)) (fun _ _ _ h => h) (Or.inl ⟨by rfl, ?_⟩) ?_ ?_; rotate_left
              ·intro w'; go_simp; with_reducible rfl
              rotate_left
              ·simp only [Act.put, sA, sB, sC, sD, sE]; rfl
              refine pure_ (i := 9) (N := some 45) (v := ?_) (a' := ?_) #[T,T,T,T,T,T,T,T,T,T,F,F,F,F,F,F,F,F,F,F,F,F,F,F,F,F,F,F,F,F,F,F,F,F,F,F,F,F,F,F] rfl rfl (any_of HT_.out (by kernel_rfl)) (fun _ _ _ h => h) (Or.inl ⟨by rfl, ?_⟩) ?_ ?_; rotate_left
              ·intro w'; go_simp; with_reducible rfl
              rotate_left
              ·simp only [Act.put, sA, sB, sC, sD, sE]; rfl
              refine pure_ (i := 10) (N := some 46) (v := undef) (a' := ?_) #[T,T,T,T,T,T,T,T,T,T,T,F,F,F,F,F,F,F,F,F,F,F,F,F,F,F,F,F,F,F,F,F,F,F,F,F,F,F,F,F] rfl rfl (any_of HT_.out (by kernel_rfl)) (fun _ _ _ h => h) (Or.inr ⟨by rfl, rfl⟩) ?_ ?_; rotate_left
              ·simp only [Act.put, sA, sB, sC, sD, sE]; rfl
              refine pure_ (i := 11) (N := some 47) (v := undef) (a' := ?_) #[T,T,T,T,T,T,T,T,T,T,T,T,F,F,F,F,F,F,F,F,F,F,F,F,F,F,F,F,F,F,F,F,F,F,F,F,F,F,F,F] rfl rfl (any_of HT_.out (by kernel_rfl)) (fun _ _ _ h => h) (Or.inr ⟨by rfl, rfl⟩) ?_ ?_; rotate_left
              ·simp only [Act.put, sA, sB, sC, sD, sE]; rfl
              refine pure_ (i := 12) (N := some 48) (v := undef) (a' := ?_) #[T,T,T,T,T,T,T,T,T,T,T,T,T,F,F,F,F,F,F,F,F,F,F,F,F,F,F,F,F,F,F,F,F,F,F,F,F,F,F,F] rfl rfl (any_of HT_.out (by kernel_rfl)) (fun _ _ _ h => h) (Or.inr ⟨by rfl, rfl⟩) ?_ ?_; rotate_left
              ·simp only [Act.put, sA, sB, sC, sD, sE]; rfl
              refine pure_ (i := 13) (N := some 49) (v := undef) (a' := ?_) #[T,T,T,T,T,T,T,T,T,T,T,T,T,T,F,F,F,F,F,F,F,F,F,F,F,F,F,F,F,F,F,F,F,F,F,F,F,F,F,F] rfl rfl (any_of HT_.out (by kernel_rfl)) (fun _ _ _ h => h) (Or.inr ⟨by rfl, rfl⟩) ?_ ?_; rotate_left
              ·simp only [Act.put, sA, sB, sC, sD, sE]; rfl
              refine pure_ (i := 14) (N := some 50) (v := undef) (a' := ?_) #[T,T,T,T,T,T,T,T,T,T,T,T,T,T,T,F,F,F,F,F,F,F,F,F,F,F,F,F,F,F,F,F,F,F,F,F,F,F,F,F] rfl rfl (any_of HT_.out (by kernel_rfl)) (fun _ _ _ h => h) (Or.inr ⟨by rfl, rfl⟩) ?_ ?_; rotate_left
              ·simp only [Act.put, sA, sB, sC, sD, sE]; rfl
              refine pure_ (i := 15) (N := some 51) (v := undef) (a' := ?_) #[T,T,T,T,T,T,T,T,T,T,T,T,T,T,T,T,F,F,F,F,F,F,F,F,F,F,F,F,F,F,F,F,F,F,F,F,F,F,F,F] rfl rfl (any_of HT_.out (by kernel_rfl)) (fun _ _ _ h => h) (Or.inr ⟨by rfl, rfl⟩) ?_ ?_; rotate_left
              ·simp only [Act.put, sA, sB, sC, sD, sE]; rfl
              refine pure_ (i := 16) (N := some 52) (v := undef) (a' := ?_) #[T,T,T,T,T,T,T,T,T,T,T,T,T,T,T,T,T,F,F,F,F,F,F,F,F,F,F,F,F,F,F,F,F,F,F,F,F,F,F,F] rfl rfl (any_of HT_.out (by kernel_rfl)) (fun _ _ _ h => h) (Or.inr ⟨by rfl, rfl⟩) ?_ ?_; rotate_left
              ·simp only [Act.put, sA, sB, sC, sD, sE]; rfl
              refine pure_ (i := 17) (N := some 53) (v := ?_) (a' := ?_) #[T,T,T,T,T,T,T,T,T,T,T,T,T,T,T,T,T,T,F,F,F,F,F,F,F,F,F,F,F,F,F,F,F,F,F,F,F,F,F,F] rfl rfl (any_of HT_.out (by kernel_rfl)) (fun _ _ _ h => h) (Or.inl ⟨by rfl, ?_⟩) ?_ ?_; rotate_left
              ·intro w'; go_simp; with_reducible rfl
              rotate_left
              ·simp only [Act.put, sA, sB, sC, sD, sE]; rfl
              refine pure_ (i := 18) (N := some 54) (v := ?_) (a' := ?_) #[T,T,T,T,T,T,T,T,T,T,T,T,T,T,T,T,T,T,T,F,F,F,F,F,F,F,F,F,F,F,F,F,F,F,F,F,F,F,F,F] rfl rfl (any_of HT_.out (by kernel_rfl)) (fun _ _ _ h => h) (Or.inl ⟨by rfl, ?_⟩) ?_ ?_; rotate_left
              ·intro w'; go_simp; with_reducible rfl
              rotate_left
              ·simp only [Act.put, sA, sB, sC, sD, sE]; rfl
              refine pure_ (i := 19) (N := some 55) (v := undef) (a' := ?_) #[T,T,T,T,T,T,T,T,T,T,T,T,T,T,T,T,T,T,T,T,F,F,F,F,F,F,F,F,F,F,F,F,F,F,F,F,F,F,F,F] rfl rfl (any_of HT_.out (by kernel_rfl)) (fun _ _ _ h => h) (Or.inr ⟨by rfl, rfl⟩) ?_ ?_; rotate_left
              ·simp only [Act.put, sA, sB, sC, sD, sE]; rfl
              refine pure_ (i := 20) (N := some 56) (v := undef) (a' := ?_) #[T,T,T,T,T,T,T,T,T,T,T,T,T,T,T,T,T,T,T,T,T,F,F,F,F,F,F,F,F,F,F,F,F,F,F,F,F,F,F,F] rfl rfl (any_of HT_.out (by kernel_rfl)) (fun _ _ _ h => h) (Or.inr ⟨by rfl, rfl⟩) ?_ ?_; rotate_left
              ·simp only [Act.put, sA, sB, sC, sD, sE]; rfl
              refine pure_ (i := 21) (N := some 57) (v := undef) (a' := ?_) #[T,T,T,T,T,T,T,T,T,T,T,T,T,T,T,T,T,T,T,T,T,T,F,F,F,F,F,F,F,F,F,F,F,F,F,F,F,F,F,F] rfl rfl (any_of HT_.out (by kernel_rfl)) (fun _ _ _ h => h) (Or.inr ⟨by rfl, rfl⟩) ?_ ?_; rotate_left
              ·simp only [Act.put, sA, sB, sC, sD, sE]; rfl
              refine pure_ (i := 22) (N := some 58) (v := undef) (a' := ?_) #[T,T,T,T,T,T,T,T,T,T,T,T,T,T,T,T,T,T,T,T,T,T,T,F,F,F,F,F,F,F,F,F,F,F,F,F,F,F,F,F] rfl rfl (any_of HT_.out (by kernel_rfl)) (fun _ _ _ h => h) (Or.inr ⟨by rfl, rfl⟩) ?_ ?_; rotate_left
              ·simp only [Act.put, sA, sB, sC, sD, sE]; rfl
              refine pure_ (i := 23) (N := some 59) (v := undef) (a' := ?_) #[T,T,T,T,T,T,T,T,T,T,T,T,T,T,T,T,T,T,T,T,T,T,T,T,F,F,F,F,F,F,F,F,F,F,F,F,F,F,F,F] rfl rfl (any_of HT_.out (by kernel_rfl)) (fun _ _ _ h => h) (Or.inr ⟨by rfl, rfl⟩) ?_ ?_; rotate_left
              ·simp only [Act.put, sA, sB, sC, sD, sE]; rfl
              refine pure_ (i := 24) (N := some 60) (v := undef) (a' := ?_) #[T,T,T,T,T,T,T,T,T,T,T,T,T,T,T,T,T,T,T,T,T,T,T,T,T,F,F,F,F,F,F,F,F,F,F,F,F,F,F,F] rfl rfl (any_of HT_.out (by kernel_rfl)) (fun _ _ _ h => h) (Or.inr ⟨by rfl, rfl⟩) ?_ ?_; rotate_left
              ·simp only [Act.put, sA, sB, sC, sD, sE]; rfl
              refine pure_ (i := 25) (N := some 61) (v := undef) (a' := ?_) #[T,T,T,T,T,T,T,T,T,T,T,T,T,T,T,T,T,T,T,T,T,T,T,T,T,T,F,F,F,F,F,F,F,F,F,F,F,F,F,F] rfl rfl (any_of HT_.out (by kernel_rfl)) (fun _ _ _ h => h) (Or.inr ⟨by rfl, rfl⟩) ?_ ?_; rotate_left
              ·simp only [Act.put, sA, sB, sC, sD, sE]; rfl
              refine pure_ (i := 26) (N := some 62) (v := ?_) (a' := ?_) #[T,T,T,T,T,T,T,T,T,T,T,T,T,T,T,T,T,T,T,T,T,T,T,T,T,T,T,F,F,F,F,F,F,F,F,F,F,F,F,F] rfl rfl (any_of HT_.out (by kernel_rfl)) (fun _ _ _ h => h) (Or.inl ⟨by rfl, ?_⟩) ?_ ?_; rotate_left
              ·intro w'; go_simp; with_reducible rfl
              rotate_left
              ·simp only [Act.put, sA, sB, sC, sD, sE]; rfl
              refine pure_ (i := 27) (N := some 63) (v := ?_) (a' := ?_) #[T,T,T,T,T,T,T,T,T,T,T,T,T,T,T,T,T,T,T,T,T,T,T,T,T,T,T,T,F,F,F,F,F,F,F,F,F,F,F,F] rfl rfl (any_of HT_.out (by kernel_rfl)) (fun _ _ _ h => h) (Or.inl ⟨by rfl, ?_⟩) ?_ ?_; rotate_left
              ·intro w'; go_simp; with_reducible rfl
              rotate_left
              ·simp only [Act.put, sA, sB, sC, sD, sE]; rfl
              refine pure_ (i := 28) (N := some 64) (v := undef) (a' := ?_) #[T,T,T,T,T,T,T,T,T,T,T,T,T,T,T,T,T,T,T,T,T,T,T,T,T,T,T,T,T,F,F,F,F,F,F,F,F,F,F,F] rfl rfl (any_of HT_.out (by kernel_rfl)) (fun _ _ _ h => h) (Or.inr ⟨by rfl, rfl⟩) ?_ ?_; rotate_left
              ·simp only [Act.put, sA, sB, sC, sD, sE]; rfl
              refine pure_ (i := 29) (N := some 65) (v := undef) (a' := ?_) #[T,T,T,T,T,T,T,T,T,T,T,T,T,T,T,T,T,T,T,T,T,T,T,T,T,T,T,T,T,T,F,F,F,F,F,F,F,F,F,F] rfl rfl (any_of HT_.out (by kernel_rfl)) (fun _ _ _ h => h) (Or.inr ⟨by rfl, rfl⟩) ?_ ?_; rotate_left
              ·simp only [Act.put, sA, sB, sC, sD, sE]; rfl
              refine pure_ (i := 30) (N := some 66) (v := undef) (a' := ?_) #[T,T,T,T,T,T,T,T,T,T,T,T,T,T,T,T,T,T,T,T,T,T,T,T,T,T,T,T,T,T,T,F,F,F,F,F,F,F,F,F] rfl rfl (any_of HT_.out (by kernel_rfl)) (fun _ _ _ h => h) (Or.inr ⟨by rfl, rfl⟩) ?_ ?_; rotate_left
              ·simp only [Act.put, sA, sB, sC, sD, sE]; rfl
              refine pure_ (i := 31) (N := some 67) (v := undef) (a' := ?_) #[T,T,T,T,T,T,T,T,T,T,T,T,T,T,T,T,T,T,T,T,T,T,T,T,T,T,T,T,T,T,T,T,F,F,F,F,F,F,F,F] rfl rfl (any_of HT_.out (by kernel_rfl)) (fun _ _ _ h => h) (Or.inr ⟨by rfl, rfl⟩) ?_ ?_; rotate_left
              ·simp only [Act.put, sA, sB, sC, sD, sE]; rfl
              refine pure_ (i := 32) (N := some 68) (v := undef) (a' := ?_) #[T,T,T,T,T,T,T,T,T,T,T,T,T,T,T,T,T,T,T,T,T,T,T,T,T,T,T,T,T,T,T,T,T,F,F,F,F,F,F,F] rfl rfl (any_of HT_.out (by kernel_rfl)) (fun _ _ _ h => h) (Or.inr ⟨by rfl, rfl⟩) ?_ ?_; rotate_left
              ·simp only [Act.put, sA, sB, sC, sD, sE]; rfl
              refine pure_ (i := 33) (N := some 69) (v := ?_) (a' := ?_) #[T,T,T,T,T,T,T,T,T,T,T,T,T,T,T,T,T,T,T,T,T,T,T,T,T,T,T,T,T,T,T,T,T,T,F,F,F,F,F,F] rfl rfl (any_of HT_.out (by kernel_rfl)) (fun _ _ _ h => h) (Or.inl ⟨by rfl, ?_⟩) ?_ ?_; rotate_left
              ·intro w'; go_simp; with_reducible rfl
              rotate_left
              ·simp only [Act.put, sA, sB, sC, sD, sE]; rfl
              refine pure_ (i := 34) (N := some 70) (v := ?_) (a' := ?_) #[T,T,T,T,T,T,T,T,T,T,T,T,T,T,T,T,T,T,T,T,T,T,T,T,T,T,T,T,T,T,T,T,T,T,T,F,F,F,F,F] rfl rfl (any_of HT_.out (by kernel_rfl)) (fun _ _ _ h => h) (Or.inl ⟨by rfl, ?_⟩) ?_ ?_; rotate_left
              ·intro w'; go_simp; with_reducible rfl
              rotate_left
              ·simp only [Act.put, sA, sB, sC, sD, sE]; rfl
              refine pure_ (i := 35) (N := some 71) (v := undef) (a' := ?_) #[T,T,T,T,T,T,T,T,T,T,T,T,T,T,T,T,T,T,T,T,T,T,T,T,T,T,T,T,T,T,T,T,T,T,T,T,F,F,F,F] rfl rfl (any_of HT_.out (by kernel_rfl)) (fun _ _ _ h => h) (Or.inr ⟨by rfl, rfl⟩) ?_ ?_; rotate_left
              ·simp only [Act.put, sA, sB, sC, sD, sE]; rfl
              refine pure_ (i := 36) (N := some 72) (v := undef) (a' := ?_) #[T,T,T,T,T,T,T,T,T,T,T,T,T,T,T,T,T,T,T,T,T,T,T,T,T,T,T,T,T,T,T,T,T,T,T,T,T,F,F,F] rfl rfl (any_of HT_.out (by kernel_rfl)) (fun _ _ _ h => h) (Or.inr ⟨by rfl, rfl⟩) ?_ ?_; rotate_left
              ·simp only [Act.put, sA, sB, sC, sD, sE]; rfl
              refine pure_ (i := 37) (N := some 73) (v := undef) (a' := ?_) #[T,T,T,T,T,T,T,T,T,T,T,T,T,T,T,T,T,T,T,T,T,T,T,T,T,T,T,T,T,T,T,T,T,T,T,T,T,T,F,F] rfl rfl (any_of HT_.out (by kernel_rfl)) (fun _ _ _ h => h) (Or.inr ⟨by rfl, rfl⟩) ?_ ?_; rotate_left
              ·simp only [Act.put, sA, sB, sC, sD, sE]; rfl
              refine pure_ (i := 38) (N := some 74) (v := undef) (a' := ?_) #[T,T,T,T,T,T,T,T,T,T,T,T,T,T,T,T,T,T,T,T,T,T,T,T,T,T,T,T,T,T,T,T,T,T,T,T,T,T,T,F] rfl rfl (any_of HT_.out (by kernel_rfl)) (fun _ _ _ h => h) (Or.inr ⟨by rfl, rfl⟩) ?_ ?_; rotate_left
              ·simp only [Act.put, sA, sB, sC, sD, sE]; rfl
              refine pure_ (i := 39) (N := some 75) (v := ?_) (a' := ?_) #[T,T,T,T,T,T,T,T,T,T,T,T,T,T,T,T,T,T,T,T,T,T,T,T,T,T,T,T,T,T,T,T,T,T,T,T,T,T,T,T] rfl rfl (any_of HT_.out (by kernel_rfl)) (fun _ _ _ h => h) (Or.inl ⟨by rfl, ?_⟩) ?_ ?_; rotate_left
              ·intro w'; go_simp; with_reducible rfl
              rotate_left
              ·simp only [Act.put, sA, sB, sC, sD, sE]; rfl
              refine done_ (done_of HT_.out (by kernel_rfl)) ?_
              try go_wp2
              go_ret
              exact ⟨by first | rfl | (simp [errW_none, errW_some] <;> rfl) | (simp only [← hji9]; first | rfl | (simp [errW_none, errW_some] <;> rfl)) | (simp [*, errW_none, errW_some] <;> rfl), by repeat (first | (with_reducible first | exact HB.out | apply bA | apply bD | apply bE) | exact HB.out)⟩
             ·rw [if_neg c19] at H; have c19b0 : decide ((rd (rd_L5 l1 x32_2) 0) < 0) = false := decide_eq_false c19; clear c19
              by_cases c21 : 1 < ((rd_L5 l1 x32_2).length : Int)
              ·rw [if_pos c21] at H; have c21b0 : decide (1 < ((rd_L5 l1 x32_2).length : Int)) = true := decide_eq_true c21; have c21b1 : decide (1 < (rd_L5 l1 x32_2).length) = true := decide_eq_true (by omega); clear c21
               by_cases c22 : (rd (rd_L5 l1 x32_2) 0) ≥ (rd (rd_L5 l1 x32_2) 1)
               ·rw [if_pos c22] at H; have c22b0 : decide ((rd (rd_L5 l1 x32_2) 1) ≤ (rd (rd_L5 l1 x32_2) 0)) = true := decide_eq_true c22; clear c22; obtain rfl := Option.some.inj H; have p105 : 0 ≤ (x32_2 : Int) := of_decide_eq_true (by first | (with_reducible assumption) | assumption); have q105 : x32_2 < (l1.length : Int) := of_decide_eq_true (by first | (with_reducible assumption) | assumption); obtain ⟨ad105, A105_0, c105_0, e105, hx105_0, hl105_0, hi105_0⟩ := at_L5 HR1.out x32_2 p105 q105; cases e105; replace hx105_0 := cB HB.out hx105_0; have HR105_0 := Ak hi105_0; have HC105_0 := Ak hl105_0; clear hi105_0 hl105_0; replace p105 := eq_true p105; replace q105 := eq_true q105
                try go_wp2
                have n0_ := Ak (Kd.R_drew HO_7.out); have n1_ := Ak (below_drew1 HB.out); clear HO_7 HB; have HO_7 := n0_; have HB := n1_; clear n0_ n1_; have p106 : 0 ≤ (0 : Int) := (by omega); have q106 : 0 < ((rd_L5 l1 x32_2).length : Int) := of_decide_eq_true (by first | (with_reducible assumption) | assumption); obtain ⟨ad106, e106, hx106_0⟩ := Kd.at_int HR105_0.out 0 p106 q106; have hw106_0 := hx106_0; (try rw [show ((0 : Int)).toNat = 0 from rfl] at hw106_0); (try rw [show 0 * 1 = 0 from rfl] at hw106_0); (try rw [Addr.add_zero'] at hw106_0); cases e106; have qi106 : (0 < (rd_L5 l1 x32_2).length) = True := eq_true (by omega); (try rw [show ((0 : Int)).toNat = 0 from rfl] at hx106_0); (try rw [Addr.add_zero'] at hx106_0); replace hx106_0 := cB HB.out hx106_0; replace p106 := eq_true p106; replace q106 := eq_true q106; have p107 : 0 ≤ (0 : Int) := (by omega); have q107 : 0 < ((rd_L5 l1 x32_2).length : Int) := of_decide_eq_true (by first | (with_reducible assumption) | assumption); obtain ⟨ad107, e107, hx107_0⟩ := Kd.at_int HR105_0.out 0 p107 q107; have hw107_0 := hx107_0; (try rw [show ((0 : Int)).toNat = 0 from rfl] at hw107_0); (try rw [show 0 * 1 = 0 from rfl] at hw107_0); (try rw [Addr.add_zero'] at hw107_0); obtain rfl : ad106 = ad107 := (by injection e107); have qi107 : (0 < (rd_L5 l1 x32_2).length) = True := eq_true (by omega); (try rw [show ((0 : Int)).toNat = 0 from rfl] at hx107_0); (try rw [Addr.add_zero'] at hx107_0); replace hx107_0 := cB HB.out hx107_0; replace p107 := eq_true p107; replace q107 := eq_true q107; have p108 : 0 ≤ (1 : Int) := (by omega); have q108 : 1 < ((rd_L5 l1 x32_2).length : Int) := of_decide_eq_true (by first | (with_reducible assumption) | assumption); obtain ⟨ad108, e108, hx108_0⟩ := Kd.at_int HR105_0.out 1 p108 q108; have hw108_0 := hx108_0; (try rw [show ((1 : Int)).toNat = 1 from rfl] at hw108_0); (try rw [show 1 * 1 = 1 from rfl] at hw108_0); (try simp only [Nat.reduceMul, Nat.reduceEqDiff, Go.Addr.add, ↓reduceIte] at hw108_0); obtain rfl : ad106 = ad108 := (by injection e108); (try simp only [show (1 : Int).toNat = 1 from rfl, Nat.reduceMul, Nat.reduceEqDiff, Go.Addr.add, ↓reduceIte] at hx108_0); have qi108 : (1 < (rd_L5 l1 x32_2).length) = True := eq_true (by omega); (try rw [show ((1 : Int)).toNat = 1 from rfl] at hx108_0); replace hx108_0 := cB HB.out hx108_0; replace p108 := eq_true p108; replace q108 := eq_true q108; refine start_ (n := 40) (S := fun w' => w'.cell? ad106 = some (.int .i64 (rd (rd_L5 l1 x32_2) 0)) ∧ w'.cell? ad106 = some (.int .i64 (rd (rd_L5 l1 x32_2) 0)) ∧ w'.cell? ⟨ad106.block, ad106.off + 1, none⟩ = some (.int .i64 (rd (rd_L5 l1 x32_2) 1))) (ds := []) #[F,F,F,F,F,F,F,F,F,F,F,F,F,F,F,F,F,F,F,F,F,F,F,F,F,F,F,F,F,F,F,F,F,F,F,F,F,F,F,F] (by kernel_rfl) rfl rfl ⟨((HB.out.cell (World.block_lt_of_cell? w _ hw106_0)).trans hw106_0), ((HB.out.cell (World.block_lt_of_cell? w _ hw107_0)).trans hw107_0), ((HB.out.cell (World.block_lt_of_cell? w _ hw108_0)).trans hw108_0)⟩ (fun hHeld => ?_); refine with_tabW spec_IsTriangulation.tab9 spec_IsTriangulation.bits9 (fun HT_ HW_ => ?_); generalize wr.drew = w23 at HO_7 HB hx106_0 hx107_0 hx108_0 hHeld ⊢; refine pure_ (i := 0) (N := some 36) (v := ?_) (a' := ?_) #[T,F,F,F,F,F,F,F,F,F,F,F,F,F,F,F,F,F,F,F,F,F,F,F,F,F,F,F,F,F,F,F,F,F,F,F,F,F,F,F] rfl rfl (any_of HT_.out (by kernel_rfl)) (fun _ _ _ h => h) (Or.inl ⟨by rfl, ?_⟩) ?_ ?_; rotate_left
                ·intro w'; go_simp; with_reducible rfl
                rotate_left
                ·simp only [Act.put, sA, sB, sC, sD, sE]; rfl
                refine pure_ (i := 1) (N := some 37) (v := ?_) (a' := ?_) #[T,T,F,F,F,F,F,F,F,F,F,F,F,F,F,F,F,F,F,F,F,F,F,F,F,F,F,F,F,F,F,F,F,F,F,F,F,F,F,F] rfl rfl (any_of HT_.out (by kernel_rfl)) (fun _ _ _ h => h) (Or.inl ⟨by rfl, ?_⟩) ?_ ?_; rotate_left
                ·intro w'; go_simp; with_reducible rfl
                rotate_left
                ·simp only [Act.put, sA, sB, sC, sD, sE]; rfl
                refine pure_ (i := 2) (N := some 38) (v := ?_) (a' := ?_) #[T,T,T,F,F,F,F,F,F,F,F,F,F,F,F,F,F,F,F,F,F,F,F,F,F,F,F,F,F,F,F,F,F,F,F,F,F,F,F,F] rfl rfl (any_of HT_.out (by kernel_rfl)) (fun _ _ _ h => h) (Or.inl ⟨by rfl, ?_⟩) ?_ ?_; rotate_left
                ·intro w'; go_simp; with_reducible rfl
                rotate_left
                ·simp only [Act.put, sA, sB, sC, sD, sE]; rfl
                refine pure_ (i := 3) (N := some 39) (v := ?_) (a' := ?_) #[T,T,T,T,F,F,F,F,F,F,F,F,F,F,F,F,F,F,F,F,F,F,F,F,F,F,F,F,F,F,F,F,F,F,F,F,F,F,F,F] rfl rfl (any_of HT_.out (by kernel_rfl)) (fun _ _ _ h => h) (Or.inl ⟨by rfl, ?_⟩) ?_ ?_; rotate_left
                ·intro w'; go_simp; with_reducible rfl
                rotate_left
                ·simp only [Act.put, sA, sB, sC, sD, sE]; rfl
                refine pure_ (i := 4) (N := some 40) (v := ?_) (a' := ?_) #[T,T,T,T,T,F,F,F,F,F,F,F,F,F,F,F,F,F,F,F,F,F,F,F,F,F,F,F,F,F,F,F,F,F,F,F,F,F,F,F] rfl rfl (any_of HT_.out (by kernel_rfl)) (fun _ _ _ h => h) (Or.inl ⟨by rfl, ?_⟩) ?_ ?_; rotate_left
                ·intro w'; go_simp; with_reducible rfl
                rotate_left
                ·simp only [Act.put, sA, sB, sC, sD, sE]; rfl
                refine pure_ (i := 5) (N := some 41) (v := ?_) (a' := ?_) #[T,T,T,T,T,T,F,F,F,F,F,F,F,F,F,F,F,F,F,F,F,F,F,F,F,F,F,F,F,F,F,F,F,F,F,F,F,F,F,F] rfl rfl (any_of HT_.out (by kernel_rfl)) (fun _ _ _ h => h) (Or.inl ⟨by rfl, ?_⟩) ?_ ?_; rotate_left
                ·intro w'; go_simp; with_reducible rfl
                rotate_left
                ·simp only [Act.put, sA, sB, sC, sD, sE]; rfl
                refine take_ (i := 6) (N := some 42) (v := ?_) (a' := ?_) #[T,T,T,T,T,T,T,F,F,F,F,F,F,F,F,F,F,F,F,F,F,F,F,F,F,F,F,F,F,F,F,F,F,F,F,F,F,F,F,F] rfl rfl (take_ofW HT_.out HW_.out (by kernel_rfl)) (fun _ _ _ h => h) (Or.inl ⟨by rfl, ?_⟩) hHeld ?_ ?_; rotate_left
                ·rintro w' ⟨s0, s1, s2⟩; go_simp; with_reducible rfl
                rotate_left
                ·simp only [Act.put, sA, sB, sC, sD, sE]; rfl
                refine pure_ (i := 7) (N := some 43) (v := ?_) (a' := ?_) #[T,T,T,T,T,T,T,T,F,F,F,F,F,F,F,F,F,F,F,F,F,F,F,F,F,F,F,F,F,F,F,F,F,F,F,F,F,F,F,F] rfl rfl (any_of HT_.out (by kernel_rfl)) (fun _ _ _ h => h) (Or.inl ⟨by rfl, ?_⟩) ?_ ?_; rotate_left
                ·intro w'; go_simp; with_reducible rfl
                rotate_left
                ·simp only [Act.put, sA, sB, sC, sD, sE]; rfl
                refine pure_ (i := 8) (N := some 44) (v := ?_) (a' := ?_) #[T,T,T,T,T,T,T,T,T,F,F,F,F,F,F,F,F,F,F,F,F,F,F,F,F,F,F,F,F,F,F,F,F,F,F,F,F,F,F,F] rfl rfl (any_of HT_.out (by kernel_rfl)) (fun _ _ _ h => h) (Or.inl ⟨by rfl, ?_⟩) ?_ ?_; rotate_left
                ·intro w'; go_simp; with_reducible rfl
                rotate_left
                ·simp only [Act.put, sA, sB, sC, sD, sE]; rfl
                refine pure_ (i := 9) (N := some 45) (v := ?_) (a' := ?_) #[T,T,T,T,T,T,T,T,T,T,F,F,F,F,F,F,F,F,F,F,F,F,F,F,F,F,F,F,F,F,F,F,F,F,F,F,F,F,F,F] rfl rfl (any_of HT_.out (by kernel_rfl)) (fun _ _ _ h => h) (Or.inl ⟨by rfl, ?_⟩) ?_ ?_; rotate_left
                ·intro w'; go_simp; with_reducible rfl
                rotate_left
                ·simp only [Act.put, sA, sB, sC, sD, sE]; rfl
                refine pure_ (i := 10) (N := some 46) (v := ?_) (a' := ?_) #[T,T,T,T,T,T,T,T,T,T,T,F,F,F,F,F,F,F,F,F,F,F,F,F,F,F,F,F,F,F,F,F,F,F,F,F,F,F,F,F] rfl rfl (any_of HT_.out (by kernel_rfl)) (fun _ _ _ h => h) (Or.inl ⟨by rfl, ?_⟩) ?_ ?_; rotate_left
                ·intro w'; go_simp; with_reducible rfl
                rotate_left
                ·simp only [Act.put, sA, sB, sC, sD, sE]; rfl
                refine pure_ (i := 11) (N := some 47) (v := ?_) (a' := ?_) #[T,T,T,T,T,T,T,T,T,T,T,T,F,F,F,F,F,F,F,F,F,F,F,F,F,F,F,F,F,F,F,F,F,F,F,F,F,F,F,F] rfl rfl (any_of HT_.out (by kernel_rfl)) (fun _ _ _ h => h) (Or.inl ⟨by rfl, ?_⟩) ?_ ?_; rotate_left
                ·intro w'; go_simp; with_reducible rfl
                rotate_left
                ·simp only [Act.put, sA, sB, sC, sD, sE]; rfl
                refine pure_ (i := 13) (N := some 49) (v := ?_) (a' := ?_) #[T,T,T,T,T,T,T,T,T,T,T,T,F,T,F,F,F,F,F,F,F,F,F,F,F,F,F,F,F,F,F,F,F,F,F,F,F,F,F,F] rfl rfl (any_of HT_.out (by kernel_rfl)) (fun _ _ _ h => h) (Or.inl ⟨by rfl, ?_⟩) ?_ ?_; rotate_left
                ·intro w'; go_simp; with_reducible rfl
                rotate_left
                ·simp only [Act.put, sA, sB, sC, sD, sE]; rfl
                refine pure_ (i := 14) (N := some 50) (v := ?_) (a' := ?_) #[T,T,T,T,T,T,T,T,T,T,T,T,F,T,T,F,F,F,F,F,F,F,F,F,F,F,F,F,F,F,F,F,F,F,F,F,F,F,F,F] rfl rfl (any_of HT_.out (by kernel_rfl)) (fun _ _ _ h => h) (Or.inl ⟨by rfl, ?_⟩) ?_ ?_; rotate_left
                ·intro w'; go_simp; with_reducible rfl
                rotate_left
                ·simp only [Act.put, sA, sB, sC, sD, sE]; rfl
                refine take_ (i := 12) (N := some 48) (v := ?_) (a' := ?_) #[T,T,T,T,T,T,T,T,T,T,T,T,T,T,T,F,F,F,F,F,F,F,F,F,F,F,F,F,F,F,F,F,F,F,F,F,F,F,F,F] rfl rfl (take_ofW HT_.out HW_.out (by kernel_rfl)) (fun _ _ _ h => h) (Or.inl ⟨by rfl, ?_⟩) hHeld ?_ ?_; rotate_left
                ·rintro w' ⟨s0, s1, s2⟩; go_simp; with_reducible rfl
                rotate_left
                ·simp only [Act.put, sA, sB, sC, sD, sE]; rfl
                refine take_ (i := 15) (N := some 51) (v := ?_) (a' := ?_) #[T,T,T,T,T,T,T,T,T,T,T,T,T,T,T,T,F,F,F,F,F,F,F,F,F,F,F,F,F,F,F,F,F,F,F,F,F,F,F,F] rfl rfl (take_ofW HT_.out HW_.out (by kernel_rfl)) (fun _ _ _ h => h) (Or.inl ⟨by rfl, ?_⟩) hHeld ?_ ?_; rotate_left
                ·rintro w' ⟨s0, s1, s2⟩; go_simp; with_reducible rfl
                rotate_left
                ·simp only [Act.put, sA, sB, sC, sD, sE]; rfl
                refine pure_ (i := 16) (N := some 52) (v := ?_) (a' := ?_) #[T,T,T,T,T,T,T,T,T,T,T,T,T,T,T,T,T,F,F,F,F,F,F,F,F,F,F,F,F,F,F,F,F,F,F,F,F,F,F,F] rfl rfl (any_of HT_.out (by kernel_rfl)) (fun _ _ _ h => h) (Or.inl ⟨by rfl, ?_⟩) ?_ ?_; rotate_left
                ·intro w'; go_simp; with_reducible rfl
                rotate_left
                ·simp only [Act.put, sA, sB, sC, sD, sE]; rfl
                refine pure_ (i := 17) (N := some 53) (v := ?_) (a' := ?_) #[T,T,T,T,T,T,T,T,T,T,T,T,T,T,T,T,T,T,F,F,F,F,F,F,F,F,F,F,F,F,F,F,F,F,F,F,F,F,F,F] rfl rfl (any_of HT_.out (by kernel_rfl)) (fun _ _ _ h => h) (Or.inl ⟨by rfl, ?_⟩) ?_ ?_; rotate_left
                ·intro w'; go_simp; with_reducible rfl
                rotate_left
                ·simp only [Act.put, sA, sB, sC, sD, sE]; rfl
                refine pure_ (i := 18) (N := some 54) (v := ?_) (a' := ?_) #[T,T,T,T,T,T,T,T,T,T,T,T,T,T,T,T,T,T,T,F,F,F,F,F,F,F,F,F,F,F,F,F,F,F,F,F,F,F,F,F] rfl rfl (any_of HT_.out (by kernel_rfl)) (fun _ _ _ h => h) (Or.inl ⟨by rfl, ?_⟩) ?_ ?_; rotate_left
                ·intro w'; go_simp; with_reducible rfl
                rotate_left
                ·simp only [Act.put, sA, sB, sC, sD, sE]; rfl
                refine pure_ (i := 19) (N := some 55) (v := undef) (a' := ?_) #[T,T,T,T,T,T,T,T,T,T,T,T,T,T,T,T,T,T,T,T,F,F,F,F,F,F,F,F,F,F,F,F,F,F,F,F,F,F,F,F] rfl rfl (any_of HT_.out (by kernel_rfl)) (fun _ _ _ h => h) (Or.inr ⟨by rfl, rfl⟩) ?_ ?_; rotate_left
                ·simp only [Act.put, sA, sB, sC, sD, sE]; rfl
                refine pure_ (i := 20) (N := some 56) (v := undef) (a' := ?_) #[T,T,T,T,T,T,T,T,T,T,T,T,T,T,T,T,T,T,T,T,T,F,F,F,F,F,F,F,F,F,F,F,F,F,F,F,F,F,F,F] rfl rfl (any_of HT_.out (by kernel_rfl)) (fun _ _ _ h => h) (Or.inr ⟨by rfl, rfl⟩) ?_ ?_; rotate_left
                ·simp only [Act.put, sA, sB, sC, sD, sE]; rfl
                refine pure_ (i := 21) (N := some 57) (v := undef) (a' := ?_) #[T,T,T,T,T,T,T,T,T,T,T,T,T,T,T,T,T,T,T,T,T,T,F,F,F,F,F,F,F,F,F,F,F,F,F,F,F,F,F,F] rfl rfl (any_of HT_.out (by kernel_rfl)) (fun _ _ _ h => h) (Or.inr ⟨by rfl, rfl⟩) ?_ ?_; rotate_left
                ·simp only [Act.put, sA, sB, sC, sD, sE]; rfl
                refine pure_ (i := 22) (N := some 58) (v := undef) (a' := ?_) #[T,T,T,T,T,T,T,T,T,T,T,T,T,T,T,T,T,T,T,T,T,T,T,F,F,F,F,F,F,F,F,F,F,F,F,F,F,F,F,F] rfl rfl (any_of HT_.out (by kernel_rfl)) (fun _ _ _ h => h) (Or.inr ⟨by rfl, rfl⟩) ?_ ?_; rotate_left
                ·simp only [Act.put, sA, sB, sC, sD, sE]; rfl
                refine pure_ (i := 23) (N := some 59) (v := undef) (a' := ?_) #[T,T,T,T,T,T,T,T,T,T,T,T,T,T,T,T,T,T,T,T,T,T,T,T,F,F,F,F,F,F,F,F,F,F,F,F,F,F,F,F] rfl rfl (any_of HT_.out (by kernel_rfl)) (fun _ _ _ h => h) (Or.inr ⟨by rfl, rfl⟩) ?_ ?_; rotate_left
                ·simp only [Act.put, sA, sB, sC, sD, sE]; rfl
                refine pure_ (i := 24) (N := some 60) (v := undef) (a' := ?_) #[T,T,T,T,T,T,T,T,T,T,T,T,T,T,T,T,T,T,T,T,T,T,T,T,T,F,F,F,F,F,F,F,F,F,F,F,F,F,F,F] rfl rfl (any_of HT_.out (by kernel_rfl)) (fun _ _ _ h => h) (Or.inr ⟨by rfl, rfl⟩) ?_ ?_; rotate_left
                ·simp only [Act.put, sA, sB, sC, sD, sE]; rfl
                refine pure_ (i := 25) (N := some 61) (v := undef) (a' := ?_) #[T,T,T,T,T,T,T,T,T,T,T,T,T,T,T,T,T,T,T,T,T,T,T,T,T,T,F,F,F,F,F,F,F,F,F,F,F,F,F,F] rfl rfl (any_of HT_.out (by kernel_rfl)) (fun _ _ _ h => h) (Or.inr ⟨by rfl, rfl⟩) ?_ ?_; rotate_left
                ·simp only [Act.put, sA, sB, sC, sD, sE]; rfl
                refine pure_ (i := 26) (N := some 62) (v := ?_) (a' := ?_) #[T,T,T,T,T,T,T,T,T,T,T,T,T,T,T,T,T,T,T,T,T,T,T,T,T,T,T,F,F,F,F,F,F,F,F,F,F,F,F,F] rfl rfl (any_of HT_.out (by kernel_rfl)) (fun _ _ _ h => h) (Or.inl ⟨by rfl, ?_⟩) ?_ ?_; rotate_left
                ·intro w'; go_simp; with_reducible rfl
                rotate_left
                ·simp only [Act.put, sA, sB, sC, sD, sE]; rfl
                refine pure_ (i := 27) (N := some 63) (v := ?_) (a' := ?_) #[T,T,T,T,T,T,T,T,T,T,T,T,T,T,T,T,T,T,T,T,T,T,T,T,T,T,T,T,F,F,F,F,F,F,F,F,F,F,F,F] rfl rfl (any_of HT_.out (by kernel_rfl)) (fun _ _ _ h => h) (Or.inl ⟨by rfl, ?_⟩) ?_ ?_; rotate_left
                ·intro w'; go_simp; with_reducible rfl
                rotate_left
                ·simp only [Act.put, sA, sB, sC, sD, sE]; rfl
                refine pure_ (i := 28) (N := some 64) (v := undef) (a' := ?_) #[T,T,T,T,T,T,T,T,T,T,T,T,T,T,T,T,T,T,T,T,T,T,T,T,T,T,T,T,T,F,F,F,F,F,F,F,F,F,F,F] rfl rfl (any_of HT_.out (by kernel_rfl)) (fun _ _ _ h => h) (Or.inr ⟨by rfl, rfl⟩) ?_ ?_; rotate_left
                ·simp only [Act.put, sA, sB, sC, sD, sE]; rfl
                refine pure_ (i := 29) (N := some 65) (v := undef) (a' := ?_) #[T,T,T,T,T,T,T,T,T,T,T,T,T,T,T,T,T,T,T,T,T,T,T,T,T,T,T,T,T,T,F,F,F,F,F,F,F,F,F,F] rfl rfl (any_of HT_.out (by kernel_rfl)) (fun _ _ _ h => h) (Or.inr ⟨by rfl, rfl⟩) ?_ ?_; rotate_left
                ·simp only [Act.put, sA, sB, sC, sD, sE]; rfl
                refine pure_ (i := 30) (N := some 66) (v := undef) (a' := ?_) #[T,T,T,T,T,T,T,T,T,T,T,T,T,T,T,T,T,T,T,T,T,T,T,T,T,T,T,T,T,T,T,F,F,F,F,F,F,F,F,F] rfl rfl (any_of HT_.out (by kernel_rfl)) (fun _ _ _ h => h) (Or.inr ⟨by rfl, rfl⟩) ?_ ?_; rotate_left
                ·simp only [Act.put, sA, sB, sC, sD, sE]; rfl
                refine pure_ (i := 31) (N := some 67) (v := undef) (a' := ?_) #[T,T,T,T,T,T,T,T,T,T,T,T,T,T,T,T,T,T,T,T,T,T,T,T,T,T,T,T,T,T,T,T,F,F,F,F,F,F,F,F] rfl rfl (any_of HT_.out (by kernel_rfl)) (fun _ _ _ h => h) (Or.inr ⟨by rfl, rfl⟩) ?_ ?_; rotate_left
                ·simp only [Act.put, sA, sB, sC, sD, sE]; rfl
                refine pure_ (i := 32) (N := some 68) (v := undef) (a' := ?_) #[T,T,T,T,T,T,T,T,T,T,T,T,T,T,T,T,T,T,T,T,T,T,T,T,T,T,T,T,T,T,T,T,T,F,F,F,F,F,F,F] rfl rfl (any_of HT_.out (by kernel_rfl)) (fun _ _ _ h => h) (Or.inr ⟨by rfl, rfl⟩) ?_ ?_; rotate_left
                ·simp only [Act.put, sA, sB, sC, sD, sE]; rfl
                refine pure_ (i := 33) (N := some 69) (v := ?_) (a' := ?_) #[T,T,T,T,T,T,T,T,T,T,T,T,T,T,T,T,T,T,T,T,T,T,T,T,T,T,T,T,T,T,T,T,T,T,F,F,F,F,F,F] rfl rfl (any_of HT_.out (by kernel_rfl)) (fun _ _ _ h => h) (Or.inl ⟨by rfl, ?_⟩) ?_ ?_; rotate_left
                ·intro w'; go_simp; with_reducible rfl
                rotate_left
                ·simp only [Act.put, sA, sB, sC, sD, sE]; rfl
                refine pure_ (i := 34) (N := some 70) (v := ?_) (a' := ?_) #[T,T,T,T,T,T,T,T,T,T,T,T,T,T,T,T,T,T,T,T,T,T,T,T,T,T,T,T,T,T,T,T,T,T,T,F,F,F,F,F] rfl rfl (any_of HT_.out (by kernel_rfl)) (fun _ _ _ h => h) (Or.inl ⟨by rfl, ?_⟩) ?_ ?_; rotate_left
                ·intro w'; go_simp; with_reducible rfl
                rotate_left
                ·simp only [Act.put, sA, sB, sC, sD, sE]; rfl
                refine pure_ (i := 35) (N := some 71) (v := undef) (a' := ?_) #[T,T,T,T,T,T,T,T,T,T,T,T,T,T,T,T,T,T,T,T,T,T,T,T,T,T,T,T,T,T,T,T,T,T,T,T,F,F,F,F] rfl rfl (any_of HT_.out (by kernel_rfl)) (fun _ _ _ h => h) (Or.inr ⟨by rfl, rfl⟩) ?_ ?_; rotate_left
                ·simp only [Act.put, sA, sB, sC, sD, sE]; rfl
                refine pure_ (i := 36) (N := some 72) (v := undef) (a' := ?_) #[T,T,T,T,T,T,T,T,T,T,T,T,T,T,T,T,T,T,T,T,T,T,T,T,T,T,T,T,T,T,T,T,T,T,T,T,T,F,F,F] rfl rfl (any_of HT_.out (by kernel_rfl)) (fun _ _ _ h => h) (Or.inr ⟨by rfl, rfl⟩) ?_ ?_; rotate_left
                ·simp only [Act.put, sA, sB, sC, sD, sE]; rfl
                refine pure_ (i := 37) (N := some 73) (v := undef) (a' := ?_) #[T,T,T,T,T,T,T,T,T,T,T,T,T,T,T,T,T,T,T,T,T,T,T,T,T,T,T,T,T,T,T,T,T,T,T,T,T,T,F,F] rfl rfl (any_of HT_.out (by kernel_rfl)) (fun _ _ _ h => h) (Or.inr ⟨by rfl, rfl⟩) ?_ ?_; rotate_left
                ·simp only [Act.put, sA, sB, sC, sD, sE]; rfl
                refine pure_ (i := 38) (N := some 74) (v := undef) (a' := ?_) #[T,T,T,T,T,T,T,T,T,T,T,T,T,T,T,T,T,T,T,T,T,T,T,T,T,T,T,T,T,T,T,T,T,T,T,T,T,T,T,F] rfl rfl (any_of HT_.out (by kernel_rfl)) (fun _ _ _ h => h) (Or.inr ⟨by rfl, rfl⟩) ?_ ?_; rotate_left
                ·simp only [Act.put, sA, sB, sC, sD, sE]; rfl
                refine pure_ (i := 39) (N := some 75) (v := ?_) (a' := ?_) #[T,T,T,T,T,T,T,T,T,T,T,T,T,T,T,T,T,T,T,T,T,T,T,T,T,T,T,T,T,T,T,T,T,T,T,T,T,T,T,T] rfl rfl (any_of HT_.out (by kernel_rfl)) (fun _ _ _ h => h) (Or.inl ⟨by rfl, ?_⟩) ?_ ?_; rotate_left
                ·intro w'; go_simp; with_reducible rfl
                rotate_left
                ·simp only [Act.put, sA, sB, sC, sD, sE]; rfl
                refine done_ (done_of HT_.out (by kernel_rfl)) ?_
                try go_wp2
                go_ret
                exact ⟨by first | rfl | (simp [errW_none, errW_some] <;> rfl) | (simp only [← hji9]; first | rfl | (simp [errW_none, errW_some] <;> rfl)) | (simp [*, errW_none, errW_some] <;> rfl), by repeat (first | (with_reducible first | exact HB.out | apply bA | apply bD | apply bE) | exact HB.out)⟩
               ·rw [if_neg c22] at H; have c22b0 : decide ((rd (rd_L5 l1 x32_2) 1) ≤ (rd (rd_L5 l1 x32_2) 0)) = false := decide_eq_false c22; clear c22
                by_cases c24 : 2 < ((rd_L5 l1 x32_2).length : Int)
                ·rw [if_pos c24] at H; have c24b0 : decide (2 < ((rd_L5 l1 x32_2).length : Int)) = true := decide_eq_true c24; have c24b1 : decide (2 < (rd_L5 l1 x32_2).length) = true := decide_eq_true (by omega); clear c24
                 by_cases c25 : (rd (rd_L5 l1 x32_2) 1) ≥ (rd (rd_L5 l1 x32_2) 2)
                 ·rw [if_pos c25] at H; have c25b0 : decide ((rd (rd_L5 l1 x32_2) 2) ≤ (rd (rd_L5 l1 x32_2) 1)) = true := decide_eq_true c25; clear c25; obtain rfl := Option.some.inj H; have p105 : 0 ≤ (x32_2 : Int) := of_decide_eq_true (by first | (with_reducible assumption) | assumption); have q105 : x32_2 < (l1.length : Int) := of_decide_eq_true (by first | (with_reducible assumption) | assumption); obtain ⟨ad105, A105_0, c105_0, e105, hx105_0, hl105_0, hi105_0⟩ := at_L5 HR1.out x32_2 p105 q105; cases e105; replace hx105_0 := cB HB.out hx105_0; have HR105_0 := Ak hi105_0; have HC105_0 := Ak hl105_0; clear hi105_0 hl105_0; replace p105 := eq_true p105; replace q105 := eq_true q105
                  try go_wp2
                  have n0_ := Ak (Kd.R_drew HO_7.out); have n1_ := Ak (below_drew1 HB.out); clear HO_7 HB; have HO_7 := n0_; have HB := n1_; clear n0_ n1_; have p106 : 0 ≤ (0 : Int) := (by omega); have q106 : 0 < ((rd_L5 l1 x32_2).length : Int) := of_decide_eq_true (by first | (with_reducible assumption) | assumption); obtain ⟨ad106, e106, hx106_0⟩ := Kd.at_int HR105_0.out 0 p106 q106; have hw106_0 := hx106_0; (try rw [show ((0 : Int)).toNat = 0 from rfl] at hw106_0); (try rw [show 0 * 1 = 0 from rfl] at hw106_0); (try rw [Addr.add_zero'] at hw106_0); cases e106; have qi106 : (0 < (rd_L5 l1 x32_2).length) = True := eq_true (by omega); (try rw [show ((0 : Int)).toNat = 0 from rfl] at hx106_0); (try rw [Addr.add_zero'] at hx106_0); replace hx106_0 := cB HB.out hx106_0; replace p106 := eq_true p106; replace q106 := eq_true q106; have p107 : 0 ≤ (0 : Int) := (by omega); have q107 : 0 < ((rd_L5 l1 x32_2).length : Int) := of_decide_eq_true (by first | (with_reducible assumption) | assumption); obtain ⟨ad107, e107, hx107_0⟩ := Kd.at_int HR105_0.out 0 p107 q107; have hw107_0 := hx107_0; (try rw [show ((0 : Int)).toNat = 0 from rfl] at hw107_0); (try rw [show 0 * 1 = 0 from rfl] at hw107_0); (try rw [Addr.add_zero'] at hw107_0); obtain rfl : ad106 = ad107 := (by injection e107); have qi107 : (0 < (rd_L5 l1 x32_2).length) = True := eq_true (by omega); (try rw [show ((0 : Int)).toNat = 0 from rfl] at hx107_0); (try rw [Addr.add_zero'] at hx107_0); replace hx107_0 := cB HB.out hx107_0; replace p107 := eq_true p107; replace q107 := eq_true q107; have p108 : 0 ≤ (1 : Int) := (by omega); have q108 : 1 < ((rd_L5 l1 x32_2).length : Int) := of_decide_eq_true (by first | (with_reducible assumption) | assumption); obtain ⟨ad108, e108, hx108_0⟩ := Kd.at_int HR105_0.out 1 p108 q108; have hw108_0 := hx108_0; (try rw [show ((1 : Int)).toNat = 1 from rfl] at hw108_0); (try rw [show 1 * 1 = 1 from rfl] at hw108_0); (try simp only [Nat.reduceMul, Nat.reduceEqDiff, Go.Addr.add, ↓reduceIte] at hw108_0); obtain rfl : ad106 = ad108 := (by injection e108); (try simp only [show (1 : Int).toNat = 1 from rfl, Nat.reduceMul, Nat.reduceEqDiff, Go.Addr.add, ↓reduceIte] at hx108_0); have qi108 : (1 < (rd_L5 l1 x32_2).length) = True := eq_true (by omega); (try rw [show ((1 : Int)).toNat = 1 from rfl] at hx108_0); replace hx108_0 := cB HB.out hx108_0; replace p108 := eq_true p108; replace q108 := eq_true q108; have p109 : 0 ≤ (1 : Int) := (by omega); have q109 : 1 < ((rd_L5 l1 x32_2).length : Int) := of_decide_eq_true (by first | (with_reducible assumption) | assumption); obtain ⟨ad109, e109, hx109_0⟩ := Kd.at_int HR105_0.out 1 p109 q109; have hw109_0 := hx109_0; (try rw [show ((1 : Int)).toNat = 1 from rfl] at hw109_0); (try rw [show 1 * 1 = 1 from rfl] at hw109_0); (try simp only [Nat.reduceMul, Nat.reduceEqDiff, Go.Addr.add, ↓reduceIte] at hw109_0); obtain rfl : ad106 = ad109 := (by injection e109); (try simp only [show (1 : Int).toNat = 1 from rfl, Nat.reduceMul, Nat.reduceEqDiff, Go.Addr.add, ↓reduceIte] at hx109_0); have qi109 : (1 < (rd_L5 l1 x32_2).length) = True := eq_true (by omega); (try rw [show ((1 : Int)).toNat = 1 from rfl] at hx109_0); replace hx109_0 := cB HB.out hx109_0; replace p109 := eq_true p109; replace q109 := eq_true q109; have p110 : 0 ≤ (2 : Int) := (by omega); have q110 : 2 < ((rd_L5 l1 x32_2).length : Int) := of_decide_eq_true (by first | (with_reducible assumption) | assumption); obtain ⟨ad110, e110, hx110_0⟩ := Kd.at_int HR105_0.out 2 p110 q110; have hw110_0 := hx110_0; (try rw [show ((2 : Int)).toNat = 2 from rfl] at hw110_0); (try rw [show 2 * 1 = 2 from rfl] at hw110_0); (try simp only [Nat.reduceMul, Nat.reduceEqDiff, Go.Addr.add, ↓reduceIte] at hw110_0); obtain rfl : ad106 = ad110 := (by injection e110); (try simp only [show (2 : Int).toNat = 2 from rfl, Nat.reduceMul, Nat.reduceEqDiff, Go.Addr.add, ↓reduceIte] at hx110_0); have qi110 : (2 < (rd_L5 l1 x32_2).length) = True := eq_true (by omega); (try rw [show ((2 : Int)).toNat = 2 from rfl] at hx110_0); replace hx110_0 := cB HB.out hx110_0; replace p110 := eq_true p110; replace q110 := eq_true q110; refine start_ (n := 40) (S := fun w' => w'.cell? ad106 = some (.int .i64 (rd (rd_L5 l1 x32_2) 0)) ∧ w'.cell? ad106 = some (.int .i64 (rd (rd_L5 l1 x32_2) 0)) ∧ w'.cell? ⟨ad106.block, ad106.off + 1, none⟩ = some (.int .i64 (rd (rd_L5 l1 x32_2) 1)) ∧ w'.cell? ⟨ad106.block, ad106.off + 1, none⟩ = some (.int .i64 (rd (rd_L5 l1 x32_2) 1)) ∧ w'.cell? ⟨ad106.block, ad106.off + 2, none⟩ = some (.int .i64 (rd (rd_L5 l1 x32_2) 2))) (ds := []) #[F,F,F,F,F,F,F,F,F,F,F,F,F,F,F,F,F,F,F,F,F,F,F,F,F,F,F,F,F,F,F,F,F,F,F,F,F,F,F,F] (by kernel_rfl) rfl rfl ⟨((HB.out.cell (World.block_lt_of_cell? w _ hw106_0)).trans hw106_0), ((HB.out.cell (World.block_lt_of_cell? w _ hw107_0)).trans hw107_0), ((HB.out.cell (World.block_lt_of_cell? w _ hw108_0)).trans hw108_0), ((HB.out.cell (World.block_lt_of_cell? w _ hw109_0)).trans hw109_0), ((HB.out.cell (World.block_lt_of_cell? w _ hw110_0)).trans hw110_0)⟩ (fun hHeld => ?_); refine with_tabW spec_IsTriangulation.tab9 spec_IsTriangulation.bits9 (fun HT_ HW_ => ?_); generalize wr.drew = w26 at HO_7 HB hx106_0 hx107_0 hx108_0 hx109_0 hx110_0 hHeld ⊢; refine pure_ (i := 0) (N := some 36) (v := ?_) (a' := ?_) #[T,F,F,F,F,F,F,F,F,F,F,F,F,F,F,F,F,F,F,F,F,F,F,F,F,F,F,F,F,F,F,F,F,F,F,F,F,F,F,F] rfl rfl (any_of HT_.out (by kernel_rfl)) (fun _ _ _ h => h) (Or.inl ⟨by rfl, ?_⟩) ?_ ?_; rotate_left
                  ·intro w'; go_simp; with_reducible rfl
                  rotate_left
                  ·simp only [Act.put, sA, sB, sC, sD, sE]; rfl
                  refine pure_ (i := 1) (N := some 37) (v := ?_) (a' := ?_) #[T,T,F,F,F,F,F,F,F,F,F,F,F,F,F,F,F,F,F,F,F,F,F,F,F,F,F,F,F,F,F,F,F,F,F,F,F,F,F,F] rfl rfl (any_of HT_.out (by kernel_rfl)) (fun _ _ _ h => h) (Or.inl ⟨by rfl, ?_⟩) ?_ ?_; rotate_left
                  ·intro w'; go_simp; with_reducible rfl
                  rotate_left
                  ·simp only [Act.put, sA, sB, sC, sD, sE]; rfl
                  refine pure_ (i := 2) (N := some 38) (v := ?_) (a' := ?_) #[T,T,T,F,F,F,F,F,F,F,F,F,F,F,F,F,F,F,F,F,F,F,F,F,F,F,F,F,F,F,F,F,F,F,F,F,F,F,F,F] rfl rfl (any_of HT_.out (by kernel_rfl)) (fun _ _ _ h => h) (Or.inl ⟨by rfl, ?_⟩) ?_ ?_; rotate_left
                  ·intro w'; go_simp; with_reducible rfl
                  rotate_left
                  ·simp only [Act.put, sA, sB, sC, sD, sE]; rfl
                  refine pure_ (i := 3) (N := some 39) (v := ?_) (a' := ?_) #[T,T,T,T,F,F,F,F,F,F,F,F,F,F,F,F,F,F,F,F,F,F,F,F,F,F,F,F,F,F,F,F,F,F,F,F,F,F,F,F] rfl rfl (any_of HT_.out (by kernel_rfl)) (fun _ _ _ h => h) (Or.inl ⟨by rfl, ?_⟩) ?_ ?_; rotate_left
                  ·intro w'; go_simp; with_reducible rfl
                  rotate_left
                  ·simp only [Act.put, sA, sB, sC, sD, sE]; rfl
                  refine pure_ (i := 4) (N := some 40) (v := ?_) (a' := ?_) #[T,T,T,T,T,F,F,F,F,F,F,F,F,F,F,F,F,F,F,F,F,F,F,F,F,F,F,F,F,F,F,F,F,F,F,F,F,F,F,F] rfl rfl (any_of HT_.out (by kernel_rfl)) (fun _ _ _ h => h) (Or.inl ⟨by rfl, ?_⟩) ?_ ?_; rotate_left
                  ·intro w'; go_simp; with_reducible rfl
                  rotate_left
                  ·simp only [Act.put, sA, sB, sC, sD, sE]; rfl
                  refine pure_ (i := 5) (N := some 41) (v := ?_) (a' := ?_) #[T,T,T,T,T,T,F,F,F,F,F,F,F,F,F,F,F,F,F,F,F,F,F,F,F,F,F,F,F,F,F,F,F,F,F,F,F,F,F,F] rfl rfl (any_of HT_.out (by kernel_rfl)) (fun _ _ _ h => h) (Or.inl ⟨by rfl, ?_⟩) ?_ ?_; rotate_left
                  ·intro w'; go_simp; with_reducible rfl
                  rotate_left
                  ·simp only [Act.put, sA, sB, sC, sD, sE]; rfl
                  refine take_ (i := 6) (N := some 42) (v := ?_) (a' := ?_) #[T,T,T,T,T,T,T,F,F,F,F,F,F,F,F,F,F,F,F,F,F,F,F,F,F,F,F,F,F,F,F,F,F,F,F,F,F,F,F,F] rfl rfl (take_ofW HT_.out HW_.out (by kernel_rfl)) (fun _ _ _ h => h) (Or.inl ⟨by rfl, ?_⟩) hHeld ?_ ?_; rotate_left
                  ·rintro w' ⟨s0, s1, s2, s3, s4⟩; go_simp; with_reducible rfl
                  rotate_left
                  ·simp only [Act.put, sA, sB, sC, sD, sE]; rfl
                  refine pure_ (i := 7) (N := some 43) (v := ?_) (a' := ?_) #[T,T,T,T,T,T,T,T,F,F,F,F,F,F,F,F,F,F,F,F,F,F,F,F,F,F,F,F,F,F,F,F,F,F,F,F,F,F,F,F] rfl rfl (any_of HT_.out (by kernel_rfl)) (fun _ _ _ h => h) (Or.inl ⟨by rfl, ?_⟩) ?_ ?_; rotate_left
                  ·intro w'; go_simp; with_reducible rfl
                  rotate_left
                  ·simp only [Act.put, sA, sB, sC, sD, sE]; rfl
                  refine pure_ (i := 8) (N := some 44) (v := ?_) (a' := ?_) #[T,T,T,T,T,T,T,T,T,F,F,F,F,F,F,F,F,F,F,F,F,F,F,F,F,F,F,F,F,F,F,F,F,F,F,F,F,F,F,F] rfl rfl (any_of HT_.out (by kernel_rfl)) (fun _ _ _ h => h) (Or.inl ⟨by rfl, ?_⟩) ?_ ?_; rotate_left
                  ·intro w'; go_simp; with_reducible rfl
                  rotate_left
                  ·simp only [Act.put, sA, sB, sC, sD, sE]; rfl
                  refine pure_ (i := 9) (N := some 45) (v := ?_) (a' := ?_) #[T,T,T,T,T,T,T,T,T,T,F,F,F,F,F,F,F,F,F,F,F,F,F,F,F,F,F,F,F,F,F,F,F,F,F,F,F,F,F,F] rfl rfl (any_of HT_.out (by kernel_rfl)) (fun _ _ _ h => h) (Or.inl ⟨by rfl, ?_⟩) ?_ ?_; rotate_left
                  ·intro w'; go_simp; with_reducible rfl
                  rotate_left
                  ·simp only [Act.put, sA, sB, sC, sD, sE]; rfl
                  refine pure_ (i := 10) (N := some 46) (v := ?_) (a' := ?_) #[T,T,T,T,T,T,T,T,T,T,T,F,F,F,F,F,F,F,F,F,F,F,F,F,F,F,F,F,F,F,F,F,F,F,F,F,F,F,F,F] rfl rfl (any_of HT_.out (by kernel_rfl)) (fun _ _ _ h => h) (Or.inl ⟨by rfl, ?_⟩) ?_ ?_; rotate_left
                  ·intro w'; go_simp; with_reducible rfl
                  rotate_left
                  ·simp only [Act.put, sA, sB, sC, sD, sE]; rfl
                  refine pure_ (i := 11) (N := some 47) (v := ?_) (a' := ?_) #[T,T,T,T,T,T,T,T,T,T,T,T,F,F,F,F,F,F,F,F,F,F,F,F,F,F,F,F,F,F,F,F,F,F,F,F,F,F,F,F] rfl rfl (any_of HT_.out (by kernel_rfl)) (fun _ _ _ h => h) (Or.inl ⟨by rfl, ?_⟩) ?_ ?_; rotate_left
                  ·intro w'; go_simp; with_reducible rfl
                  rotate_left
                  ·simp only [Act.put, sA, sB, sC, sD, sE]; rfl
                  refine pure_ (i := 13) (N := some 49) (v := ?_) (a' := ?_) #[T,T,T,T,T,T,T,T,T,T,T,T,F,T,F,F,F,F,F,F,F,F,F,F,F,F,F,F,F,F,F,F,F,F,F,F,F,F,F,F] rfl rfl (any_of HT_.out (by kernel_rfl)) (fun _ _ _ h => h) (Or.inl ⟨by rfl, ?_⟩) ?_ ?_; rotate_left
                  ·intro w'; go_simp; with_reducible rfl
                  rotate_left
                  ·simp only [Act.put, sA, sB, sC, sD, sE]; rfl
                  refine pure_ (i := 14) (N := some 50) (v := ?_) (a' := ?_) #[T,T,T,T,T,T,T,T,T,T,T,T,F,T,T,F,F,F,F,F,F,F,F,F,F,F,F,F,F,F,F,F,F,F,F,F,F,F,F,F] rfl rfl (any_of HT_.out (by kernel_rfl)) (fun _ _ _ h => h) (Or.inl ⟨by rfl, ?_⟩) ?_ ?_; rotate_left
                  ·intro w'; go_simp; with_reducible rfl
                  rotate_left
                  ·simp only [Act.put, sA, sB, sC, sD, sE]; rfl
                  refine take_ (i := 12) (N := some 48) (v := ?_) (a' := ?_) #[T,T,T,T,T,T,T,T,T,T,T,T,T,T,T,F,F,F,F,F,F,F,F,F,F,F,F,F,F,F,F,F,F,F,F,F,F,F,F,F] rfl rfl (take_ofW HT_.out HW_.out (by kernel_rfl)) (fun _ _ _ h => h) (Or.inl ⟨by rfl, ?_⟩) hHeld ?_ ?_; rotate_left
                  ·rintro w' ⟨s0, s1, s2, s3, s4⟩; go_simp; with_reducible rfl
                  rotate_left
                  ·simp only [Act.put, sA, sB, sC, sD, sE]; rfl
                  refine take_ (i := 15) (N := some 51) (v := ?_) (a' := ?_) #[T,T,T,T,T,T,T,T,T,T,T,T,T,T,T,T,F,F,F,F,F,F,F,F,F,F,F,F,F,F,F,F,F,F,F,F,F,F,F,F] rfl rfl (take_ofW HT_.out HW_.out (by kernel_rfl)) (fun _ _ _ h => h) (Or.inl ⟨by rfl, ?_⟩) hHeld ?_ ?_; rotate_left
                  ·rintro w' ⟨s0, s1, s2, s3, s4⟩; go_simp; with_reducible rfl
                  rotate_left
                  ·simp only [Act.put, sA, sB, sC, sD, sE]; rfl
                  refine pure_ (i := 16) (N := some 52) (v := ?_) (a' := ?_) #[T,T,T,T,T,T,T,T,T,T,T,T,T,T,T,T,T,F,F,F,F,F,F,F,F,F,F,F,F,F,F,F,F,F,F,F,F,F,F,F] rfl rfl (any_of HT_.out (by kernel_rfl)) (fun _ _ _ h => h) (Or.inl ⟨by rfl, ?_⟩) ?_ ?_; rotate_left
                  ·intro w'; go_simp; with_reducible rfl
                  rotate_left
                  ·simp only [Act.put, sA, sB, sC, sD, sE]; rfl
                  refine pure_ (i := 17) (N := some 53) (v := ?_) (a' := ?_) #[T,T,T,T,T,T,T,T,T,T,T,T,T,T,T,T,T,T,F,F,F,F,F,F,F,F,F,F,F,F,F,F,F,F,F,F,F,F,F,F] rfl rfl (any_of HT_.out (by kernel_rfl)) (fun _ _ _ h => h) (Or.inl ⟨by rfl, ?_⟩) ?_ ?_; rotate_left
                  ·intro w'; go_simp; with_reducible rfl
                  rotate_left
                  ·simp only [Act.put, sA, sB, sC, sD, sE]; rfl
                  refine pure_ (i := 18) (N := some 54) (v := ?_) (a' := ?_) #[T,T,T,T,T,T,T,T,T,T,T,T,T,T,T,T,T,T,T,F,F,F,F,F,F,F,F,F,F,F,F,F,F,F,F,F,F,F,F,F] rfl rfl (any_of HT_.out (by kernel_rfl)) (fun _ _ _ h => h) (Or.inl ⟨by rfl, ?_⟩) ?_ ?_; rotate_left
                  ·intro w'; go_simp; with_reducible rfl
                  rotate_left
                  ·simp only [Act.put, sA, sB, sC, sD, sE]; rfl
                  refine pure_ (i := 19) (N := some 55) (v := ?_) (a' := ?_) #[T,T,T,T,T,T,T,T,T,T,T,T,T,T,T,T,T,T,T,T,F,F,F,F,F,F,F,F,F,F,F,F,F,F,F,F,F,F,F,F] rfl rfl (any_of HT_.out (by kernel_rfl)) (fun _ _ _ h => h) (Or.inl ⟨by rfl, ?_⟩) ?_ ?_; rotate_left
                  ·intro w'; go_simp; with_reducible rfl
                  rotate_left
                  ·simp only [Act.put, sA, sB, sC, sD, sE]; rfl
                  refine pure_ (i := 20) (N := some 56) (v := ?_) (a' := ?_) #[T,T,T,T,T,T,T,T,T,T,T,T,T,T,T,T,T,T,T,T,T,F,F,F,F,F,F,F,F,F,F,F,F,F,F,F,F,F,F,F] rfl rfl (any_of HT_.out (by kernel_rfl)) (fun _ _ _ h => h) (Or.inl ⟨by rfl, ?_⟩) ?_ ?_; rotate_left
                  ·intro w'; go_simp; with_reducible rfl
                  rotate_left
                  ·simp only [Act.put, sA, sB, sC, sD, sE]; rfl
                  refine pure_ (i := 22) (N := some 58) (v := ?_) (a' := ?_) #[T,T,T,T,T,T,T,T,T,T,T,T,T,T,T,T,T,T,T,T,T,F,T,F,F,F,F,F,F,F,F,F,F,F,F,F,F,F,F,F] rfl rfl (any_of HT_.out (by kernel_rfl)) (fun _ _ _ h => h) (Or.inl ⟨by rfl, ?_⟩) ?_ ?_; rotate_left
                  ·intro w'; go_simp; with_reducible rfl
                  rotate_left
                  ·simp only [Act.put, sA, sB, sC, sD, sE]; rfl
                  refine pure_ (i := 23) (N := some 59) (v := ?_) (a' := ?_) #[T,T,T,T,T,T,T,T,T,T,T,T,T,T,T,T,T,T,T,T,T,F,T,T,F,F,F,F,F,F,F,F,F,F,F,F,F,F,F,F] rfl rfl (any_of HT_.out (by kernel_rfl)) (fun _ _ _ h => h) (Or.inl ⟨by rfl, ?_⟩) ?_ ?_; rotate_left
                  ·intro w'; go_simp; with_reducible rfl
                  rotate_left
                  ·simp only [Act.put, sA, sB, sC, sD, sE]; rfl
                  refine take_ (i := 21) (N := some 57) (v := ?_) (a' := ?_) #[T,T,T,T,T,T,T,T,T,T,T,T,T,T,T,T,T,T,T,T,T,T,T,T,F,F,F,F,F,F,F,F,F,F,F,F,F,F,F,F] rfl rfl (take_ofW HT_.out HW_.out (by kernel_rfl)) (fun _ _ _ h => h) (Or.inl ⟨by rfl, ?_⟩) hHeld ?_ ?_; rotate_left
                  ·rintro w' ⟨s0, s1, s2, s3, s4⟩; go_simp; with_reducible rfl
                  rotate_left
                  ·simp only [Act.put, sA, sB, sC, sD, sE]; rfl
                  refine take_ (i := 24) (N := some 60) (v := ?_) (a' := ?_) #[T,T,T,T,T,T,T,T,T,T,T,T,T,T,T,T,T,T,T,T,T,T,T,T,T,F,F,F,F,F,F,F,F,F,F,F,F,F,F,F] rfl rfl (take_ofW HT_.out HW_.out (by kernel_rfl)) (fun _ _ _ h => h) (Or.inl ⟨by rfl, ?_⟩) hHeld ?_ ?_; rotate_left
                  ·rintro w' ⟨s0, s1, s2, s3, s4⟩; go_simp; with_reducible rfl
                  rotate_left
                  ·simp only [Act.put, sA, sB, sC, sD, sE]; rfl
                  refine pure_ (i := 25) (N := some 61) (v := ?_) (a' := ?_) #[T,T,T,T,T,T,T,T,T,T,T,T,T,T,T,T,T,T,T,T,T,T,T,T,T,T,F,F,F,F,F,F,F,F,F,F,F,F,F,F] rfl rfl (any_of HT_.out (by kernel_rfl)) (fun _ _ _ h => h) (Or.inl ⟨by rfl, ?_⟩) ?_ ?_; rotate_left
                  ·intro w'; go_simp; with_reducible rfl
                  rotate_left
                  ·simp only [Act.put, sA, sB, sC, sD, sE]; rfl
                  refine pure_ (i := 26) (N := some 62) (v := ?_) (a' := ?_) #[T,T,T,T,T,T,T,T,T,T,T,T,T,T,T,T,T,T,T,T,T,T,T,T,T,T,T,F,F,F,F,F,F,F,F,F,F,F,F,F] rfl rfl (any_of HT_.out (by kernel_rfl)) (fun _ _ _ h => h) (Or.inl ⟨by rfl, ?_⟩) ?_ ?_; rotate_left
                  ·intro w'; go_simp; with_reducible rfl
                  rotate_left
                  ·simp only [Act.put, sA, sB, sC, sD, sE]; rfl
                  refine pure_ (i := 27) (N := some 63) (v := ?_) (a' := ?_) #[T,T,T,T,T,T,T,T,T,T,T,T,T,T,T,T,T,T,T,T,T,T,T,T,T,T,T,T,F,F,F,F,F,F,F,F,F,F,F,F] rfl rfl (any_of HT_.out (by kernel_rfl)) (fun _ _ _ h => h) (Or.inl ⟨by rfl, ?_⟩) ?_ ?_; rotate_left
                  ·intro w'; go_simp; with_reducible rfl
                  rotate_left
                  ·simp only [Act.put, sA, sB, sC, sD, sE]; rfl
                  refine pure_ (i := 28) (N := some 64) (v := undef) (a' := ?_) #[T,T,T,T,T,T,T,T,T,T,T,T,T,T,T,T,T,T,T,T,T,T,T,T,T,T,T,T,T,F,F,F,F,F,F,F,F,F,F,F] rfl rfl (any_of HT_.out (by kernel_rfl)) (fun _ _ _ h => h) (Or.inr ⟨by rfl, rfl⟩) ?_ ?_; rotate_left
                  ·simp only [Act.put, sA, sB, sC, sD, sE]; rfl
                  refine pure_ (i := 29) (N := some 65) (v := undef) (a' := ?_) #[T,T,T,T,T,T,T,T,T,T,T,T,T,T,T,T,T,T,T,T,T,T,T,T,T,T,T,T,T,T,F,F,F,F,F,F,F,F,F,F] rfl rfl (any_of HT_.out (by kernel_rfl)) (fun _ _ _ h => h) (Or.inr ⟨by rfl, rfl⟩) ?_ ?_; rotate_left
                  ·simp only [Act.put, sA, sB, sC, sD, sE]; rfl
                  refine pure_ (i := 30) (N := some 66) (v := undef) (a' := ?_) #[T,T,T,T,T,T,T,T,T,T,T,T,T,T,T,T,T,T,T,T,T,T,T,T,T,T,T,T,T,T,T,F,F,F,F,F,F,F,F,F] rfl rfl (any_of HT_.out (by kernel_rfl)) (fun _ _ _ h => h) (Or.inr ⟨by rfl, rfl⟩) ?_ ?_; rotate_left
                  ·simp only [Act.put, sA, sB, sC, sD, sE]; rfl
                  refine pure_ (i := 31) (N := some 67) (v := undef) (a' := ?_) #[T,T,T,T,T,T,T,T,T,T,T,T,T,T,T,T,T,T,T,T,T,T,T,T,T,T,T,T,T,T,T,T,F,F,F,F,F,F,F,F] rfl rfl (any_of HT_.out (by kernel_rfl)) (fun _ _ _ h => h) (Or.inr ⟨by rfl, rfl⟩) ?_ ?_; rotate_left
                  ·simp only [Act.put, sA, sB, sC, sD, sE]; rfl
                  refine pure_ (i := 32) (N := some 68) (v := undef) (a' := ?_) #[T,T,T,T,T,T,T,T,T,T,T,T,T,T,T,T,T,T,T,T,T,T,T,T,T,T,T,T,T,T,T,T,T,F,F,F,F,F,F,F] rfl rfl (any_of HT_.out (by kernel_rfl)) (fun _ _ _ h => h) (Or.inr ⟨by rfl, rfl⟩) ?_ ?_; rotate_left
                  ·simp only [Act.put, sA, sB, sC, sD, sE]; rfl
                  refine pure_ (i := 33) (N := some 69) (v := ?_) (a' := ?_) #[T,T,T,T,T,T,T,T,T,T,T,T,T,T,T,T,T,T,T,T,T,T,T,T,T,T,T,T,T,T,T,T,T,T,F,F,F,F,F,F] rfl rfl (any_of HT_.out (by kernel_rfl)) (fun _ _ _ h => h) (Or.inl ⟨by rfl, ?_⟩) ?_ ?_; rotate_left
                  ·intro w'; go_simp; with_reducible rfl
                  rotate_left
                  ·simp only [Act.put, sA, sB, sC, sD, sE]; rfl
                  refine pure_ (i := 34) (N := some 70) (v := ?_) (a' := ?_) #[T,T,T,T,T,T,T,T,T,T,T,T,T,T,T,T,T,T,T,T,T,T,T,T,T,T,T,T,T,T,T,T,T,T,T,F,F,F,F,F] rfl rfl (any_of HT_.out (by kernel_rfl)) (fun _ _ _ h => h) (Or.inl ⟨by rfl, ?_⟩) ?_ ?_; rotate_left
                  ·intro w'; go_simp; with_reducible rfl
                  rotate_left
                  ·simp only [Act.put, sA, sB, sC, sD, sE]; rfl
                  refine pure_ (i := 35) (N := some 71) (v := undef) (a' := ?_) #[T,T,T,T,T,T,T,T,T,T,T,T,T,T,T,T,T,T,T,T,T,T,T,T,T,T,T,T,T,T,T,T,T,T,T,T,F,F,F,F] rfl rfl (any_of HT_.out (by kernel_rfl)) (fun _ _ _ h => h) (Or.inr ⟨by rfl, rfl⟩) ?_ ?_; rotate_left
                  ·simp only [Act.put, sA, sB, sC, sD, sE]; rfl
                  refine pure_ (i := 36) (N := some 72) (v := undef) (a' := ?_) #[T,T,T,T,T,T,T,T,T,T,T,T,T,T,T,T,T,T,T,T,T,T,T,T,T,T,T,T,T,T,T,T,T,T,T,T,T,F,F,F] rfl rfl (any_of HT_.out (by kernel_rfl)) (fun _ _ _ h => h) (Or.inr ⟨by rfl, rfl⟩) ?_ ?_; rotate_left
                  ·simp only [Act.put, sA, sB, sC, sD, sE]; rfl
                  refine pure_ (i := 37) (N := some 73) (v := undef) (a' := ?_) #[T,T,T,T,T,T,T,T,T,T,T,T,T,T,T,T,T,T,T,T,T,T,T,T,T,T,T,T,T,T,T,T,T,T,T,T,T,T,F,F] rfl rfl (any_of HT_.out (by kernel_rfl)) (fun _ _ _ h => h) (Or.inr ⟨by rfl, rfl⟩) ?_ ?_; rotate_left
                  ·simp only [Act.put, sA, sB, sC, sD, sE]; rfl
                  refine pure_ (i := 38) (N := some 74) (v := undef) (a' := ?_) #[T,T,T,T,T,T,T,T,T,T,T,T,T,T,T,T,T,T,T,T,T,T,T,T,T,T,T,T,T,T,T,T,T,T,T,T,T,T,T,F] rfl rfl (any_of HT_.out (by kernel_rfl)) (fun _ _ _ h => h) (Or.inr ⟨by rfl, rfl⟩) ?_ ?_; rotate_left
                  ·simp only [Act.put, sA, sB, sC, sD, sE]; rfl
                  refine pure_ (i := 39) (N := some 75) (v := ?_) (a' := ?_) #[T,T,T,T,T,T,T,T,T,T,T,T,T,T,T,T,T,T,T,T,T,T,T,T,T,T,T,T,T,T,T,T,T,T,T,T,T,T,T,T] rfl rfl (any_of HT_.out (by kernel_rfl)) (fun _ _ _ h => h) (Or.inl ⟨by rfl, ?_⟩) ?_ ?_; rotate_left
                  ·intro w'; go_simp; with_reducible rfl
                  rotate_left
                  ·simp only [Act.put, sA, sB, sC, sD, sE]; rfl
                  refine done_ (done_of HT_.out (by kernel_rfl)) ?_
                  try go_wp2
                  go_ret
                  exact ⟨by first | rfl | (simp [errW_none, errW_some] <;> rfl) | (simp only [← hji9]; first | rfl | (simp [errW_none, errW_some] <;> rfl)) | (simp [*, errW_none, errW_some] <;> rfl), by repeat (first | (with_reducible first | exact HB.out | apply bA | apply bD | apply bE) | exact HB.out)⟩
                 ·rw [if_neg c25] at H; have c25b0 : decide ((rd (rd_L5 l1 x32_2) 2) ≤ (rd (rd_L5 l1 x32_2) 1)) = false := decide_eq_false c25; clear c25
                  by_cases c27 : (rd (rd_L5 l1 x32_2) 2) ≥ (l0.length : Int)
                  ·rw [if_pos c27] at H; have c27b0 : decide ((l0.length : Int) ≤ (rd (rd_L5 l1 x32_2) 2)) = true := decide_eq_true c27; clear c27; obtain rfl := Option.some.inj H; have p105 : 0 ≤ (x32_2 : Int) := of_decide_eq_true (by first | (with_reducible assumption) | assumption); have q105 : x32_2 < (l1.length : Int) := of_decide_eq_true (by first | (with_reducible assumption) | assumption); obtain ⟨ad105, A105_0, c105_0, e105, hx105_0, hl105_0, hi105_0⟩ := at_L5 HR1.out x32_2 p105 q105; cases e105; replace hx105_0 := cB HB.out hx105_0; have HR105_0 := Ak hi105_0; have HC105_0 := Ak hl105_0; clear hi105_0 hl105_0; replace p105 := eq_true p105; replace q105 := eq_true q105
                   try go_wp2
                   have n0_ := Ak (Kd.R_drew HO_7.out); have n1_ := Ak (below_drew1 HB.out); clear HO_7 HB; have HO_7 := n0_; have HB := n1_; clear n0_ n1_; have p106 : 0 ≤ (0 : Int) := (by omega); have q106 : 0 < ((rd_L5 l1 x32_2).length : Int) := of_decide_eq_true (by first | (with_reducible assumption) | assumption); obtain ⟨ad106, e106, hx106_0⟩ := Kd.at_int HR105_0.out 0 p106 q106; have hw106_0 := hx106_0; (try rw [show ((0 : Int)).toNat = 0 from rfl] at hw106_0); (try rw [show 0 * 1 = 0 from rfl] at hw106_0); (try rw [Addr.add_zero'] at hw106_0); cases e106; have qi106 : (0 < (rd_L5 l1 x32_2).length) = True := eq_true (by omega); (try rw [show ((0 : Int)).toNat = 0 from rfl] at hx106_0); (try rw [Addr.add_zero'] at hx106_0); replace hx106_0 := cB HB.out hx106_0; replace p106 := eq_true p106; replace q106 := eq_true q106; have p107 : 0 ≤ (0 : Int) := (by omega); have q107 : 0 < ((rd_L5 l1 x32_2).length : Int) := of_decide_eq_true (by first | (with_reducible assumption) | assumption); obtain ⟨ad107, e107, hx107_0⟩ := Kd.at_int HR105_0.out 0 p107 q107; have hw107_0 := hx107_0; (try rw [show ((0 : Int)).toNat = 0 from rfl] at hw107_0); (try rw [show 0 * 1 = 0 from rfl] at hw107_0); (try rw [Addr.add_zero'] at hw107_0); obtain rfl : ad106 = ad107 := (by injection e107); have qi107 : (0 < (rd_L5 l1 x32_2).length) = True := eq_true (by omega); (try rw [show ((0 : Int)).toNat = 0 from rfl] at hx107_0); (try rw [Addr.add_zero'] at hx107_0); replace hx107_0 := cB HB.out hx107_0; replace p107 := eq_true p107; replace q107 := eq_true q107; have p108 : 0 ≤ (1 : Int) := (by omega); have q108 : 1 < ((rd_L5 l1 x32_2).length : Int) := of_decide_eq_true (by first | (with_reducible assumption) | assumption); obtain ⟨ad108, e108, hx108_0⟩ := Kd.at_int HR105_0.out 1 p108 q108; have hw108_0 := hx108_0; (try rw [show ((1 : Int)).toNat = 1 from rfl] at hw108_0); (try rw [show 1 * 1 = 1 from rfl] at hw108_0); (try simp only [Nat.reduceMul, Nat.reduceEqDiff, Go.Addr.add, ↓reduceIte] at hw108_0); obtain rfl : ad106 = ad108 := (by injection e108); (try simp only [show (1 : Int).toNat = 1 from rfl, Nat.reduceMul, Nat.reduceEqDiff, Go.Addr.add, ↓reduceIte] at hx108_0); have qi108 : (1 < (rd_L5 l1 x32_2).length) = True := eq_true (by omega); (try rw [show ((1 : Int)).toNat = 1 from rfl] at hx108_0); replace hx108_0 := cB HB.out hx108_0; replace p108 := eq_true p108; replace q108 := eq_true q108; have p109 : 0 ≤ (1 : Int) := (by omega); have q109 : 1 < ((rd_L5 l1 x32_2).length : Int) := of_decide_eq_true (by first | (with_reducible assumption) | assumption); obtain ⟨ad109, e109, hx109_0⟩ := Kd.at_int HR105_0.out 1 p109 q109; have hw109_0 := hx109_0; (try rw [show ((1 : Int)).toNat = 1 from rfl] at hw109_0); (try rw [show 1 * 1 = 1 from rfl] at hw109_0); (try simp only [Nat.reduceMul, Nat.reduceEqDiff, Go.Addr.add, ↓reduceIte] at hw109_0); obtain rfl : ad106 = ad109 := (by injection e109); (try simp only [show (1 : Int).toNat = 1 from rfl, Nat.reduceMul, Nat.reduceEqDiff, Go.Addr.add, ↓reduceIte] at hx109_0); have qi109 : (1 < (rd_L5 l1 x32_2).length) = True := eq_true (by omega); (try rw [show ((1 : Int)).toNat = 1 from rfl] at hx109_0); replace hx109_0 := cB HB.out hx109_0; replace p109 := eq_true p109; replace q109 := eq_true q109; have p110 : 0 ≤ (2 : Int) := (by omega); have q110 : 2 < ((rd_L5 l1 x32_2).length : Int) := of_decide_eq_true (by first | (with_reducible assumption) | assumption); obtain ⟨ad110, e110, hx110_0⟩ := Kd.at_int HR105_0.out 2 p110 q110; have hw110_0 := hx110_0; (try rw [show ((2 : Int)).toNat = 2 from rfl] at hw110_0); (try rw [show 2 * 1 = 2 from rfl] at hw110_0); (try simp only [Nat.reduceMul, Nat.reduceEqDiff, Go.Addr.add, ↓reduceIte] at hw110_0); obtain rfl : ad106 = ad110 := (by injection e110); (try simp only [show (2 : Int).toNat = 2 from rfl, Nat.reduceMul, Nat.reduceEqDiff, Go.Addr.add, ↓reduceIte] at hx110_0); have qi110 : (2 < (rd_L5 l1 x32_2).length) = True := eq_true (by omega); (try rw [show ((2 : Int)).toNat = 2 from rfl] at hx110_0); replace hx110_0 := cB HB.out hx110_0; replace p110 := eq_true p110; replace q110 := eq_true q110; have p111 : 0 ≤ (2 : Int) := (by omega); have q111 : 2 < ((rd_L5 l1 x32_2).length : Int) := of_decide_eq_true (by first | (with_reducible assumption) | assumption); obtain ⟨ad111, e111, hx111_0⟩ := Kd.at_int HR105_0.out 2 p111 q111; have hw111_0 := hx111_0; (try rw [show ((2 : Int)).toNat = 2 from rfl] at hw111_0); (try rw [show 2 * 1 = 2 from rfl] at hw111_0); (try simp only [Nat.reduceMul, Nat.reduceEqDiff, Go.Addr.add, ↓reduceIte] at hw111_0); obtain rfl : ad106 = ad111 := (by injection e111); (try simp only [show (2 : Int).toNat = 2 from rfl, Nat.reduceMul, Nat.reduceEqDiff, Go.Addr.add, ↓reduceIte] at hx111_0); have qi111 : (2 < (rd_L5 l1 x32_2).length) = True := eq_true (by omega); (try rw [show ((2 : Int)).toNat = 2 from rfl] at hx111_0); replace hx111_0 := cB HB.out hx111_0; replace p111 := eq_true p111; replace q111 := eq_true q111; refine start_ (n := 40) (S := fun w' => w'.cell? ad106 = some (.int .i64 (rd (rd_L5 l1 x32_2) 0)) ∧ w'.cell? ad106 = some (.int .i64 (rd (rd_L5 l1 x32_2) 0)) ∧ w'.cell? ⟨ad106.block, ad106.off + 1, none⟩ = some (.int .i64 (rd (rd_L5 l1 x32_2) 1)) ∧ w'.cell? ⟨ad106.block, ad106.off + 1, none⟩ = some (.int .i64 (rd (rd_L5 l1 x32_2) 1)) ∧ w'.cell? ⟨ad106.block, ad106.off + 2, none⟩ = some (.int .i64 (rd (rd_L5 l1 x32_2) 2)) ∧ w'.cell? ⟨ad106.block, ad106.off + 2, none⟩ = some (.int .i64 (rd (rd_L5 l1 x32_2) 2))) (ds := []) #[F,F,F,F,F,F,F,F,F,F,F,F,F,F,F,F,F,F,F,F,F,F,F,F,F,F,F,F,F,F,F,F,F,F,F,F,F,F,F,F] (by kernel_rfl) rfl rfl ⟨((HB.out.cell (World.block_lt_of_cell? w _ hw106_0)).trans hw106_0), ((HB.out.cell (World.block_lt_of_cell? w _ hw107_0)).trans hw107_0), ((HB.out.cell (World.block_lt_of_cell? w _ hw108_0)).trans hw108_0), ((HB.out.cell (World.block_lt_of_cell? w _ hw109_0)).trans hw109_0), ((HB.out.cell (World.block_lt_of_cell? w _ hw110_0)).trans hw110_0), ((HB.out.cell (World.block_lt_of_cell? w _ hw111_0)).trans hw111_0)⟩ (fun hHeld => ?_); refine with_tabW spec_IsTriangulation.tab9 spec_IsTriangulation.bits9 (fun HT_ HW_ => ?_); generalize wr.drew = w28 at HO_7 HB hx106_0 hx107_0 hx108_0 hx109_0 hx110_0 hx111_0 hHeld ⊢; refine pure_ (i := 0) (N := some 36) (v := ?_) (a' := ?_) #[T,F,F,F,F,F,F,F,F,F,F,F,F,F,F,F,F,F,F,F,F,F,F,F,F,F,F,F,F,F,F,F,F,F,F,F,F,F,F,F] rfl rfl (any_of HT_.out (by kernel_rfl)) (fun _ _ _ h => h) (Or.inl ⟨by rfl, ?_⟩) ?_ ?_; rotate_left
                   ·intro w'; go_simp; with_reducible rfl
                   rotate_left
                   ·simp only [Act.put, sA, sB, sC, sD, sE]; rfl
                   refine pure_ (i := 1) (N := some 37) (v := ?_) (a' := ?_) #[T,T,F,F,F,F,F,F,F,F,F,F,F,F,F,F,F,F,F,F,F,F,F,F,F,F,F,F,F,F,F,F,F,F,F,F,F,F,F,F] rfl rfl (any_of HT_.out (by kernel_rfl)) (fun _ _ _ h => h) (Or.inl ⟨by rfl, ?_⟩) ?_ ?_; rotate_left
                   ·intro w'; go_simp; with_reducible rfl
                   rotate_left
                   ·simp only [Act.put, sA, sB, sC, sD, sE]; rfl
                   refine pure_ (i := 2) (N := some 38) (v := ?_) (a' := ?_) #[T,T,T,F,F,F,F,F,F,F,F,F,F,F,F,F,F,F,F,F,F,F,F,F,F,F,F,F,F,F,F,F,F,F,F,F,F,F,F,F] rfl rfl (any_of HT_.out (by kernel_rfl)) (fun _ _ _ h => h) (Or.inl ⟨by rfl, ?_⟩) ?_ ?_; rotate_left
                   ·intro w'; go_simp; with_reducible rfl
                   rotate_left
                   ·simp only [Act.put, sA, sB, sC, sD, sE]; rfl
                   refine pure_ (i := 3) (N := some 39) (v := ?_) (a' := ?_) #[T,T,T,T,F,F,F,F,F,F,F,F,F,F,F,F,F,F,F,F,F,F,F,F,F,F,F,F,F,F,F,F,F,F,F,F,F,F,F,F] rfl rfl (any_of HT_.out (by kernel_rfl)) (fun _ _ _ h => h) (Or.inl ⟨by rfl, ?_⟩) ?_ ?_; rotate_left
                   ·intro w'; go_simp; with_reducible rfl
                   rotate_left
                   ·simp only [Act.put, sA, sB, sC, sD, sE]; rfl
                   refine pure_ (i := 4) (N := some 40) (v := ?_) (a' := ?_) #[T,T,T,T,T,F,F,F,F,F,F,F,F,F,F,F,F,F,F,F,F,F,F,F,F,F,F,F,F,F,F,F,F,F,F,F,F,F,F,F] rfl rfl (any_of HT_.out (by kernel_rfl)) (fun _ _ _ h => h) (Or.inl ⟨by rfl, ?_⟩) ?_ ?_; rotate_left
                   ·intro w'; go_simp; with_reducible rfl
                   rotate_left
                   ·simp only [Act.put, sA, sB, sC, sD, sE]; rfl
                   refine pure_ (i := 5) (N := some 41) (v := ?_) (a' := ?_) #[T,T,T,T,T,T,F,F,F,F,F,F,F,F,F,F,F,F,F,F,F,F,F,F,F,F,F,F,F,F,F,F,F,F,F,F,F,F,F,F] rfl rfl (any_of HT_.out (by kernel_rfl)) (fun _ _ _ h => h) (Or.inl ⟨by rfl, ?_⟩) ?_ ?_; rotate_left
                   ·intro w'; go_simp; with_reducible rfl
                   rotate_left
                   ·simp only [Act.put, sA, sB, sC, sD, sE]; rfl
                   refine take_ (i := 6) (N := some 42) (v := ?_) (a' := ?_) #[T,T,T,T,T,T,T,F,F,F,F,F,F,F,F,F,F,F,F,F,F,F,F,F,F,F,F,F,F,F,F,F,F,F,F,F,F,F,F,F] rfl rfl (take_ofW HT_.out HW_.out (by kernel_rfl)) (fun _ _ _ h => h) (Or.inl ⟨by rfl, ?_⟩) hHeld ?_ ?_; rotate_left
                   ·rintro w' ⟨s0, s1, s2, s3, s4, s5⟩; go_simp; with_reducible rfl
                   rotate_left
                   ·simp only [Act.put, sA, sB, sC, sD, sE]; rfl
                   refine pure_ (i := 7) (N := some 43) (v := ?_) (a' := ?_) #[T,T,T,T,T,T,T,T,F,F,F,F,F,F,F,F,F,F,F,F,F,F,F,F,F,F,F,F,F,F,F,F,F,F,F,F,F,F,F,F] rfl rfl (any_of HT_.out (by kernel_rfl)) (fun _ _ _ h => h) (Or.inl ⟨by rfl, ?_⟩) ?_ ?_; rotate_left
                   ·intro w'; go_simp; with_reducible rfl
                   rotate_left
                   ·simp only [Act.put, sA, sB, sC, sD, sE]; rfl
                   refine pure_ (i := 8) (N := some 44) (v := ?_) (a' := ?_) #[T,T,T,T,T,T,T,T,T,F,F,F,F,F,F,F,F,F,F,F,F,F,F,F,F,F,F,F,F,F,F,F,F,F,F,F,F,F,F,F] rfl rfl (any_of HT_.out (by kernel_rfl)) (fun _ _ _ h => h) (Or.inl ⟨by rfl, ?_⟩) ?_ ?_; rotate_left
                   ·intro w'; go_simp; with_reducible rfl
                   rotate_left
                   ·simp only [Act.put, sA, sB, sC, sD, sE]; rfl
                   refine pure_ (i := 9) (N := some 45) (v := ?_) (a' := ?_) #[T,T,T,T,T,T,T,T,T,T,F,F,F,F,F,F,F,F,F,F,F,F,F,F,F,F,F,F,F,F,F,F,F,F,F,F,F,F,F,F] rfl rfl (any_of HT_.out (by kernel_rfl)) (fun _ _ _ h => h) (Or.inl ⟨by rfl, ?_⟩) ?_ ?_; rotate_left
                   ·intro w'; go_simp; with_reducible rfl
                   rotate_left
                   ·simp only [Act.put, sA, sB, sC, sD, sE]; rfl
                   refine pure_ (i := 10) (N := some 46) (v := ?_) (a' := ?_) #[T,T,T,T,T,T,T,T,T,T,T,F,F,F,F,F,F,F,F,F,F,F,F,F,F,F,F,F,F,F,F,F,F,F,F,F,F,F,F,F] rfl rfl (any_of HT_.out (by kernel_rfl)) (fun _ _ _ h => h) (Or.inl ⟨by rfl, ?_⟩) ?_ ?_; rotate_left
                   ·intro w'; go_simp; with_reducible rfl
                   rotate_left
                   ·simp only [Act.put, sA, sB, sC, sD, sE]; rfl
                   refine pure_ (i := 11) (N := some 47) (v := ?_) (a' := ?_) #[T,T,T,T,T,T,T,T,T,T,T,T,F,F,F,F,F,F,F,F,F,F,F,F,F,F,F,F,F,F,F,F,F,F,F,F,F,F,F,F] rfl rfl (any_of HT_.out (by kernel_rfl)) (fun _ _ _ h => h) (Or.inl ⟨by rfl, ?_⟩) ?_ ?_; rotate_left
                   ·intro w'; go_simp; with_reducible rfl
                   rotate_left
                   ·simp only [Act.put, sA, sB, sC, sD, sE]; rfl
                   refine pure_ (i := 13) (N := some 49) (v := ?_) (a' := ?_) #[T,T,T,T,T,T,T,T,T,T,T,T,F,T,F,F,F,F,F,F,F,F,F,F,F,F,F,F,F,F,F,F,F,F,F,F,F,F,F,F] rfl rfl (any_of HT_.out (by kernel_rfl)) (fun _ _ _ h => h) (Or.inl ⟨by rfl, ?_⟩) ?_ ?_; rotate_left
                   ·intro w'; go_simp; with_reducible rfl
                   rotate_left
                   ·simp only [Act.put, sA, sB, sC, sD, sE]; rfl
                   refine pure_ (i := 14) (N := some 50) (v := ?_) (a' := ?_) #[T,T,T,T,T,T,T,T,T,T,T,T,F,T,T,F,F,F,F,F,F,F,F,F,F,F,F,F,F,F,F,F,F,F,F,F,F,F,F,F] rfl rfl (any_of HT_.out (by kernel_rfl)) (fun _ _ _ h => h) (Or.inl ⟨by rfl, ?_⟩) ?_ ?_; rotate_left
                   ·intro w'; go_simp; with_reducible rfl
                   rotate_left
                   ·simp only [Act.put, sA, sB, sC, sD, sE]; rfl
                   refine take_ (i := 12) (N := some 48) (v := ?_) (a' := ?_) #[T,T,T,T,T,T,T,T,T,T,T,T,T,T,T,F,F,F,F,F,F,F,F,F,F,F,F,F,F,F,F,F,F,F,F,F,F,F,F,F] rfl rfl (take_ofW HT_.out HW_.out (by kernel_rfl)) (fun _ _ _ h => h) (Or.inl ⟨by rfl, ?_⟩) hHeld ?_ ?_; rotate_left
                   ·rintro w' ⟨s0, s1, s2, s3, s4, s5⟩; go_simp; with_reducible rfl
                   rotate_left
                   ·simp only [Act.put, sA, sB, sC, sD, sE]; rfl
                   refine take_ (i := 15) (N := some 51) (v := ?_) (a' := ?_) #[T,T,T,T,T,T,T,T,T,T,T,T,T,T,T,T,F,F,F,F,F,F,F,F,F,F,F,F,F,F,F,F,F,F,F,F,F,F,F,F] rfl rfl (take_ofW HT_.out HW_.out (by kernel_rfl)) (fun _ _ _ h => h) (Or.inl ⟨by rfl, ?_⟩) hHeld ?_ ?_; rotate_left
                   ·rintro w' ⟨s0, s1, s2, s3, s4, s5⟩; go_simp; with_reducible rfl
                   rotate_left
                   ·simp only [Act.put, sA, sB, sC, sD, sE]; rfl
                   refine pure_ (i := 16) (N := some 52) (v := ?_) (a' := ?_) #[T,T,T,T,T,T,T,T,T,T,T,T,T,T,T,T,T,F,F,F,F,F,F,F,F,F,F,F,F,F,F,F,F,F,F,F,F,F,F,F] rfl rfl (any_of HT_.out (by kernel_rfl)) (fun _ _ _ h => h) (Or.inl ⟨by rfl, ?_⟩) ?_ ?_; rotate_left
                   ·intro w'; go_simp; with_reducible rfl
                   rotate_left
                   ·simp only [Act.put, sA, sB, sC, sD, sE]; rfl
                   refine pure_ (i := 17) (N := some 53) (v := ?_) (a' := ?_) #[T,T,T,T,T,T,T,T,T,T,T,T,T,T,T,T,T,T,F,F,F,F,F,F,F,F,F,F,F,F,F,F,F,F,F,F,F,F,F,F] rfl rfl (any_of HT_.out (by kernel_rfl)) (fun _ _ _ h => h) (Or.inl ⟨by rfl, ?_⟩) ?_ ?_; rotate_left
                   ·intro w'; go_simp; with_reducible rfl
                   rotate_left
                   ·simp only [Act.put, sA, sB, sC, sD, sE]; rfl
                   refine pure_ (i := 18) (N := some 54) (v := ?_) (a' := ?_) #[T,T,T,T,T,T,T,T,T,T,T,T,T,T,T,T,T,T,T,F,F,F,F,F,F,F,F,F,F,F,F,F,F,F,F,F,F,F,F,F] rfl rfl (any_of HT_.out (by kernel_rfl)) (fun _ _ _ h => h) (Or.inl ⟨by rfl, ?_⟩) ?_ ?_; rotate_left
                   ·intro w'; go_simp; with_reducible rfl
                   rotate_left
                   ·simp only [Act.put, sA, sB, sC, sD, sE]; rfl
                   refine pure_ (i := 19) (N := some 55) (v := ?_) (a' := ?_) #[T,T,T,T,T,T,T,T,T,T,T,T,T,T,T,T,T,T,T,T,F,F,F,F,F,F,F,F,F,F,F,F,F,F,F,F,F,F,F,F] rfl rfl (any_of HT_.out (by kernel_rfl)) (fun _ _ _ h => h) (Or.inl ⟨by rfl, ?_⟩) ?_ ?_; rotate_left
                   ·intro w'; go_simp; with_reducible rfl
                   rotate_left
                   ·simp only [Act.put, sA, sB, sC, sD, sE]; rfl
                   refine pure_ (i := 20) (N := some 56) (v := ?_) (a' := ?_) #[T,T,T,T,T,T,T,T,T,T,T,T,T,T,T,T,T,T,T,T,T,F,F,F,F,F,F,F,F,F,F,F,F,F,F,F,F,F,F,F] rfl rfl (any_of HT_.out (by kernel_rfl)) (fun _ _ _ h => h) (Or.inl ⟨by rfl, ?_⟩) ?_ ?_; rotate_left
                   ·intro w'; go_simp; with_reducible rfl
                   rotate_left
                   ·simp only [Act.put, sA, sB, sC, sD, sE]; rfl
                   refine pure_ (i := 22) (N := some 58) (v := ?_) (a' := ?_) #[T,T,T,T,T,T,T,T,T,T,T,T,T,T,T,T,T,T,T,T,T,F,T,F,F,F,F,F,F,F,F,F,F,F,F,F,F,F,F,F] rfl rfl (any_of HT_.out (by kernel_rfl)) (fun _ _ _ h => h) (Or.inl ⟨by rfl, ?_⟩) ?_ ?_; rotate_left
                   ·intro w'; go_simp; with_reducible rfl
                   rotate_left
                   ·simp only [Act.put, sA, sB, sC, sD, sE]; rfl
                   refine pure_ (i := 23) (N := some 59) (v := ?_) (a' := ?_) #[T,T,T,T,T,T,T,T,T,T,T,T,T,T,T,T,T,T,T,T,T,F,T,T,F,F,F,F,F,F,F,F,F,F,F,F,F,F,F,F] rfl rfl (any_of HT_.out (by kernel_rfl)) (fun _ _ _ h => h) (Or.inl ⟨by rfl, ?_⟩) ?_ ?_; rotate_left
                   ·intro w'; go_simp; with_reducible rfl
                   rotate_left
                   ·simp only [Act.put, sA, sB, sC, sD, sE]; rfl
                   refine take_ (i := 21) (N := some 57) (v := ?_) (a' := ?_) #[T,T,T,T,T,T,T,T,T,T,T,T,T,T,T,T,T,T,T,T,T,T,T,T,F,F,F,F,F,F,F,F,F,F,F,F,F,F,F,F] rfl rfl (take_ofW HT_.out HW_.out (by kernel_rfl)) (fun _ _ _ h => h) (Or.inl ⟨by rfl, ?_⟩) hHeld ?_ ?_; rotate_left
                   ·rintro w' ⟨s0, s1, s2, s3, s4, s5⟩; go_simp; with_reducible rfl
                   rotate_left
                   ·simp only [Act.put, sA, sB, sC, sD, sE]; rfl
                   refine take_ (i := 24) (N := some 60) (v := ?_) (a' := ?_) #[T,T,T,T,T,T,T,T,T,T,T,T,T,T,T,T,T,T,T,T,T,T,T,T,T,F,F,F,F,F,F,F,F,F,F,F,F,F,F,F] rfl rfl (take_ofW HT_.out HW_.out (by kernel_rfl)) (fun _ _ _ h => h) (Or.inl ⟨by rfl, ?_⟩) hHeld ?_ ?_; rotate_left
                   ·rintro w' ⟨s0, s1, s2, s3, s4, s5⟩; go_simp; with_reducible rfl
                   rotate_left
                   ·simp only [Act.put, sA, sB, sC, sD, sE]; rfl
                   refine pure_ (i := 25) (N := some 61) (v := ?_) (a' := ?_) #[T,T,T,T,T,T,T,T,T,T,T,T,T,T,T,T,T,T,T,T,T,T,T,T,T,T,F,F,F,F,F,F,F,F,F,F,F,F,F,F] rfl rfl (any_of HT_.out (by kernel_rfl)) (fun _ _ _ h => h) (Or.inl ⟨by rfl, ?_⟩) ?_ ?_; rotate_left
                   ·intro w'; go_simp; with_reducible rfl
                   rotate_left
                   ·simp only [Act.put, sA, sB, sC, sD, sE]; rfl
                   refine pure_ (i := 26) (N := some 62) (v := ?_) (a' := ?_) #[T,T,T,T,T,T,T,T,T,T,T,T,T,T,T,T,T,T,T,T,T,T,T,T,T,T,T,F,F,F,F,F,F,F,F,F,F,F,F,F] rfl rfl (any_of HT_.out (by kernel_rfl)) (fun _ _ _ h => h) (Or.inl ⟨by rfl, ?_⟩) ?_ ?_; rotate_left
                   ·intro w'; go_simp; with_reducible rfl
                   rotate_left
                   ·simp only [Act.put, sA, sB, sC, sD, sE]; rfl
                   refine pure_ (i := 27) (N := some 63) (v := ?_) (a' := ?_) #[T,T,T,T,T,T,T,T,T,T,T,T,T,T,T,T,T,T,T,T,T,T,T,T,T,T,T,T,F,F,F,F,F,F,F,F,F,F,F,F] rfl rfl (any_of HT_.out (by kernel_rfl)) (fun _ _ _ h => h) (Or.inl ⟨by rfl, ?_⟩) ?_ ?_; rotate_left
                   ·intro w'; go_simp; with_reducible rfl
                   rotate_left
                   ·simp only [Act.put, sA, sB, sC, sD, sE]; rfl
                   refine pure_ (i := 28) (N := some 64) (v := ?_) (a' := ?_) #[T,T,T,T,T,T,T,T,T,T,T,T,T,T,T,T,T,T,T,T,T,T,T,T,T,T,T,T,T,F,F,F,F,F,F,F,F,F,F,F] rfl rfl (any_of HT_.out (by kernel_rfl)) (fun _ _ _ h => h) (Or.inl ⟨by rfl, ?_⟩) ?_ ?_; rotate_left
                   ·intro w'; go_simp; with_reducible rfl
                   rotate_left
                   ·simp only [Act.put, sA, sB, sC, sD, sE]; rfl
                   refine pure_ (i := 29) (N := some 65) (v := ?_) (a' := ?_) #[T,T,T,T,T,T,T,T,T,T,T,T,T,T,T,T,T,T,T,T,T,T,T,T,T,T,T,T,T,T,F,F,F,F,F,F,F,F,F,F] rfl rfl (any_of HT_.out (by kernel_rfl)) (fun _ _ _ h => h) (Or.inl ⟨by rfl, ?_⟩) ?_ ?_; rotate_left
                   ·intro w'; go_simp; with_reducible rfl
                   rotate_left
                   ·simp only [Act.put, sA, sB, sC, sD, sE]; rfl
                   refine pure_ (i := 31) (N := some 67) (v := ?_) (a' := ?_) #[T,T,T,T,T,T,T,T,T,T,T,T,T,T,T,T,T,T,T,T,T,T,T,T,T,T,T,T,T,T,F,T,F,F,F,F,F,F,F,F] rfl rfl (any_of HT_.out (by kernel_rfl)) (fun _ _ _ h => h) (Or.inl ⟨by rfl, ?_⟩) ?_ ?_; rotate_left
                   ·intro w'; go_simp; with_reducible rfl
                   rotate_left
                   ·simp only [Act.put, sA, sB, sC, sD, sE]; rfl
                   refine take_ (i := 30) (N := some 66) (v := ?_) (a' := ?_) #[T,T,T,T,T,T,T,T,T,T,T,T,T,T,T,T,T,T,T,T,T,T,T,T,T,T,T,T,T,T,T,T,F,F,F,F,F,F,F,F] rfl rfl (take_ofW HT_.out HW_.out (by kernel_rfl)) (fun _ _ _ h => h) (Or.inl ⟨by rfl, ?_⟩) hHeld ?_ ?_; rotate_left
                   ·rintro w' ⟨s0, s1, s2, s3, s4, s5⟩; go_simp; with_reducible rfl
                   rotate_left
                   ·simp only [Act.put, sA, sB, sC, sD, sE]; rfl
                   refine pure_ (i := 32) (N := some 68) (v := ?_) (a' := ?_) #[T,T,T,T,T,T,T,T,T,T,T,T,T,T,T,T,T,T,T,T,T,T,T,T,T,T,T,T,T,T,T,T,T,F,F,F,F,F,F,F] rfl rfl (any_of HT_.out (by kernel_rfl)) (fun _ _ _ h => h) (Or.inl ⟨by rfl, ?_⟩) ?_ ?_; rotate_left
                   ·intro w'; go_simp; with_reducible rfl
                   rotate_left
                   ·simp only [Act.put, sA, sB, sC, sD, sE]; rfl
                   refine pure_ (i := 33) (N := some 69) (v := ?_) (a' := ?_) #[T,T,T,T,T,T,T,T,T,T,T,T,T,T,T,T,T,T,T,T,T,T,T,T,T,T,T,T,T,T,T,T,T,T,F,F,F,F,F,F] rfl rfl (any_of HT_.out (by kernel_rfl)) (fun _ _ _ h => h) (Or.inl ⟨by rfl, ?_⟩) ?_ ?_; rotate_left
                   ·intro w'; go_simp; with_reducible rfl
                   rotate_left
                   ·simp only [Act.put, sA, sB, sC, sD, sE]; rfl
                   refine pure_ (i := 34) (N := some 70) (v := ?_) (a' := ?_) #[T,T,T,T,T,T,T,T,T,T,T,T,T,T,T,T,T,T,T,T,T,T,T,T,T,T,T,T,T,T,T,T,T,T,T,F,F,F,F,F] rfl rfl (any_of HT_.out (by kernel_rfl)) (fun _ _ _ h => h) (Or.inl ⟨by rfl, ?_⟩) ?_ ?_; rotate_left
                   ·intro w'; go_simp; with_reducible rfl
                   rotate_left
                   ·simp only [Act.put, sA, sB, sC, sD, sE]; rfl
                   refine pure_ (i := 35) (N := some 71) (v := undef) (a' := ?_) #[T,T,T,T,T,T,T,T,T,T,T,T,T,T,T,T,T,T,T,T,T,T,T,T,T,T,T,T,T,T,T,T,T,T,T,T,F,F,F,F] rfl rfl (any_of HT_.out (by kernel_rfl)) (fun _ _ _ h => h) (Or.inr ⟨by rfl, rfl⟩) ?_ ?_; rotate_left
                   ·simp only [Act.put, sA, sB, sC, sD, sE]; rfl
                   refine pure_ (i := 36) (N := some 72) (v := undef) (a' := ?_) #[T,T,T,T,T,T,T,T,T,T,T,T,T,T,T,T,T,T,T,T,T,T,T,T,T,T,T,T,T,T,T,T,T,T,T,T,T,F,F,F] rfl rfl (any_of HT_.out (by kernel_rfl)) (fun _ _ _ h => h) (Or.inr ⟨by rfl, rfl⟩) ?_ ?_; rotate_left
                   ·simp only [Act.put, sA, sB, sC, sD, sE]; rfl
                   refine pure_ (i := 37) (N := some 73) (v := undef) (a' := ?_) #[T,T,T,T,T,T,T,T,T,T,T,T,T,T,T,T,T,T,T,T,T,T,T,T,T,T,T,T,T,T,T,T,T,T,T,T,T,T,F,F] rfl rfl (any_of HT_.out (by kernel_rfl)) (fun _ _ _ h => h) (Or.inr ⟨by rfl, rfl⟩) ?_ ?_; rotate_left
                   ·simp only [Act.put, sA, sB, sC, sD, sE]; rfl
                   refine pure_ (i := 38) (N := some 74) (v := undef) (a' := ?_) #[T,T,T,T,T,T,T,T,T,T,T,T,T,T,T,T,T,T,T,T,T,T,T,T,T,T,T,T,T,T,T,T,T,T,T,T,T,T,T,F] rfl rfl (any_of HT_.out (by kernel_rfl)) (fun _ _ _ h => h) (Or.inr ⟨by rfl, rfl⟩) ?_ ?_; rotate_left
                   ·simp only [Act.put, sA, sB, sC, sD, sE]; rfl
                   refine pure_ (i := 39) (N := some 75) (v := ?_) (a' := ?_) #[T,T,T,T,T,T,T,T,T,T,T,T,T,T,T,T,T,T,T,T,T,T,T,T,T,T,T,T,T,T,T,T,T,T,T,T,T,T,T,T] rfl rfl (any_of HT_.out (by kernel_rfl)) (fun _ _ _ h => h) (Or.inl ⟨by rfl, ?_⟩) ?_ ?_; rotate_left
                   ·intro w'; go_simp; with_reducible rfl
                   rotate_left
                   ·simp only [Act.put, sA, sB, sC, sD, sE]; rfl
                   refine done_ (done_of HT_.out (by kernel_rfl)) ?_
                   try go_wp2
                   go_ret
                   exact ⟨by first | rfl | (simp [errW_none, errW_some] <;> rfl) | (simp only [← hji9]; first | rfl | (simp [errW_none, errW_some] <;> rfl)) | (simp [*, errW_none, errW_some] <;> rfl), by repeat (first | (with_reducible first | exact HB.out | apply bA | apply bD | apply bE) | exact HB.out)⟩
                  ·rw [if_neg c27] at H; have c27b0 : decide ((l0.length : Int) ≤ (rd (rd_L5 l1 x32_2) 2)) = false := decide_eq_false c27; clear c27; replace H := Option.bind_eq_some_iff.mp H; obtain ⟨t112, A290, H⟩ := H; replace H : (if t112 = 0 then (some false) else ((spec_l05Area.f l0 (rd_L5 l1 x32_2)).bind fun t113 => (if 0 ≤ (wrap64 ((wrap64 ((rd (rd_L5 l1 x32_2) 0) * (l0.length : Int))) + (rd (rd_L5 l1 x32_2) 1))) then (if (wrap64 ((wrap64 ((rd (rd_L5 l1 x32_2) 0) * (l0.length : Int))) + (rd (rd_L5 l1 x32_2) 1))) < (x7_2.length : Int) then ((some (x7_2.set ((wrap64 ((wrap64 ((rd (rd_L5 l1 x32_2) 0) * (l0.length : Int))) + (rd (rd_L5 l1 x32_2) 1))) : Int).toNat (wrap64 ((rd x7_2 (wrap64 ((wrap64 ((rd (rd_L5 l1 x32_2) 0) * (l0.length : Int))) + (rd (rd_L5 l1 x32_2) 1)))) + 1)) : List Int)).bind fun y117 => (if 0 ≤ (wrap64 ((wrap64 ((rd (rd_L5 l1 x32_2) 1) * (l0.length : Int))) + (rd (rd_L5 l1 x32_2) 2))) then (if (wrap64 ((wrap64 ((rd (rd_L5 l1 x32_2) 1) * (l0.length : Int))) + (rd (rd_L5 l1 x32_2) 2))) < (x7_2.length : Int) then ((some (y117.set ((wrap64 ((wrap64 ((rd (rd_L5 l1 x32_2) 1) * (l0.length : Int))) + (rd (rd_L5 l1 x32_2) 2))) : Int).toNat (wrap64 ((rd y117 (wrap64 ((wrap64 ((rd (rd_L5 l1 x32_2) 1) * (l0.length : Int))) + (rd (rd_L5 l1 x32_2) 2)))) + 1)) : List Int)).bind fun y121 => (if 0 ≤ (wrap64 ((wrap64 ((rd (rd_L5 l1 x32_2) 0) * (l0.length : Int))) + (rd (rd_L5 l1 x32_2) 2))) then (if (wrap64 ((wrap64 ((rd (rd_L5 l1 x32_2) 0) * (l0.length : Int))) + (rd (rd_L5 l1 x32_2) 2))) < (x7_2.length : Int) then (spec_IsTriangulation.l0 k2 l0 (l0.length : Int) (wrap64 (x6_2 + t113)) (y121.set ((wrap64 ((wrap64 ((rd (rd_L5 l1 x32_2) 0) * (l0.length : Int))) + (rd (rd_L5 l1 x32_2) 2))) : Int).toNat (wrap64 ((rd y121 (wrap64 ((wrap64 ((rd (rd_L5 l1 x32_2) 0) * (l0.length : Int))) + (rd (rd_L5 l1 x32_2) 2)))) + 1))) l1 (l1.length : Int) (wrap64 (x32_2 + 1))) else (none)) else (none))) else (none)) else (none))) else (none)) else (none)))) = some r := H; have A29 := Ak A290; clear A290
                   by_cases c30 : t112 = 0
                   ·rw [if_pos c30] at H; have c30b0 : (t112 == 0) = true := beq_iff_eq.mpr c30; have c30b1 : (t112 != 0) = false := bne_eq_false_iff_eq.mpr c30; clear c30; obtain rfl := Option.some.inj H; have p105 : 0 ≤ (x32_2 : Int) := of_decide_eq_true (by first | (with_reducible assumption) | assumption); have q105 : x32_2 < (l1.length : Int) := of_decide_eq_true (by first | (with_reducible assumption) | assumption); obtain ⟨ad105, A105_0, c105_0, e105, hx105_0, hl105_0, hi105_0⟩ := at_L5 HR1.out x32_2 p105 q105; cases e105; replace hx105_0 := cB HB.out hx105_0; have HR105_0 := Ak hi105_0; have HC105_0 := Ak hl105_0; clear hi105_0 hl105_0; replace p105 := eq_true p105; replace q105 := eq_true q105
                    try go_wp2
                    have n0_ := Ak (Kd.R_drew HO_7.out); have n1_ := Ak (below_drew1 HB.out); clear HO_7 HB; have HO_7 := n0_; have HB := n1_; clear n0_ n1_; have p106 : 0 ≤ (0 : Int) := (by omega); have q106 : 0 < ((rd_L5 l1 x32_2).length : Int) := of_decide_eq_true (by first | (with_reducible assumption) | assumption); obtain ⟨ad106, e106, hx106_0⟩ := Kd.at_int HR105_0.out 0 p106 q106; have hw106_0 := hx106_0; (try rw [show ((0 : Int)).toNat = 0 from rfl] at hw106_0); (try rw [show 0 * 1 = 0 from rfl] at hw106_0); (try rw [Addr.add_zero'] at hw106_0); cases e106; have qi106 : (0 < (rd_L5 l1 x32_2).length) = True := eq_true (by omega); (try rw [show ((0 : Int)).toNat = 0 from rfl] at hx106_0); (try rw [Addr.add_zero'] at hx106_0); replace hx106_0 := cB HB.out hx106_0; replace p106 := eq_true p106; replace q106 := eq_true q106; have p107 : 0 ≤ (0 : Int) := (by omega); have q107 : 0 < ((rd_L5 l1 x32_2).length : Int) := of_decide_eq_true (by first | (with_reducible assumption) | assumption); obtain ⟨ad107, e107, hx107_0⟩ := Kd.at_int HR105_0.out 0 p107 q107; have hw107_0 := hx107_0; (try rw [show ((0 : Int)).toNat = 0 from rfl] at hw107_0); (try rw [show 0 * 1 = 0 from rfl] at hw107_0); (try rw [Addr.add_zero'] at hw107_0); obtain rfl : ad106 = ad107 := (by injection e107); have qi107 : (0 < (rd_L5 l1 x32_2).length) = True := eq_true (by omega); (try rw [show ((0 : Int)).toNat = 0 from rfl] at hx107_0); (try rw [Addr.add_zero'] at hx107_0); replace hx107_0 := cB HB.out hx107_0; replace p107 := eq_true p107; replace q107 := eq_true q107; have p108 : 0 ≤ (1 : Int) := (by omega); have q108 : 1 < ((rd_L5 l1 x32_2).length : Int) := of_decide_eq_true (by first | (with_reducible assumption) | assumption); obtain ⟨ad108, e108, hx108_0⟩ := Kd.at_int HR105_0.out 1 p108 q108; have hw108_0 := hx108_0; (try rw [show ((1 : Int)).toNat = 1 from rfl] at hw108_0); (try rw [show 1 * 1 = 1 from rfl] at hw108_0); (try simp only [Nat.reduceMul, Nat.reduceEqDiff, Go.Addr.add, ↓reduceIte] at hw108_0); obtain rfl : ad106 = ad108 := (by injection e108); (try simp only [show (1 : Int).toNat = 1 from rfl, Nat.reduceMul, Nat.reduceEqDiff, Go.Addr.add, ↓reduceIte] at hx108_0); have qi108 : (1 < (rd_L5 l1 x32_2).length) = True := eq_true (by omega); (try rw [show ((1 : Int)).toNat = 1 from rfl] at hx108_0); replace hx108_0 := cB HB.out hx108_0; replace p108 := eq_true p108; replace q108 := eq_true q108; have p109 : 0 ≤ (1 : Int) := (by omega); have q109 : 1 < ((rd_L5 l1 x32_2).length : Int) := of_decide_eq_true (by first | (with_reducible assumption) | assumption); obtain ⟨ad109, e109, hx109_0⟩ := Kd.at_int HR105_0.out 1 p109 q109; have hw109_0 := hx109_0; (try rw [show ((1 : Int)).toNat = 1 from rfl] at hw109_0); (try rw [show 1 * 1 = 1 from rfl] at hw109_0); (try simp only [Nat.reduceMul, Nat.reduceEqDiff, Go.Addr.add, ↓reduceIte] at hw109_0); obtain rfl : ad106 = ad109 := (by injection e109); (try simp only [show (1 : Int).toNat = 1 from rfl, Nat.reduceMul, Nat.reduceEqDiff, Go.Addr.add, ↓reduceIte] at hx109_0); have qi109 : (1 < (rd_L5 l1 x32_2).length) = True := eq_true (by omega); (try rw [show ((1 : Int)).toNat = 1 from rfl] at hx109_0); replace hx109_0 := cB HB.out hx109_0; replace p109 := eq_true p109; replace q109 := eq_true q109; have p110 : 0 ≤ (2 : Int) := (by omega); have q110 : 2 < ((rd_L5 l1 x32_2).length : Int) := of_decide_eq_true (by first | (with_reducible assumption) | assumption); obtain ⟨ad110, e110, hx110_0⟩ := Kd.at_int HR105_0.out 2 p110 q110; have hw110_0 := hx110_0; (try rw [show ((2 : Int)).toNat = 2 from rfl] at hw110_0); (try rw [show 2 * 1 = 2 from rfl] at hw110_0); (try simp only [Nat.reduceMul, Nat.reduceEqDiff, Go.Addr.add, ↓reduceIte] at hw110_0); obtain rfl : ad106 = ad110 := (by injection e110); (try simp only [show (2 : Int).toNat = 2 from rfl, Nat.reduceMul, Nat.reduceEqDiff, Go.Addr.add, ↓reduceIte] at hx110_0); have qi110 : (2 < (rd_L5 l1 x32_2).length) = True := eq_true (by omega); (try rw [show ((2 : Int)).toNat = 2 from rfl] at hx110_0); replace hx110_0 := cB HB.out hx110_0; replace p110 := eq_true p110; replace q110 := eq_true q110; have p111 : 0 ≤ (2 : Int) := (by omega); have q111 : 2 < ((rd_L5 l1 x32_2).length : Int) := of_decide_eq_true (by first | (with_reducible assumption) | assumption); obtain ⟨ad111, e111, hx111_0⟩ := Kd.at_int HR105_0.out 2 p111 q111; have hw111_0 := hx111_0; (try rw [show ((2 : Int)).toNat = 2 from rfl] at hw111_0); (try rw [show 2 * 1 = 2 from rfl] at hw111_0); (try simp only [Nat.reduceMul, Nat.reduceEqDiff, Go.Addr.add, ↓reduceIte] at hw111_0); obtain rfl : ad106 = ad111 := (by injection e111); (try simp only [show (2 : Int).toNat = 2 from rfl, Nat.reduceMul, Nat.reduceEqDiff, Go.Addr.add, ↓reduceIte] at hx111_0); have qi111 : (2 < (rd_L5 l1 x32_2).length) = True := eq_true (by omega); (try rw [show ((2 : Int)).toNat = 2 from rfl] at hx111_0); replace hx111_0 := cB HB.out hx111_0; replace p111 := eq_true p111; replace q111 := eq_true q111; refine start_ (n := 40) (S := fun w' => w'.cell? ad106 = some (.int .i64 (rd (rd_L5 l1 x32_2) 0)) ∧ w'.cell? ad106 = some (.int .i64 (rd (rd_L5 l1 x32_2) 0)) ∧ w'.cell? ⟨ad106.block, ad106.off + 1, none⟩ = some (.int .i64 (rd (rd_L5 l1 x32_2) 1)) ∧ w'.cell? ⟨ad106.block, ad106.off + 1, none⟩ = some (.int .i64 (rd (rd_L5 l1 x32_2) 1)) ∧ w'.cell? ⟨ad106.block, ad106.off + 2, none⟩ = some (.int .i64 (rd (rd_L5 l1 x32_2) 2)) ∧ w'.cell? ⟨ad106.block, ad106.off + 2, none⟩ = some (.int .i64 (rd (rd_L5 l1 x32_2) 2))) (ds := []) #[F,F,F,F,F,F,F,F,F,F,F,F,F,F,F,F,F,F,F,F,F,F,F,F,F,F,F,F,F,F,F,F,F,F,F,F,F,F,F,F] (by kernel_rfl) rfl rfl ⟨((HB.out.cell (World.block_lt_of_cell? w _ hw106_0)).trans hw106_0), ((HB.out.cell (World.block_lt_of_cell? w _ hw107_0)).trans hw107_0), ((HB.out.cell (World.block_lt_of_cell? w _ hw108_0)).trans hw108_0), ((HB.out.cell (World.block_lt_of_cell? w _ hw109_0)).trans hw109_0), ((HB.out.cell (World.block_lt_of_cell? w _ hw110_0)).trans hw110_0), ((HB.out.cell (World.block_lt_of_cell? w _ hw111_0)).trans hw111_0)⟩ (fun hHeld => ?_); refine with_tabW spec_IsTriangulation.tab9 spec_IsTriangulation.bits9 (fun HT_ HW_ => ?_); generalize wr.drew = w31 at HO_7 HB hx106_0 hx107_0 hx108_0 hx109_0 hx110_0 hx111_0 hHeld ⊢; refine pure_ (i := 0) (N := some 36) (v := ?_) (a' := ?_) #[T,F,F,F,F,F,F,F,F,F,F,F,F,F,F,F,F,F,F,F,F,F,F,F,F,F,F,F,F,F,F,F,F,F,F,F,F,F,F,F] rfl rfl (any_of HT_.out (by kernel_rfl)) (fun _ _ _ h => h) (Or.inl ⟨by rfl, ?_⟩) ?_ ?_; rotate_left
                    ·intro w'; go_simp; with_reducible rfl
                    rotate_left
                    ·simp only [Act.put, sA, sB, sC, sD, sE]; rfl
                    refine pure_ (i := 1) (N := some 37) (v := ?_) (a' := ?_) #[T,T,F,F,F,F,F,F,F,F,F,F,F,F,F,F,F,F,F,F,F,F,F,F,F,F,F,F,F,F,F,F,F,F,F,F,F,F,F,F] rfl rfl (any_of HT_.out (by kernel_rfl)) (fun _ _ _ h => h) (Or.inl ⟨by rfl, ?_⟩) ?_ ?_; rotate_left
                    ·intro w'; go_simp; with_reducible rfl
                    rotate_left
                    ·simp only [Act.put, sA, sB, sC, sD, sE]; rfl
                    refine pure_ (i := 2) (N := some 38) (v := ?_) (a' := ?_) #[T,T,T,F,F,F,F,F,F,F,F,F,F,F,F,F,F,F,F,F,F,F,F,F,F,F,F,F,F,F,F,F,F,F,F,F,F,F,F,F] rfl rfl (any_of HT_.out (by kernel_rfl)) (fun _ _ _ h => h) (Or.inl ⟨by rfl, ?_⟩) ?_ ?_; rotate_left
                    ·intro w'; go_simp; with_reducible rfl
                    rotate_left
                    ·simp only [Act.put, sA, sB, sC, sD, sE]; rfl
                    refine pure_ (i := 3) (N := some 39) (v := ?_) (a' := ?_) #[T,T,T,T,F,F,F,F,F,F,F,F,F,F,F,F,F,F,F,F,F,F,F,F,F,F,F,F,F,F,F,F,F,F,F,F,F,F,F,F] rfl rfl (any_of HT_.out (by kernel_rfl)) (fun _ _ _ h => h) (Or.inl ⟨by rfl, ?_⟩) ?_ ?_; rotate_left
                    ·intro w'; go_simp; with_reducible rfl
                    rotate_left
                    ·simp only [Act.put, sA, sB, sC, sD, sE]; rfl
                    refine pure_ (i := 4) (N := some 40) (v := ?_) (a' := ?_) #[T,T,T,T,T,F,F,F,F,F,F,F,F,F,F,F,F,F,F,F,F,F,F,F,F,F,F,F,F,F,F,F,F,F,F,F,F,F,F,F] rfl rfl (any_of HT_.out (by kernel_rfl)) (fun _ _ _ h => h) (Or.inl ⟨by rfl, ?_⟩) ?_ ?_; rotate_left
                    ·intro w'; go_simp; with_reducible rfl
                    rotate_left
                    ·simp only [Act.put, sA, sB, sC, sD, sE]; rfl
                    refine pure_ (i := 5) (N := some 41) (v := ?_) (a' := ?_) #[T,T,T,T,T,T,F,F,F,F,F,F,F,F,F,F,F,F,F,F,F,F,F,F,F,F,F,F,F,F,F,F,F,F,F,F,F,F,F,F] rfl rfl (any_of HT_.out (by kernel_rfl)) (fun _ _ _ h => h) (Or.inl ⟨by rfl, ?_⟩) ?_ ?_; rotate_left
                    ·intro w'; go_simp; with_reducible rfl
                    rotate_left
                    ·simp only [Act.put, sA, sB, sC, sD, sE]; rfl
                    refine take_ (i := 6) (N := some 42) (v := ?_) (a' := ?_) #[T,T,T,T,T,T,T,F,F,F,F,F,F,F,F,F,F,F,F,F,F,F,F,F,F,F,F,F,F,F,F,F,F,F,F,F,F,F,F,F] rfl rfl (take_ofW HT_.out HW_.out (by kernel_rfl)) (fun _ _ _ h => h) (Or.inl ⟨by rfl, ?_⟩) hHeld ?_ ?_; rotate_left
                    ·rintro w' ⟨s0, s1, s2, s3, s4, s5⟩; go_simp; with_reducible rfl
                    rotate_left
                    ·simp only [Act.put, sA, sB, sC, sD, sE]; rfl
                    refine pure_ (i := 7) (N := some 43) (v := ?_) (a' := ?_) #[T,T,T,T,T,T,T,T,F,F,F,F,F,F,F,F,F,F,F,F,F,F,F,F,F,F,F,F,F,F,F,F,F,F,F,F,F,F,F,F] rfl rfl (any_of HT_.out (by kernel_rfl)) (fun _ _ _ h => h) (Or.inl ⟨by rfl, ?_⟩) ?_ ?_; rotate_left
                    ·intro w'; go_simp; with_reducible rfl
                    rotate_left
                    ·simp only [Act.put, sA, sB, sC, sD, sE]; rfl
                    refine pure_ (i := 8) (N := some 44) (v := ?_) (a' := ?_) #[T,T,T,T,T,T,T,T,T,F,F,F,F,F,F,F,F,F,F,F,F,F,F,F,F,F,F,F,F,F,F,F,F,F,F,F,F,F,F,F] rfl rfl (any_of HT_.out (by kernel_rfl)) (fun _ _ _ h => h) (Or.inl ⟨by rfl, ?_⟩) ?_ ?_; rotate_left
                    ·intro w'; go_simp; with_reducible rfl
                    rotate_left
                    ·simp only [Act.put, sA, sB, sC, sD, sE]; rfl
                    refine pure_ (i := 9) (N := some 45) (v := ?_) (a' := ?_) #[T,T,T,T,T,T,T,T,T,T,F,F,F,F,F,F,F,F,F,F,F,F,F,F,F,F,F,F,F,F,F,F,F,F,F,F,F,F,F,F] rfl rfl (any_of HT_.out (by kernel_rfl)) (fun _ _ _ h => h) (Or.inl ⟨by rfl, ?_⟩) ?_ ?_; rotate_left
                    ·intro w'; go_simp; with_reducible rfl
                    rotate_left
                    ·simp only [Act.put, sA, sB, sC, sD, sE]; rfl
                    refine pure_ (i := 10) (N := some 46) (v := ?_) (a' := ?_) #[T,T,T,T,T,T,T,T,T,T,T,F,F,F,F,F,F,F,F,F,F,F,F,F,F,F,F,F,F,F,F,F,F,F,F,F,F,F,F,F] rfl rfl (any_of HT_.out (by kernel_rfl)) (fun _ _ _ h => h) (Or.inl ⟨by rfl, ?_⟩) ?_ ?_; rotate_left
                    ·intro w'; go_simp; with_reducible rfl
                    rotate_left
                    ·simp only [Act.put, sA, sB, sC, sD, sE]; rfl
                    refine pure_ (i := 11) (N := some 47) (v := ?_) (a' := ?_) #[T,T,T,T,T,T,T,T,T,T,T,T,F,F,F,F,F,F,F,F,F,F,F,F,F,F,F,F,F,F,F,F,F,F,F,F,F,F,F,F] rfl rfl (any_of HT_.out (by kernel_rfl)) (fun _ _ _ h => h) (Or.inl ⟨by rfl, ?_⟩) ?_ ?_; rotate_left
                    ·intro w'; go_simp; with_reducible rfl
                    rotate_left
                    ·simp only [Act.put, sA, sB, sC, sD, sE]; rfl
                    refine pure_ (i := 13) (N := some 49) (v := ?_) (a' := ?_) #[T,T,T,T,T,T,T,T,T,T,T,T,F,T,F,F,F,F,F,F,F,F,F,F,F,F,F,F,F,F,F,F,F,F,F,F,F,F,F,F] rfl rfl (any_of HT_.out (by kernel_rfl)) (fun _ _ _ h => h) (Or.inl ⟨by rfl, ?_⟩) ?_ ?_; rotate_left
                    ·intro w'; go_simp; with_reducible rfl
                    rotate_left
                    ·simp only [Act.put, sA, sB, sC, sD, sE]; rfl
                    refine pure_ (i := 14) (N := some 50) (v := ?_) (a' := ?_) #[T,T,T,T,T,T,T,T,T,T,T,T,F,T,T,F,F,F,F,F,F,F,F,F,F,F,F,F,F,F,F,F,F,F,F,F,F,F,F,F] rfl rfl (any_of HT_.out (by kernel_rfl)) (fun _ _ _ h => h) (Or.inl ⟨by rfl, ?_⟩) ?_ ?_; rotate_left
                    ·intro w'; go_simp; with_reducible rfl
                    rotate_left
                    ·simp only [Act.put, sA, sB, sC, sD, sE]; rfl
                    refine take_ (i := 12) (N := some 48) (v := ?_) (a' := ?_) #[T,T,T,T,T,T,T,T,T,T,T,T,T,T,T,F,F,F,F,F,F,F,F,F,F,F,F,F,F,F,F,F,F,F,F,F,F,F,F,F] rfl rfl (take_ofW HT_.out HW_.out (by kernel_rfl)) (fun _ _ _ h => h) (Or.inl ⟨by rfl, ?_⟩) hHeld ?_ ?_; rotate_left
                    ·rintro w' ⟨s0, s1, s2, s3, s4, s5⟩; go_simp; with_reducible rfl
                    rotate_left
                    ·simp only [Act.put, sA, sB, sC, sD, sE]; rfl
                    refine take_ (i := 15) (N := some 51) (v := ?_) (a' := ?_) #[T,T,T,T,T,T,T,T,T,T,T,T,T,T,T,T,F,F,F,F,F,F,F,F,F,F,F,F,F,F,F,F,F,F,F,F,F,F,F,F] rfl rfl (take_ofW HT_.out HW_.out (by kernel_rfl)) (fun _ _ _ h => h) (Or.inl ⟨by rfl, ?_⟩) hHeld ?_ ?_; rotate_left
                    ·rintro w' ⟨s0, s1, s2, s3, s4, s5⟩; go_simp; with_reducible rfl
                    rotate_left
                    ·simp only [Act.put, sA, sB, sC, sD, sE]; rfl
                    refine pure_ (i := 16) (N := some 52) (v := ?_) (a' := ?_) #[T,T,T,T,T,T,T,T,T,T,T,T,T,T,T,T,T,F,F,F,F,F,F,F,F,F,F,F,F,F,F,F,F,F,F,F,F,F,F,F] rfl rfl (any_of HT_.out (by kernel_rfl)) (fun _ _ _ h => h) (Or.inl ⟨by rfl, ?_⟩) ?_ ?_; rotate_left
                    ·intro w'; go_simp; with_reducible rfl
                    rotate_left
                    ·simp only [Act.put, sA, sB, sC, sD, sE]; rfl
                    refine pure_ (i := 17) (N := some 53) (v := ?_) (a' := ?_) #[T,T,T,T,T,T,T,T,T,T,T,T,T,T,T,T,T,T,F,F,F,F,F,F,F,F,F,F,F,F,F,F,F,F,F,F,F,F,F,F] rfl rfl (any_of HT_.out (by kernel_rfl)) (fun _ _ _ h => h) (Or.inl ⟨by rfl, ?_⟩) ?_ ?_; rotate_left
                    ·intro w'; go_simp; with_reducible rfl
                    rotate_left
                    ·simp only [Act.put, sA, sB, sC, sD, sE]; rfl
                    refine pure_ (i := 18) (N := some 54) (v := ?_) (a' := ?_) #[T,T,T,T,T,T,T,T,T,T,T,T,T,T,T,T,T,T,T,F,F,F,F,F,F,F,F,F,F,F,F,F,F,F,F,F,F,F,F,F] rfl rfl (any_of HT_.out (by kernel_rfl)) (fun _ _ _ h => h) (Or.inl ⟨by rfl, ?_⟩) ?_ ?_; rotate_left
                    ·intro w'; go_simp; with_reducible rfl
                    rotate_left
                    ·simp only [Act.put, sA, sB, sC, sD, sE]; rfl
                    refine pure_ (i := 19) (N := some 55) (v := ?_) (a' := ?_) #[T,T,T,T,T,T,T,T,T,T,T,T,T,T,T,T,T,T,T,T,F,F,F,F,F,F,F,F,F,F,F,F,F,F,F,F,F,F,F,F] rfl rfl (any_of HT_.out (by kernel_rfl)) (fun _ _ _ h => h) (Or.inl ⟨by rfl, ?_⟩) ?_ ?_; rotate_left
                    ·intro w'; go_simp; with_reducible rfl
                    rotate_left
                    ·simp only [Act.put, sA, sB, sC, sD, sE]; rfl
                    refine pure_ (i := 20) (N := some 56) (v := ?_) (a' := ?_) #[T,T,T,T,T,T,T,T,T,T,T,T,T,T,T,T,T,T,T,T,T,F,F,F,F,F,F,F,F,F,F,F,F,F,F,F,F,F,F,F] rfl rfl (any_of HT_.out (by kernel_rfl)) (fun _ _ _ h => h) (Or.inl ⟨by rfl, ?_⟩) ?_ ?_; rotate_left
                    ·intro w'; go_simp; with_reducible rfl
                    rotate_left
                    ·simp only [Act.put, sA, sB, sC, sD, sE]; rfl
                    refine pure_ (i := 22) (N := some 58) (v := ?_) (a' := ?_) #[T,T,T,T,T,T,T,T,T,T,T,T,T,T,T,T,T,T,T,T,T,F,T,F,F,F,F,F,F,F,F,F,F,F,F,F,F,F,F,F] rfl rfl (any_of HT_.out (by kernel_rfl)) (fun _ _ _ h => h) (Or.inl ⟨by rfl, ?_⟩) ?_ ?_; rotate_left
                    ·intro w'; go_simp; with_reducible rfl
                    rotate_left
                    ·simp only [Act.put, sA, sB, sC, sD, sE]; rfl
                    refine pure_ (i := 23) (N := some 59) (v := ?_) (a' := ?_) #[T,T,T,T,T,T,T,T,T,T,T,T,T,T,T,T,T,T,T,T,T,F,T,T,F,F,F,F,F,F,F,F,F,F,F,F,F,F,F,F] rfl rfl (any_of HT_.out (by kernel_rfl)) (fun _ _ _ h => h) (Or.inl ⟨by rfl, ?_⟩) ?_ ?_; rotate_left
                    ·intro w'; go_simp; with_reducible rfl
                    rotate_left
                    ·simp only [Act.put, sA, sB, sC, sD, sE]; rfl
                    refine take_ (i := 21) (N := some 57) (v := ?_) (a' := ?_) #[T,T,T,T,T,T,T,T,T,T,T,T,T,T,T,T,T,T,T,T,T,T,T,T,F,F,F,F,F,F,F,F,F,F,F,F,F,F,F,F] rfl rfl (take_ofW HT_.out HW_.out (by kernel_rfl)) (fun _ _ _ h => h) (Or.inl ⟨by rfl, ?_⟩) hHeld ?_ ?_; rotate_left
                    ·rintro w' ⟨s0, s1, s2, s3, s4, s5⟩; go_simp; with_reducible rfl
                    rotate_left
                    ·simp only [Act.put, sA, sB, sC, sD, sE]; rfl
                    refine take_ (i := 24) (N := some 60) (v := ?_) (a' := ?_) #[T,T,T,T,T,T,T,T,T,T,T,T,T,T,T,T,T,T,T,T,T,T,T,T,T,F,F,F,F,F,F,F,F,F,F,F,F,F,F,F] rfl rfl (take_ofW HT_.out HW_.out (by kernel_rfl)) (fun _ _ _ h => h) (Or.inl ⟨by rfl, ?_⟩) hHeld ?_ ?_; rotate_left
                    ·rintro w' ⟨s0, s1, s2, s3, s4, s5⟩; go_simp; with_reducible rfl
                    rotate_left
                    ·simp only [Act.put, sA, sB, sC, sD, sE]; rfl
                    refine pure_ (i := 25) (N := some 61) (v := ?_) (a' := ?_) #[T,T,T,T,T,T,T,T,T,T,T,T,T,T,T,T,T,T,T,T,T,T,T,T,T,T,F,F,F,F,F,F,F,F,F,F,F,F,F,F] rfl rfl (any_of HT_.out (by kernel_rfl)) (fun _ _ _ h => h) (Or.inl ⟨by rfl, ?_⟩) ?_ ?_; rotate_left
                    ·intro w'; go_simp; with_reducible rfl
                    rotate_left
                    ·simp only [Act.put, sA, sB, sC, sD, sE]; rfl
                    refine pure_ (i := 26) (N := some 62) (v := ?_) (a' := ?_) #[T,T,T,T,T,T,T,T,T,T,T,T,T,T,T,T,T,T,T,T,T,T,T,T,T,T,T,F,F,F,F,F,F,F,F,F,F,F,F,F] rfl rfl (any_of HT_.out (by kernel_rfl)) (fun _ _ _ h => h) (Or.inl ⟨by rfl, ?_⟩) ?_ ?_; rotate_left
                    ·intro w'; go_simp; with_reducible rfl
                    rotate_left
                    ·simp only [Act.put, sA, sB, sC, sD, sE]; rfl
                    refine pure_ (i := 27) (N := some 63) (v := ?_) (a' := ?_) #[T,T,T,T,T,T,T,T,T,T,T,T,T,T,T,T,T,T,T,T,T,T,T,T,T,T,T,T,F,F,F,F,F,F,F,F,F,F,F,F] rfl rfl (any_of HT_.out (by kernel_rfl)) (fun _ _ _ h => h) (Or.inl ⟨by rfl, ?_⟩) ?_ ?_; rotate_left
                    ·intro w'; go_simp; with_reducible rfl
                    rotate_left
                    ·simp only [Act.put, sA, sB, sC, sD, sE]; rfl
                    refine pure_ (i := 28) (N := some 64) (v := ?_) (a' := ?_) #[T,T,T,T,T,T,T,T,T,T,T,T,T,T,T,T,T,T,T,T,T,T,T,T,T,T,T,T,T,F,F,F,F,F,F,F,F,F,F,F] rfl rfl (any_of HT_.out (by kernel_rfl)) (fun _ _ _ h => h) (Or.inl ⟨by rfl, ?_⟩) ?_ ?_; rotate_left
                    ·intro w'; go_simp; with_reducible rfl
                    rotate_left
                    ·simp only [Act.put, sA, sB, sC, sD, sE]; rfl
                    refine pure_ (i := 29) (N := some 65) (v := ?_) (a' := ?_) #[T,T,T,T,T,T,T,T,T,T,T,T,T,T,T,T,T,T,T,T,T,T,T,T,T,T,T,T,T,T,F,F,F,F,F,F,F,F,F,F] rfl rfl (any_of HT_.out (by kernel_rfl)) (fun _ _ _ h => h) (Or.inl ⟨by rfl, ?_⟩) ?_ ?_; rotate_left
                    ·intro w'; go_simp; with_reducible rfl
                    rotate_left
                    ·simp only [Act.put, sA, sB, sC, sD, sE]; rfl
                    refine pure_ (i := 31) (N := some 67) (v := ?_) (a' := ?_) #[T,T,T,T,T,T,T,T,T,T,T,T,T,T,T,T,T,T,T,T,T,T,T,T,T,T,T,T,T,T,F,T,F,F,F,F,F,F,F,F] rfl rfl (any_of HT_.out (by kernel_rfl)) (fun _ _ _ h => h) (Or.inl ⟨by rfl, ?_⟩) ?_ ?_; rotate_left
                    ·intro w'; go_simp; with_reducible rfl
                    rotate_left
                    ·simp only [Act.put, sA, sB, sC, sD, sE]; rfl
                    refine take_ (i := 30) (N := some 66) (v := ?_) (a' := ?_) #[T,T,T,T,T,T,T,T,T,T,T,T,T,T,T,T,T,T,T,T,T,T,T,T,T,T,T,T,T,T,T,T,F,F,F,F,F,F,F,F] rfl rfl (take_ofW HT_.out HW_.out (by kernel_rfl)) (fun _ _ _ h => h) (Or.inl ⟨by rfl, ?_⟩) hHeld ?_ ?_; rotate_left
                    ·rintro w' ⟨s0, s1, s2, s3, s4, s5⟩; go_simp; with_reducible rfl
                    rotate_left
                    ·simp only [Act.put, sA, sB, sC, sD, sE]; rfl
                    refine pure_ (i := 32) (N := some 68) (v := ?_) (a' := ?_) #[T,T,T,T,T,T,T,T,T,T,T,T,T,T,T,T,T,T,T,T,T,T,T,T,T,T,T,T,T,T,T,T,T,F,F,F,F,F,F,F] rfl rfl (any_of HT_.out (by kernel_rfl)) (fun _ _ _ h => h) (Or.inl ⟨by rfl, ?_⟩) ?_ ?_; rotate_left
                    ·intro w'; go_simp; with_reducible rfl
                    rotate_left
                    ·simp only [Act.put, sA, sB, sC, sD, sE]; rfl
                    refine pure_ (i := 33) (N := some 69) (v := ?_) (a' := ?_) #[T,T,T,T,T,T,T,T,T,T,T,T,T,T,T,T,T,T,T,T,T,T,T,T,T,T,T,T,T,T,T,T,T,T,F,F,F,F,F,F] rfl rfl (any_of HT_.out (by kernel_rfl)) (fun _ _ _ h => h) (Or.inl ⟨by rfl, ?_⟩) ?_ ?_; rotate_left
                    ·intro w'; go_simp; with_reducible rfl
                    rotate_left
                    ·simp only [Act.put, sA, sB, sC, sD, sE]; rfl
                    refine pure_ (i := 34) (N := some 70) (v := ?_) (a' := ?_) #[T,T,T,T,T,T,T,T,T,T,T,T,T,T,T,T,T,T,T,T,T,T,T,T,T,T,T,T,T,T,T,T,T,T,T,F,F,F,F,F] rfl rfl (any_of HT_.out (by kernel_rfl)) (fun _ _ _ h => h) (Or.inl ⟨by rfl, ?_⟩) ?_ ?_; rotate_left
                    ·intro w'; go_simp; with_reducible rfl
                    rotate_left
                    ·simp only [Act.put, sA, sB, sC, sD, sE]; rfl
                    refine pure_ (i := 35) (N := some 71) (v := ?_) (a' := ?_) #[T,T,T,T,T,T,T,T,T,T,T,T,T,T,T,T,T,T,T,T,T,T,T,T,T,T,T,T,T,T,T,T,T,T,T,T,F,F,F,F] rfl rfl (any_of HT_.out (by kernel_rfl)) (fun _ _ _ h => h) (Or.inl ⟨by rfl, ?_⟩) ?_ ?_; rotate_left
                    ·intro w'; go_simp; with_reducible rfl
                    rotate_left
                    ·simp only [Act.put, sA, sB, sC, sD, sE]; rfl
                    refine pure_ (i := 36) (N := some 72) (v := ?_) (a' := ?_) #[T,T,T,T,T,T,T,T,T,T,T,T,T,T,T,T,T,T,T,T,T,T,T,T,T,T,T,T,T,T,T,T,T,T,T,T,T,F,F,F] rfl rfl (any_of HT_.out (by kernel_rfl)) (fun _ _ _ h => h) (Or.inl ⟨by rfl, ?_⟩) ?_ ?_; rotate_left
                    ·intro w'; go_simp; with_reducible rfl
                    rotate_left
                    ·simp only [Act.put, sA, sB, sC, sD, sE]; rfl
                    refine one_ (i := 37) (N := some 73) #[T,T,T,T,T,T,T,T,T,T,T,T,T,T,T,T,T,T,T,T,T,T,T,T,T,T,T,T,T,T,T,T,T,T,T,T,T,T,F,F] rfl rfl (one_of HT_.out (by kernel_rfl)) (by decide) (fun K hK => ?_); refine goes_ Try.func78 (by kernel_rfl) rfl #[.slice A0 l0.length c0, .slice (some ad106) (rd_L5 l1 x32_2).length c105_0] (by rfl) rfl rfl (by (try simp only [List.map_toArray, List.map_cons, List.map_nil]); first | done | rfl | (simp only [List.length_drop, List.length_take]; rfl)) ?_
                    with_reducible refine (spec_l05Area.calls _ _ l0 _ _ (rd_L5 l1 x32_2) t112 _ ?side1 ?side2 ?side3 ?side4 A29.out).mono ?_
                    (case side1 => repeat (first | exact (Kd.C_below HR0.out HB.out) | (with_reducible refine Kd.C_alloc ?_ _) | (with_reducible refine Kd.C_drewN ?_ _) | (with_reducible refine Kd.C_drew ?_)))
                    (case side2 => exact HC0.out)
                    (case side3 => repeat (first | exact (Kd.C_below HR105_0.out HB.out) | (with_reducible refine Kd.C_alloc ?_ _) | (with_reducible refine Kd.C_drewN ?_ _) | (with_reducible refine Kd.C_drew ?_)))
                    (case side4 => exact HC105_0.out)
                    rintro e w32 ⟨rfl, hb⟩; refine ⟨_, rfl, ?_⟩; have n0_ := Ak (Kd.R_below (by (with_reducible repeat (first | apply Kd.R_alloc | apply Kd.R_drewN | apply Kd.R_drew)); exact HO_7.out) hb); have n1_ := Ak (below_step (by repeat (first | exact HB.out | apply bA | apply bD | apply bE)) hb); clear HO_7 HB; have HO_7 := n0_; have HB := n1_; clear n0_ n1_; (try clear hb); (try clear hb2); (try clear hk); (try clear hi); refine hK.out _ _ ⟨((HB.out.cell (World.block_lt_of_cell? w _ hw106_0)).trans hw106_0), ((HB.out.cell (World.block_lt_of_cell? w _ hw107_0)).trans hw107_0), ((HB.out.cell (World.block_lt_of_cell? w _ hw108_0)).trans hw108_0), ((HB.out.cell (World.block_lt_of_cell? w _ hw109_0)).trans hw109_0), ((HB.out.cell (World.block_lt_of_cell? w _ hw110_0)).trans hw110_0), ((HB.out.cell (World.block_lt_of_cell? w _ hw111_0)).trans hw111_0)⟩ (fun hHeld => ?_); clear hK K; refine norm_ (a' := ?_) ?_ ?_; rotate_left
                    ·show Act.put _ (some 73) _ = _; simp only [Act.put, sA, sB, sC, sD, sE]; rfl
                    refine pure_ (i := 38) (N := some 74) (v := ?_) (a' := ?_) #[T,T,T,T,T,T,T,T,T,T,T,T,T,T,T,T,T,T,T,T,T,T,T,T,T,T,T,T,T,T,T,T,T,T,T,T,T,T,T,F] rfl rfl (any_of HT_.out (by kernel_rfl)) (fun _ _ _ h => h) (Or.inl ⟨by rfl, ?_⟩) ?_ ?_; rotate_left
                    ·intro w'; go_simp; with_reducible rfl
                    rotate_left
                    ·simp only [Act.put, sA, sB, sC, sD, sE]; rfl
                    refine pure_ (i := 39) (N := some 75) (v := ?_) (a' := ?_) #[T,T,T,T,T,T,T,T,T,T,T,T,T,T,T,T,T,T,T,T,T,T,T,T,T,T,T,T,T,T,T,T,T,T,T,T,T,T,T,T] rfl rfl (any_of HT_.out (by kernel_rfl)) (fun _ _ _ h => h) (Or.inl ⟨by rfl, ?_⟩) ?_ ?_; rotate_left
                    ·intro w'; go_simp; with_reducible rfl
                    rotate_left
                    ·simp only [Act.put, sA, sB, sC, sD, sE]; rfl
                    refine done_ (done_of HT_.out (by kernel_rfl)) ?_
                    try go_wp2
                    go_ret
                    exact ⟨by first | rfl | (simp [errW_none, errW_some] <;> rfl) | (simp only [← hji9]; first | rfl | (simp [errW_none, errW_some] <;> rfl)) | (simp [*, errW_none, errW_some] <;> rfl), by repeat (first | (with_reducible first | exact HB.out | apply bA | apply bD | apply bE) | exact HB.out)⟩
                   ·rw [if_neg c30] at H; have c30b0 : (t112 == 0) = false := beq_eq_false_iff_ne.mpr c30; have c30b1 : (t112 != 0) = true := bne_iff_ne.mpr c30; replace H := Option.bind_eq_some_iff.mp H; obtain ⟨t113, A330, H⟩ := H; replace H : (if 0 ≤ (wrap64 ((wrap64 ((rd (rd_L5 l1 x32_2) 0) * (l0.length : Int))) + (rd (rd_L5 l1 x32_2) 1))) then (if (wrap64 ((wrap64 ((rd (rd_L5 l1 x32_2) 0) * (l0.length : Int))) + (rd (rd_L5 l1 x32_2) 1))) < (x7_2.length : Int) then ((some (x7_2.set ((wrap64 ((wrap64 ((rd (rd_L5 l1 x32_2) 0) * (l0.length : Int))) + (rd (rd_L5 l1 x32_2) 1))) : Int).toNat (wrap64 ((rd x7_2 (wrap64 ((wrap64 ((rd (rd_L5 l1 x32_2) 0) * (l0.length : Int))) + (rd (rd_L5 l1 x32_2) 1)))) + 1)) : List Int)).bind fun y117 => (if 0 ≤ (wrap64 ((wrap64 ((rd (rd_L5 l1 x32_2) 1) * (l0.length : Int))) + (rd (rd_L5 l1 x32_2) 2))) then (if (wrap64 ((wrap64 ((rd (rd_L5 l1 x32_2) 1) * (l0.length : Int))) + (rd (rd_L5 l1 x32_2) 2))) < (x7_2.length : Int) then ((some (y117.set ((wrap64 ((wrap64 ((rd (rd_L5 l1 x32_2) 1) * (l0.length : Int))) + (rd (rd_L5 l1 x32_2) 2))) : Int).toNat (wrap64 ((rd y117 (wrap64 ((wrap64 ((rd (rd_L5 l1 x32_2) 1) * (l0.length : Int))) + (rd (rd_L5 l1 x32_2) 2)))) + 1)) : List Int)).bind fun y121 => (if 0 ≤ (wrap64 ((wrap64 ((rd (rd_L5 l1 x32_2) 0) * (l0.length : Int))) + (rd (rd_L5 l1 x32_2) 2))) then (if (wrap64 ((wrap64 ((rd (rd_L5 l1 x32_2) 0) * (l0.length : Int))) + (rd (rd_L5 l1 x32_2) 2))) < (x7_2.length : Int) then (spec_IsTriangulation.l0 k2 l0 (l0.length : Int) (wrap64 (x6_2 + t113)) (y121.set ((wrap64 ((wrap64 ((rd (rd_L5 l1 x32_2) 0) * (l0.length : Int))) + (rd (rd_L5 l1 x32_2) 2))) : Int).toNat (wrap64 ((rd y121 (wrap64 ((wrap64 ((rd (rd_L5 l1 x32_2) 0) * (l0.length : Int))) + (rd (rd_L5 l1 x32_2) 2)))) + 1))) l1 (l1.length : Int) (wrap64 (x32_2 + 1))) else (none)) else (none))) else (none)) else (none))) else (none)) else (none)) = some r := H; have A33 := Ak A330; clear A330; obtain ⟨ji34, hji34⟩ : ∃ j_ : Int, (wrap64 ((wrap64 ((rd (rd_L5 l1 x32_2) 0) * (l0.length : Int))) + (rd (rd_L5 l1 x32_2) 1))) = j_ := ⟨_, rfl⟩; replace H : (if 0 ≤ (ji34) then (if (ji34) < (x7_2.length : Int) then ((some (x7_2.set ((ji34) : Int).toNat (wrap64 ((rd x7_2 (ji34)) + 1)) : List Int)).bind fun y117 => (if 0 ≤ (wrap64 ((wrap64 ((rd (rd_L5 l1 x32_2) 1) * (l0.length : Int))) + (rd (rd_L5 l1 x32_2) 2))) then (if (wrap64 ((wrap64 ((rd (rd_L5 l1 x32_2) 1) * (l0.length : Int))) + (rd (rd_L5 l1 x32_2) 2))) < (x7_2.length : Int) then ((some (y117.set ((wrap64 ((wrap64 ((rd (rd_L5 l1 x32_2) 1) * (l0.length : Int))) + (rd (rd_L5 l1 x32_2) 2))) : Int).toNat (wrap64 ((rd y117 (wrap64 ((wrap64 ((rd (rd_L5 l1 x32_2) 1) * (l0.length : Int))) + (rd (rd_L5 l1 x32_2) 2)))) + 1)) : List Int)).bind fun y121 => (if 0 ≤ (wrap64 ((wrap64 ((rd (rd_L5 l1 x32_2) 0) * (l0.length : Int))) + (rd (rd_L5 l1 x32_2) 2))) then (if (wrap64 ((wrap64 ((rd (rd_L5 l1 x32_2) 0) * (l0.length : Int))) + (rd (rd_L5 l1 x32_2) 2))) < (x7_2.length : Int) then (spec_IsTriangulation.l0 k2 l0 (l0.length : Int) (wrap64 (x6_2 + t113)) (y121.set ((wrap64 ((wrap64 ((rd (rd_L5 l1 x32_2) 0) * (l0.length : Int))) + (rd (rd_L5 l1 x32_2) 2))) : Int).toNat (wrap64 ((rd y121 (wrap64 ((wrap64 ((rd (rd_L5 l1 x32_2) 0) * (l0.length : Int))) + (rd (rd_L5 l1 x32_2) 2)))) + 1))) l1 (l1.length : Int) (wrap64 (x32_2 + 1))) else (none)) else (none))) else (none)) else (none))) else (none)) else (none)) = some r := by first | (rw [hji34] at H; exact H) | (simp only [hji34] at H ⊢; exact H)
                    (try rw [hji34] at A29); (try rw [hji34] at A33); have hji34w : (IntKind.i64.wrap ((wrap64 ((rd (rd_L5 l1 x32_2) 0) * (l0.length : Int))) + (rd (rd_L5 l1 x32_2) 1))) = ji34 := (i64_w _).trans hji34
                    by_cases c35 : 0 ≤ (ji34)
                    ·rw [if_pos c35] at H; have c35b0 : decide (0 ≤ (ji34)) = true := decide_eq_true c35; clear c35
                     by_cases c36 : (ji34) < (x7_2.length : Int)
                     ·rw [if_pos c36] at H; have c36b0 : decide ((ji34) < (x7_2.length : Int)) = true := decide_eq_true c36; clear c36; obtain ⟨y117, hy117⟩ : ∃ y_ : List Int, y_ = (x7_2.set ((ji34) : Int).toNat (wrap64 ((rd x7_2 (ji34)) + 1))) := ⟨_, rfl⟩; replace H : (if 0 ≤ (wrap64 ((wrap64 ((rd (rd_L5 l1 x32_2) 1) * (l0.length : Int))) + (rd (rd_L5 l1 x32_2) 2))) then (if (wrap64 ((wrap64 ((rd (rd_L5 l1 x32_2) 1) * (l0.length : Int))) + (rd (rd_L5 l1 x32_2) 2))) < (x7_2.length : Int) then ((some (y117.set ((wrap64 ((wrap64 ((rd (rd_L5 l1 x32_2) 1) * (l0.length : Int))) + (rd (rd_L5 l1 x32_2) 2))) : Int).toNat (wrap64 ((rd y117 (wrap64 ((wrap64 ((rd (rd_L5 l1 x32_2) 1) * (l0.length : Int))) + (rd (rd_L5 l1 x32_2) 2)))) + 1)) : List Int)).bind fun y121 => (if 0 ≤ (wrap64 ((wrap64 ((rd (rd_L5 l1 x32_2) 0) * (l0.length : Int))) + (rd (rd_L5 l1 x32_2) 2))) then (if (wrap64 ((wrap64 ((rd (rd_L5 l1 x32_2) 0) * (l0.length : Int))) + (rd (rd_L5 l1 x32_2) 2))) < (x7_2.length : Int) then (spec_IsTriangulation.l0 k2 l0 (l0.length : Int) (wrap64 (x6_2 + t113)) (y121.set ((wrap64 ((wrap64 ((rd (rd_L5 l1 x32_2) 0) * (l0.length : Int))) + (rd (rd_L5 l1 x32_2) 2))) : Int).toNat (wrap64 ((rd y121 (wrap64 ((wrap64 ((rd (rd_L5 l1 x32_2) 0) * (l0.length : Int))) + (rd (rd_L5 l1 x32_2) 2)))) + 1))) l1 (l1.length : Int) (wrap64 (x32_2 + 1))) else (none)) else (none))) else (none)) else (none)) = some r := by first | (rw [hy117]; exact H) | exact H
                      have Ny117 := Ak hy117; clear hy117; obtain ⟨ji38, hji38⟩ : ∃ j_ : Int, (wrap64 ((wrap64 ((rd (rd_L5 l1 x32_2) 1) * (l0.length : Int))) + (rd (rd_L5 l1 x32_2) 2))) = j_ := ⟨_, rfl⟩; replace H : (if 0 ≤ (ji38) then (if (ji38) < (x7_2.length : Int) then ((some (y117.set ((ji38) : Int).toNat (wrap64 ((rd y117 (ji38)) + 1)) : List Int)).bind fun y121 => (if 0 ≤ (wrap64 ((wrap64 ((rd (rd_L5 l1 x32_2) 0) * (l0.length : Int))) + (rd (rd_L5 l1 x32_2) 2))) then (if (wrap64 ((wrap64 ((rd (rd_L5 l1 x32_2) 0) * (l0.length : Int))) + (rd (rd_L5 l1 x32_2) 2))) < (x7_2.length : Int) then (spec_IsTriangulation.l0 k2 l0 (l0.length : Int) (wrap64 (x6_2 + t113)) (y121.set ((wrap64 ((wrap64 ((rd (rd_L5 l1 x32_2) 0) * (l0.length : Int))) + (rd (rd_L5 l1 x32_2) 2))) : Int).toNat (wrap64 ((rd y121 (wrap64 ((wrap64 ((rd (rd_L5 l1 x32_2) 0) * (l0.length : Int))) + (rd (rd_L5 l1 x32_2) 2)))) + 1))) l1 (l1.length : Int) (wrap64 (x32_2 + 1))) else (none)) else (none))) else (none)) else (none)) = some r := by first | (rw [hji38] at H; exact H) | (simp only [hji38] at H ⊢; exact H)
                      (try rw [hji38] at A29); (try rw [hji38] at A33); have hji38w : (IntKind.i64.wrap ((wrap64 ((rd (rd_L5 l1 x32_2) 1) * (l0.length : Int))) + (rd (rd_L5 l1 x32_2) 2))) = ji38 := (i64_w _).trans hji38
                      by_cases c39 : 0 ≤ (ji38)
                      ·rw [if_pos c39] at H; have c39b0 : decide (0 ≤ (ji38)) = true := decide_eq_true c39; clear c39
                       by_cases c40 : (ji38) < (x7_2.length : Int)
                       ·rw [if_pos c40] at H; have c40b0 : decide ((ji38) < (x7_2.length : Int)) = true := decide_eq_true c40; clear c40; obtain ⟨y121, hy121⟩ : ∃ y_ : List Int, y_ = (y117.set ((ji38) : Int).toNat (wrap64 ((rd y117 (ji38)) + 1))) := ⟨_, rfl⟩; replace H : (if 0 ≤ (wrap64 ((wrap64 ((rd (rd_L5 l1 x32_2) 0) * (l0.length : Int))) + (rd (rd_L5 l1 x32_2) 2))) then (if (wrap64 ((wrap64 ((rd (rd_L5 l1 x32_2) 0) * (l0.length : Int))) + (rd (rd_L5 l1 x32_2) 2))) < (x7_2.length : Int) then (spec_IsTriangulation.l0 k2 l0 (l0.length : Int) (wrap64 (x6_2 + t113)) (y121.set ((wrap64 ((wrap64 ((rd (rd_L5 l1 x32_2) 0) * (l0.length : Int))) + (rd (rd_L5 l1 x32_2) 2))) : Int).toNat (wrap64 ((rd y121 (wrap64 ((wrap64 ((rd (rd_L5 l1 x32_2) 0) * (l0.length : Int))) + (rd (rd_L5 l1 x32_2) 2)))) + 1))) l1 (l1.length : Int) (wrap64 (x32_2 + 1))) else (none)) else (none)) = some r := by first | (rw [hy121]; exact H) | exact H
                        have Ny121 := Ak hy121; clear hy121; obtain ⟨ji42, hji42⟩ : ∃ j_ : Int, (wrap64 ((wrap64 ((rd (rd_L5 l1 x32_2) 0) * (l0.length : Int))) + (rd (rd_L5 l1 x32_2) 2))) = j_ := ⟨_, rfl⟩; replace H : (if 0 ≤ (ji42) then (if (ji42) < (x7_2.length : Int) then (spec_IsTriangulation.l0 k2 l0 (l0.length : Int) (wrap64 (x6_2 + t113)) (y121.set ((ji42) : Int).toNat (wrap64 ((rd y121 (ji42)) + 1))) l1 (l1.length : Int) (wrap64 (x32_2 + 1))) else (none)) else (none)) = some r := by first | (rw [hji42] at H; exact H) | (simp only [hji42] at H ⊢; exact H)
                        (try rw [hji42] at A29); (try rw [hji42] at A33); have hji42w : (IntKind.i64.wrap ((wrap64 ((rd (rd_L5 l1 x32_2) 0) * (l0.length : Int))) + (rd (rd_L5 l1 x32_2) 2))) = ji42 := (i64_w _).trans hji42
                        by_cases c43 : 0 ≤ (ji42)
                        ·rw [if_pos c43] at H; have c43b0 : decide (0 ≤ (ji42)) = true := decide_eq_true c43; clear c43
                         by_cases c44 : (ji42) < (x7_2.length : Int)
                         ·rw [if_pos c44] at H; have c44b0 : decide ((ji42) < (x7_2.length : Int)) = true := decide_eq_true c44; clear c44; obtain ⟨y125, hy125⟩ : ∃ y_ : List Int, y_ = (y121.set ((ji42) : Int).toNat (wrap64 ((rd y121 (ji42)) + 1))) := ⟨_, rfl⟩; replace H : (spec_IsTriangulation.l0 k2 l0 (l0.length : Int) (wrap64 (x6_2 + t113)) y125 l1 (l1.length : Int) (wrap64 (x32_2 + 1))) = some r := by first | (rw [hy125]; exact H) | exact H
                          have Ny125 := Ak hy125; clear hy125; have H' := Ak H; clear H; have p105 : 0 ≤ (x32_2 : Int) := of_decide_eq_true (by first | (with_reducible assumption) | assumption); have q105 : x32_2 < (l1.length : Int) := of_decide_eq_true (by first | (with_reducible assumption) | assumption); obtain ⟨ad105, A105_0, c105_0, e105, hx105_0, hl105_0, hi105_0⟩ := at_L5 HR1.out x32_2 p105 q105; cases e105; replace hx105_0 := cB HB.out hx105_0; have HR105_0 := Ak hi105_0; have HC105_0 := Ak hl105_0; clear hi105_0 hl105_0; replace p105 := eq_true p105; replace q105 := eq_true q105
                          try go_wp2
                          have n0_ := Ak (Kd.R_drew HO_7.out); have n1_ := Ak (below_drew1 HB.out); clear HO_7 HB; have HO_7 := n0_; have HB := n1_; clear n0_ n1_; have p106 : 0 ≤ (0 : Int) := (by omega); have q106 : 0 < ((rd_L5 l1 x32_2).length : Int) := of_decide_eq_true (by first | (with_reducible assumption) | assumption); obtain ⟨ad106, e106, hx106_0⟩ := Kd.at_int HR105_0.out 0 p106 q106; have hw106_0 := hx106_0; (try rw [show ((0 : Int)).toNat = 0 from rfl] at hw106_0); (try rw [show 0 * 1 = 0 from rfl] at hw106_0); (try rw [Addr.add_zero'] at hw106_0); cases e106; have qi106 : (0 < (rd_L5 l1 x32_2).length) = True := eq_true (by omega); (try rw [show ((0 : Int)).toNat = 0 from rfl] at hx106_0); (try rw [Addr.add_zero'] at hx106_0); replace hx106_0 := cB HB.out hx106_0; replace p106 := eq_true p106; replace q106 := eq_true q106; have p107 : 0 ≤ (0 : Int) := (by omega); have q107 : 0 < ((rd_L5 l1 x32_2).length : Int) := of_decide_eq_true (by first | (with_reducible assumption) | assumption); obtain ⟨ad107, e107, hx107_0⟩ := Kd.at_int HR105_0.out 0 p107 q107; have hw107_0 := hx107_0; (try rw [show ((0 : Int)).toNat = 0 from rfl] at hw107_0); (try rw [show 0 * 1 = 0 from rfl] at hw107_0); (try rw [Addr.add_zero'] at hw107_0); obtain rfl : ad106 = ad107 := (by injection e107); have qi107 : (0 < (rd_L5 l1 x32_2).length) = True := eq_true (by omega); (try rw [show ((0 : Int)).toNat = 0 from rfl] at hx107_0); (try rw [Addr.add_zero'] at hx107_0); replace hx107_0 := cB HB.out hx107_0; replace p107 := eq_true p107; replace q107 := eq_true q107; have p108 : 0 ≤ (1 : Int) := (by omega); have q108 : 1 < ((rd_L5 l1 x32_2).length : Int) := of_decide_eq_true (by first | (with_reducible assumption) | assumption); obtain ⟨ad108, e108, hx108_0⟩ := Kd.at_int HR105_0.out 1 p108 q108; have hw108_0 := hx108_0; (try rw [show ((1 : Int)).toNat = 1 from rfl] at hw108_0); (try rw [show 1 * 1 = 1 from rfl] at hw108_0); (try simp only [Nat.reduceMul, Nat.reduceEqDiff, Go.Addr.add, ↓reduceIte] at hw108_0); obtain rfl : ad106 = ad108 := (by injection e108); (try simp only [show (1 : Int).toNat = 1 from rfl, Nat.reduceMul, Nat.reduceEqDiff, Go.Addr.add, ↓reduceIte] at hx108_0); have qi108 : (1 < (rd_L5 l1 x32_2).length) = True := eq_true (by omega); (try rw [show ((1 : Int)).toNat = 1 from rfl] at hx108_0); replace hx108_0 := cB HB.out hx108_0; replace p108 := eq_true p108; replace q108 := eq_true q108; have p109 : 0 ≤ (1 : Int) := (by omega); have q109 : 1 < ((rd_L5 l1 x32_2).length : Int) := of_decide_eq_true (by first | (with_reducible assumption) | assumption); obtain ⟨ad109, e109, hx109_0⟩ := Kd.at_int HR105_0.out 1 p109 q109; have hw109_0 := hx109_0; (try rw [show ((1 : Int)).toNat = 1 from rfl] at hw109_0); (try rw [show 1 * 1 = 1 from rfl] at hw109_0); (try simp only [Nat.reduceMul, Nat.reduceEqDiff, Go.Addr.add, ↓reduceIte] at hw109_0); obtain rfl : ad106 = ad109 := (by injection e109); (try simp only [show (1 : Int).toNat = 1 from rfl, Nat.reduceMul, Nat.reduceEqDiff, Go.Addr.add, ↓reduceIte] at hx109_0); have qi109 : (1 < (rd_L5 l1 x32_2).length) = True := eq_true (by omega); (try rw [show ((1 : Int)).toNat = 1 from rfl] at hx109_0); replace hx109_0 := cB HB.out hx109_0; replace p109 := eq_true p109; replace q109 := eq_true q109; have p110 : 0 ≤ (2 : Int) := (by omega); have q110 : 2 < ((rd_L5 l1 x32_2).length : Int) := of_decide_eq_true (by first | (with_reducible assumption) | assumption); obtain ⟨ad110, e110, hx110_0⟩ := Kd.at_int HR105_0.out 2 p110 q110; have hw110_0 := hx110_0; (try rw [show ((2 : Int)).toNat = 2 from rfl] at hw110_0); (try rw [show 2 * 1 = 2 from rfl] at hw110_0); (try simp only [Nat.reduceMul, Nat.reduceEqDiff, Go.Addr.add, ↓reduceIte] at hw110_0); obtain rfl : ad106 = ad110 := (by injection e110); (try simp only [show (2 : Int).toNat = 2 from rfl, Nat.reduceMul, Nat.reduceEqDiff, Go.Addr.add, ↓reduceIte] at hx110_0); have qi110 : (2 < (rd_L5 l1 x32_2).length) = True := eq_true (by omega); (try rw [show ((2 : Int)).toNat = 2 from rfl] at hx110_0); replace hx110_0 := cB HB.out hx110_0; replace p110 := eq_true p110; replace q110 := eq_true q110; have p111 : 0 ≤ (2 : Int) := (by omega); have q111 : 2 < ((rd_L5 l1 x32_2).length : Int) := of_decide_eq_true (by first | (with_reducible assumption) | assumption); obtain ⟨ad111, e111, hx111_0⟩ := Kd.at_int HR105_0.out 2 p111 q111; have hw111_0 := hx111_0; (try rw [show ((2 : Int)).toNat = 2 from rfl] at hw111_0); (try rw [show 2 * 1 = 2 from rfl] at hw111_0); (try simp only [Nat.reduceMul, Nat.reduceEqDiff, Go.Addr.add, ↓reduceIte] at hw111_0); obtain rfl : ad106 = ad111 := (by injection e111); (try simp only [show (2 : Int).toNat = 2 from rfl, Nat.reduceMul, Nat.reduceEqDiff, Go.Addr.add, ↓reduceIte] at hx111_0); have qi111 : (2 < (rd_L5 l1 x32_2).length) = True := eq_true (by omega); (try rw [show ((2 : Int)).toNat = 2 from rfl] at hx111_0); replace hx111_0 := cB HB.out hx111_0; replace p111 := eq_true p111; replace q111 := eq_true q111; refine start_ (n := 40) (S := fun w' => w'.cell? ad106 = some (.int .i64 (rd (rd_L5 l1 x32_2) 0)) ∧ w'.cell? ad106 = some (.int .i64 (rd (rd_L5 l1 x32_2) 0)) ∧ w'.cell? ⟨ad106.block, ad106.off + 1, none⟩ = some (.int .i64 (rd (rd_L5 l1 x32_2) 1)) ∧ w'.cell? ⟨ad106.block, ad106.off + 1, none⟩ = some (.int .i64 (rd (rd_L5 l1 x32_2) 1)) ∧ w'.cell? ⟨ad106.block, ad106.off + 2, none⟩ = some (.int .i64 (rd (rd_L5 l1 x32_2) 2)) ∧ w'.cell? ⟨ad106.block, ad106.off + 2, none⟩ = some (.int .i64 (rd (rd_L5 l1 x32_2) 2))) (ds := []) #[F,F,F,F,F,F,F,F,F,F,F,F,F,F,F,F,F,F,F,F,F,F,F,F,F,F,F,F,F,F,F,F,F,F,F,F,F,F,F,F] (by kernel_rfl) rfl rfl ⟨((HB.out.cell (World.block_lt_of_cell? w _ hw106_0)).trans hw106_0), ((HB.out.cell (World.block_lt_of_cell? w _ hw107_0)).trans hw107_0), ((HB.out.cell (World.block_lt_of_cell? w _ hw108_0)).trans hw108_0), ((HB.out.cell (World.block_lt_of_cell? w _ hw109_0)).trans hw109_0), ((HB.out.cell (World.block_lt_of_cell? w _ hw110_0)).trans hw110_0), ((HB.out.cell (World.block_lt_of_cell? w _ hw111_0)).trans hw111_0)⟩ (fun hHeld => ?_); refine with_tabW spec_IsTriangulation.tab9 spec_IsTriangulation.bits9 (fun HT_ HW_ => ?_); generalize wr.drew = w46 at HO_7 HB hx106_0 hx107_0 hx108_0 hx109_0 hx110_0 hx111_0 hHeld ⊢; refine pure_ (i := 0) (N := some 36) (v := ?_) (a' := ?_) #[T,F,F,F,F,F,F,F,F,F,F,F,F,F,F,F,F,F,F,F,F,F,F,F,F,F,F,F,F,F,F,F,F,F,F,F,F,F,F,F] rfl rfl (any_of HT_.out (by kernel_rfl)) (fun _ _ _ h => h) (Or.inl ⟨by rfl, ?_⟩) ?_ ?_; rotate_left
                          ·intro w'; go_simp; with_reducible rfl
                          rotate_left
                          ·simp only [Act.put, sA, sB, sC, sD, sE]; rfl
                          refine pure_ (i := 1) (N := some 37) (v := ?_) (a' := ?_) #[T,T,F,F,F,F,F,F,F,F,F,F,F,F,F,F,F,F,F,F,F,F,F,F,F,F,F,F,F,F,F,F,F,F,F,F,F,F,F,F] rfl rfl (any_of HT_.out (by kernel_rfl)) (fun _ _ _ h => h) (Or.inl ⟨by rfl, ?_⟩) ?_ ?_; rotate_left
                          ·intro w'; go_simp; with_reducible rfl
                          rotate_left
                          ·simp only [Act.put, sA, sB, sC, sD, sE]; rfl
                          refine pure_ (i := 2) (N := some 38) (v := ?_) (a' := ?_) #[T,T,T,F,F,F,F,F,F,F,F,F,F,F,F,F,F,F,F,F,F,F,F,F,F,F,F,F,F,F,F,F,F,F,F,F,F,F,F,F] rfl rfl (any_of HT_.out (by kernel_rfl)) (fun _ _ _ h => h) (Or.inl ⟨by rfl, ?_⟩) ?_ ?_; rotate_left
                          ·intro w'; go_simp; with_reducible rfl
                          rotate_left
                          ·simp only [Act.put, sA, sB, sC, sD, sE]; rfl
                          refine pure_ (i := 3) (N := some 39) (v := ?_) (a' := ?_) #[T,T,T,T,F,F,F,F,F,F,F,F,F,F,F,F,F,F,F,F,F,F,F,F,F,F,F,F,F,F,F,F,F,F,F,F,F,F,F,F] rfl rfl (any_of HT_.out (by kernel_rfl)) (fun _ _ _ h => h) (Or.inl ⟨by rfl, ?_⟩) ?_ ?_; rotate_left
                          ·intro w'; go_simp; with_reducible rfl
                          rotate_left
                          ·simp only [Act.put, sA, sB, sC, sD, sE]; rfl
                          refine pure_ (i := 4) (N := some 40) (v := ?_) (a' := ?_) #[T,T,T,T,T,F,F,F,F,F,F,F,F,F,F,F,F,F,F,F,F,F,F,F,F,F,F,F,F,F,F,F,F,F,F,F,F,F,F,F] rfl rfl (any_of HT_.out (by kernel_rfl)) (fun _ _ _ h => h) (Or.inl ⟨by rfl, ?_⟩) ?_ ?_; rotate_left
                          ·intro w'; go_simp; with_reducible rfl
                          rotate_left
                          ·simp only [Act.put, sA, sB, sC, sD, sE]; rfl
                          refine pure_ (i := 5) (N := some 41) (v := ?_) (a' := ?_) #[T,T,T,T,T,T,F,F,F,F,F,F,F,F,F,F,F,F,F,F,F,F,F,F,F,F,F,F,F,F,F,F,F,F,F,F,F,F,F,F] rfl rfl (any_of HT_.out (by kernel_rfl)) (fun _ _ _ h => h) (Or.inl ⟨by rfl, ?_⟩) ?_ ?_; rotate_left
                          ·intro w'; go_simp; with_reducible rfl
                          rotate_left
                          ·simp only [Act.put, sA, sB, sC, sD, sE]; rfl
                          refine take_ (i := 6) (N := some 42) (v := ?_) (a' := ?_) #[T,T,T,T,T,T,T,F,F,F,F,F,F,F,F,F,F,F,F,F,F,F,F,F,F,F,F,F,F,F,F,F,F,F,F,F,F,F,F,F] rfl rfl (take_ofW HT_.out HW_.out (by kernel_rfl)) (fun _ _ _ h => h) (Or.inl ⟨by rfl, ?_⟩) hHeld ?_ ?_; rotate_left
                          ·rintro w' ⟨s0, s1, s2, s3, s4, s5⟩; go_simp; with_reducible rfl
                          rotate_left
                          ·simp only [Act.put, sA, sB, sC, sD, sE]; rfl
                          refine pure_ (i := 7) (N := some 43) (v := ?_) (a' := ?_) #[T,T,T,T,T,T,T,T,F,F,F,F,F,F,F,F,F,F,F,F,F,F,F,F,F,F,F,F,F,F,F,F,F,F,F,F,F,F,F,F] rfl rfl (any_of HT_.out (by kernel_rfl)) (fun _ _ _ h => h) (Or.inl ⟨by rfl, ?_⟩) ?_ ?_; rotate_left
                          ·intro w'; go_simp; with_reducible rfl
                          rotate_left
                          ·simp only [Act.put, sA, sB, sC, sD, sE]; rfl
                          refine pure_ (i := 8) (N := some 44) (v := ?_) (a' := ?_) #[T,T,T,T,T,T,T,T,T,F,F,F,F,F,F,F,F,F,F,F,F,F,F,F,F,F,F,F,F,F,F,F,F,F,F,F,F,F,F,F] rfl rfl (any_of HT_.out (by kernel_rfl)) (fun _ _ _ h => h) (Or.inl ⟨by rfl, ?_⟩) ?_ ?_; rotate_left
                          ·intro w'; go_simp; with_reducible rfl
                          rotate_left
                          ·simp only [Act.put, sA, sB, sC, sD, sE]; rfl
                          refine pure_ (i := 9) (N := some 45) (v := ?_) (a' := ?_) #[T,T,T,T,T,T,T,T,T,T,F,F,F,F,F,F,F,F,F,F,F,F,F,F,F,F,F,F,F,F,F,F,F,F,F,F,F,F,F,F] rfl rfl (any_of HT_.out (by kernel_rfl)) (fun _ _ _ h => h) (Or.inl ⟨by rfl, ?_⟩) ?_ ?_; rotate_left
                          ·intro w'; go_simp; with_reducible rfl
                          rotate_left
                          ·simp only [Act.put, sA, sB, sC, sD, sE]; rfl
                          refine pure_ (i := 10) (N := some 46) (v := ?_) (a' := ?_) #[T,T,T,T,T,T,T,T,T,T,T,F,F,F,F,F,F,F,F,F,F,F,F,F,F,F,F,F,F,F,F,F,F,F,F,F,F,F,F,F] rfl rfl (any_of HT_.out (by kernel_rfl)) (fun _ _ _ h => h) (Or.inl ⟨by rfl, ?_⟩) ?_ ?_; rotate_left
                          ·intro w'; go_simp; with_reducible rfl
                          rotate_left
                          ·simp only [Act.put, sA, sB, sC, sD, sE]; rfl
                          refine pure_ (i := 11) (N := some 47) (v := ?_) (a' := ?_) #[T,T,T,T,T,T,T,T,T,T,T,T,F,F,F,F,F,F,F,F,F,F,F,F,F,F,F,F,F,F,F,F,F,F,F,F,F,F,F,F] rfl rfl (any_of HT_.out (by kernel_rfl)) (fun _ _ _ h => h) (Or.inl ⟨by rfl, ?_⟩) ?_ ?_; rotate_left
                          ·intro w'; go_simp; with_reducible rfl
                          rotate_left
                          ·simp only [Act.put, sA, sB, sC, sD, sE]; rfl
                          refine pure_ (i := 13) (N := some 49) (v := ?_) (a' := ?_) #[T,T,T,T,T,T,T,T,T,T,T,T,F,T,F,F,F,F,F,F,F,F,F,F,F,F,F,F,F,F,F,F,F,F,F,F,F,F,F,F] rfl rfl (any_of HT_.out (by kernel_rfl)) (fun _ _ _ h => h) (Or.inl ⟨by rfl, ?_⟩) ?_ ?_; rotate_left
                          ·intro w'; go_simp; with_reducible rfl
                          rotate_left
                          ·simp only [Act.put, sA, sB, sC, sD, sE]; rfl
                          refine pure_ (i := 14) (N := some 50) (v := ?_) (a' := ?_) #[T,T,T,T,T,T,T,T,T,T,T,T,F,T,T,F,F,F,F,F,F,F,F,F,F,F,F,F,F,F,F,F,F,F,F,F,F,F,F,F] rfl rfl (any_of HT_.out (by kernel_rfl)) (fun _ _ _ h => h) (Or.inl ⟨by rfl, ?_⟩) ?_ ?_; rotate_left
                          ·intro w'; go_simp; with_reducible rfl
                          rotate_left
                          ·simp only [Act.put, sA, sB, sC, sD, sE]; rfl
                          refine take_ (i := 12) (N := some 48) (v := ?_) (a' := ?_) #[T,T,T,T,T,T,T,T,T,T,T,T,T,T,T,F,F,F,F,F,F,F,F,F,F,F,F,F,F,F,F,F,F,F,F,F,F,F,F,F] rfl rfl (take_ofW HT_.out HW_.out (by kernel_rfl)) (fun _ _ _ h => h) (Or.inl ⟨by rfl, ?_⟩) hHeld ?_ ?_; rotate_left
                          ·rintro w' ⟨s0, s1, s2, s3, s4, s5⟩; go_simp; with_reducible rfl
                          rotate_left
                          ·simp only [Act.put, sA, sB, sC, sD, sE]; rfl
                          refine take_ (i := 15) (N := some 51) (v := ?_) (a' := ?_) #[T,T,T,T,T,T,T,T,T,T,T,T,T,T,T,T,F,F,F,F,F,F,F,F,F,F,F,F,F,F,F,F,F,F,F,F,F,F,F,F] rfl rfl (take_ofW HT_.out HW_.out (by kernel_rfl)) (fun _ _ _ h => h) (Or.inl ⟨by rfl, ?_⟩) hHeld ?_ ?_; rotate_left
                          ·rintro w' ⟨s0, s1, s2, s3, s4, s5⟩; go_simp; with_reducible rfl
                          rotate_left
                          ·simp only [Act.put, sA, sB, sC, sD, sE]; rfl
                          refine pure_ (i := 16) (N := some 52) (v := ?_) (a' := ?_) #[T,T,T,T,T,T,T,T,T,T,T,T,T,T,T,T,T,F,F,F,F,F,F,F,F,F,F,F,F,F,F,F,F,F,F,F,F,F,F,F] rfl rfl (any_of HT_.out (by kernel_rfl)) (fun _ _ _ h => h) (Or.inl ⟨by rfl, ?_⟩) ?_ ?_; rotate_left
                          ·intro w'; go_simp; with_reducible rfl
                          rotate_left
                          ·simp only [Act.put, sA, sB, sC, sD, sE]; rfl
                          refine pure_ (i := 17) (N := some 53) (v := ?_) (a' := ?_) #[T,T,T,T,T,T,T,T,T,T,T,T,T,T,T,T,T,T,F,F,F,F,F,F,F,F,F,F,F,F,F,F,F,F,F,F,F,F,F,F] rfl rfl (any_of HT_.out (by kernel_rfl)) (fun _ _ _ h => h) (Or.inl ⟨by rfl, ?_⟩) ?_ ?_; rotate_left
                          ·intro w'; go_simp; with_reducible rfl
                          rotate_left
                          ·simp only [Act.put, sA, sB, sC, sD, sE]; rfl
                          refine pure_ (i := 18) (N := some 54) (v := ?_) (a' := ?_) #[T,T,T,T,T,T,T,T,T,T,T,T,T,T,T,T,T,T,T,F,F,F,F,F,F,F,F,F,F,F,F,F,F,F,F,F,F,F,F,F] rfl rfl (any_of HT_.out (by kernel_rfl)) (fun _ _ _ h => h) (Or.inl ⟨by rfl, ?_⟩) ?_ ?_; rotate_left
                          ·intro w'; go_simp; with_reducible rfl
                          rotate_left
                          ·simp only [Act.put, sA, sB, sC, sD, sE]; rfl
                          refine pure_ (i := 19) (N := some 55) (v := ?_) (a' := ?_) #[T,T,T,T,T,T,T,T,T,T,T,T,T,T,T,T,T,T,T,T,F,F,F,F,F,F,F,F,F,F,F,F,F,F,F,F,F,F,F,F] rfl rfl (any_of HT_.out (by kernel_rfl)) (fun _ _ _ h => h) (Or.inl ⟨by rfl, ?_⟩) ?_ ?_; rotate_left
                          ·intro w'; go_simp; with_reducible rfl
                          rotate_left
                          ·simp only [Act.put, sA, sB, sC, sD, sE]; rfl
                          refine pure_ (i := 20) (N := some 56) (v := ?_) (a' := ?_) #[T,T,T,T,T,T,T,T,T,T,T,T,T,T,T,T,T,T,T,T,T,F,F,F,F,F,F,F,F,F,F,F,F,F,F,F,F,F,F,F] rfl rfl (any_of HT_.out (by kernel_rfl)) (fun _ _ _ h => h) (Or.inl ⟨by rfl, ?_⟩) ?_ ?_; rotate_left
                          ·intro w'; go_simp; with_reducible rfl
                          rotate_left
                          ·simp only [Act.put, sA, sB, sC, sD, sE]; rfl
                          refine pure_ (i := 22) (N := some 58) (v := ?_) (a' := ?_) #[T,T,T,T,T,T,T,T,T,T,T,T,T,T,T,T,T,T,T,T,T,F,T,F,F,F,F,F,F,F,F,F,F,F,F,F,F,F,F,F] rfl rfl (any_of HT_.out (by kernel_rfl)) (fun _ _ _ h => h) (Or.inl ⟨by rfl, ?_⟩) ?_ ?_; rotate_left
                          ·intro w'; go_simp; with_reducible rfl
                          rotate_left
                          ·simp only [Act.put, sA, sB, sC, sD, sE]; rfl
                          refine pure_ (i := 23) (N := some 59) (v := ?_) (a' := ?_) #[T,T,T,T,T,T,T,T,T,T,T,T,T,T,T,T,T,T,T,T,T,F,T,T,F,F,F,F,F,F,F,F,F,F,F,F,F,F,F,F] rfl rfl (any_of HT_.out (by kernel_rfl)) (fun _ _ _ h => h) (Or.inl ⟨by rfl, ?_⟩) ?_ ?_; rotate_left
                          ·intro w'; go_simp; with_reducible rfl
                          rotate_left
                          ·simp only [Act.put, sA, sB, sC, sD, sE]; rfl
                          refine take_ (i := 21) (N := some 57) (v := ?_) (a' := ?_) #[T,T,T,T,T,T,T,T,T,T,T,T,T,T,T,T,T,T,T,T,T,T,T,T,F,F,F,F,F,F,F,F,F,F,F,F,F,F,F,F] rfl rfl (take_ofW HT_.out HW_.out (by kernel_rfl)) (fun _ _ _ h => h) (Or.inl ⟨by rfl, ?_⟩) hHeld ?_ ?_; rotate_left
                          ·rintro w' ⟨s0, s1, s2, s3, s4, s5⟩; go_simp; with_reducible rfl
                          rotate_left
                          ·simp only [Act.put, sA, sB, sC, sD, sE]; rfl
                          refine take_ (i := 24) (N := some 60) (v := ?_) (a' := ?_) #[T,T,T,T,T,T,T,T,T,T,T,T,T,T,T,T,T,T,T,T,T,T,T,T,T,F,F,F,F,F,F,F,F,F,F,F,F,F,F,F] rfl rfl (take_ofW HT_.out HW_.out (by kernel_rfl)) (fun _ _ _ h => h) (Or.inl ⟨by rfl, ?_⟩) hHeld ?_ ?_; rotate_left
                          ·rintro w' ⟨s0, s1, s2, s3, s4, s5⟩; go_simp; with_reducible rfl
                          rotate_left
                          ·simp only [Act.put, sA, sB, sC, sD, sE]; rfl
                          refine pure_ (i := 25) (N := some 61) (v := ?_) (a' := ?_) #[T,T,T,T,T,T,T,T,T,T,T,T,T,T,T,T,T,T,T,T,T,T,T,T,T,T,F,F,F,F,F,F,F,F,F,F,F,F,F,F] rfl rfl (any_of HT_.out (by kernel_rfl)) (fun _ _ _ h => h) (Or.inl ⟨by rfl, ?_⟩) ?_ ?_; rotate_left
                          ·intro w'; go_simp; with_reducible rfl
                          rotate_left
                          ·simp only [Act.put, sA, sB, sC, sD, sE]; rfl
                          refine pure_ (i := 26) (N := some 62) (v := ?_) (a' := ?_) #[T,T,T,T,T,T,T,T,T,T,T,T,T,T,T,T,T,T,T,T,T,T,T,T,T,T,T,F,F,F,F,F,F,F,F,F,F,F,F,F] rfl rfl (any_of HT_.out (by kernel_rfl)) (fun _ _ _ h => h) (Or.inl ⟨by rfl, ?_⟩) ?_ ?_; rotate_left
                          ·intro w'; go_simp; with_reducible rfl
                          rotate_left
                          ·simp only [Act.put, sA, sB, sC, sD, sE]; rfl
                          refine pure_ (i := 27) (N := some 63) (v := ?_) (a' := ?_) #[T,T,T,T,T,T,T,T,T,T,T,T,T,T,T,T,T,T,T,T,T,T,T,T,T,T,T,T,F,F,F,F,F,F,F,F,F,F,F,F] rfl rfl (any_of HT_.out (by kernel_rfl)) (fun _ _ _ h => h) (Or.inl ⟨by rfl, ?_⟩) ?_ ?_; rotate_left
                          ·intro w'; go_simp; with_reducible rfl
                          rotate_left
                          ·simp only [Act.put, sA, sB, sC, sD, sE]; rfl
                          refine pure_ (i := 28) (N := some 64) (v := ?_) (a' := ?_) #[T,T,T,T,T,T,T,T,T,T,T,T,T,T,T,T,T,T,T,T,T,T,T,T,T,T,T,T,T,F,F,F,F,F,F,F,F,F,F,F] rfl rfl (any_of HT_.out (by kernel_rfl)) (fun _ _ _ h => h) (Or.inl ⟨by rfl, ?_⟩) ?_ ?_; rotate_left
                          ·intro w'; go_simp; with_reducible rfl
                          rotate_left
                          ·simp only [Act.put, sA, sB, sC, sD, sE]; rfl
                          refine pure_ (i := 29) (N := some 65) (v := ?_) (a' := ?_) #[T,T,T,T,T,T,T,T,T,T,T,T,T,T,T,T,T,T,T,T,T,T,T,T,T,T,T,T,T,T,F,F,F,F,F,F,F,F,F,F] rfl rfl (any_of HT_.out (by kernel_rfl)) (fun _ _ _ h => h) (Or.inl ⟨by rfl, ?_⟩) ?_ ?_; rotate_left
                          ·intro w'; go_simp; with_reducible rfl
                          rotate_left
                          ·simp only [Act.put, sA, sB, sC, sD, sE]; rfl
                          refine pure_ (i := 31) (N := some 67) (v := ?_) (a' := ?_) #[T,T,T,T,T,T,T,T,T,T,T,T,T,T,T,T,T,T,T,T,T,T,T,T,T,T,T,T,T,T,F,T,F,F,F,F,F,F,F,F] rfl rfl (any_of HT_.out (by kernel_rfl)) (fun _ _ _ h => h) (Or.inl ⟨by rfl, ?_⟩) ?_ ?_; rotate_left
                          ·intro w'; go_simp; with_reducible rfl
                          rotate_left
                          ·simp only [Act.put, sA, sB, sC, sD, sE]; rfl
                          refine take_ (i := 30) (N := some 66) (v := ?_) (a' := ?_) #[T,T,T,T,T,T,T,T,T,T,T,T,T,T,T,T,T,T,T,T,T,T,T,T,T,T,T,T,T,T,T,T,F,F,F,F,F,F,F,F] rfl rfl (take_ofW HT_.out HW_.out (by kernel_rfl)) (fun _ _ _ h => h) (Or.inl ⟨by rfl, ?_⟩) hHeld ?_ ?_; rotate_left
                          ·rintro w' ⟨s0, s1, s2, s3, s4, s5⟩; go_simp; with_reducible rfl
                          rotate_left
                          ·simp only [Act.put, sA, sB, sC, sD, sE]; rfl
                          refine pure_ (i := 32) (N := some 68) (v := ?_) (a' := ?_) #[T,T,T,T,T,T,T,T,T,T,T,T,T,T,T,T,T,T,T,T,T,T,T,T,T,T,T,T,T,T,T,T,T,F,F,F,F,F,F,F] rfl rfl (any_of HT_.out (by kernel_rfl)) (fun _ _ _ h => h) (Or.inl ⟨by rfl, ?_⟩) ?_ ?_; rotate_left
                          ·intro w'; go_simp; with_reducible rfl
                          rotate_left
                          ·simp only [Act.put, sA, sB, sC, sD, sE]; rfl
                          refine pure_ (i := 33) (N := some 69) (v := ?_) (a' := ?_) #[T,T,T,T,T,T,T,T,T,T,T,T,T,T,T,T,T,T,T,T,T,T,T,T,T,T,T,T,T,T,T,T,T,T,F,F,F,F,F,F] rfl rfl (any_of HT_.out (by kernel_rfl)) (fun _ _ _ h => h) (Or.inl ⟨by rfl, ?_⟩) ?_ ?_; rotate_left
                          ·intro w'; go_simp; with_reducible rfl
                          rotate_left
                          ·simp only [Act.put, sA, sB, sC, sD, sE]; rfl
                          refine pure_ (i := 34) (N := some 70) (v := ?_) (a' := ?_) #[T,T,T,T,T,T,T,T,T,T,T,T,T,T,T,T,T,T,T,T,T,T,T,T,T,T,T,T,T,T,T,T,T,T,T,F,F,F,F,F] rfl rfl (any_of HT_.out (by kernel_rfl)) (fun _ _ _ h => h) (Or.inl ⟨by rfl, ?_⟩) ?_ ?_; rotate_left
                          ·intro w'; go_simp; with_reducible rfl
                          rotate_left
                          ·simp only [Act.put, sA, sB, sC, sD, sE]; rfl
                          refine pure_ (i := 35) (N := some 71) (v := ?_) (a' := ?_) #[T,T,T,T,T,T,T,T,T,T,T,T,T,T,T,T,T,T,T,T,T,T,T,T,T,T,T,T,T,T,T,T,T,T,T,T,F,F,F,F] rfl rfl (any_of HT_.out (by kernel_rfl)) (fun _ _ _ h => h) (Or.inl ⟨by rfl, ?_⟩) ?_ ?_; rotate_left
                          ·intro w'; go_simp; with_reducible rfl
                          rotate_left
                          ·simp only [Act.put, sA, sB, sC, sD, sE]; rfl
                          refine pure_ (i := 36) (N := some 72) (v := ?_) (a' := ?_) #[T,T,T,T,T,T,T,T,T,T,T,T,T,T,T,T,T,T,T,T,T,T,T,T,T,T,T,T,T,T,T,T,T,T,T,T,T,F,F,F] rfl rfl (any_of HT_.out (by kernel_rfl)) (fun _ _ _ h => h) (Or.inl ⟨by rfl, ?_⟩) ?_ ?_; rotate_left
                          ·intro w'; go_simp; with_reducible rfl
                          rotate_left
                          ·simp only [Act.put, sA, sB, sC, sD, sE]; rfl
                          refine one_ (i := 37) (N := some 73) #[T,T,T,T,T,T,T,T,T,T,T,T,T,T,T,T,T,T,T,T,T,T,T,T,T,T,T,T,T,T,T,T,T,T,T,T,T,T,F,F] rfl rfl (one_of HT_.out (by kernel_rfl)) (by decide) (fun K hK => ?_); refine goes_ Try.func78 (by kernel_rfl) rfl #[.slice A0 l0.length c0, .slice (some ad106) (rd_L5 l1 x32_2).length c105_0] (by rfl) rfl rfl (by (try simp only [List.map_toArray, List.map_cons, List.map_nil]); first | done | rfl | (simp only [List.length_drop, List.length_take]; rfl)) ?_
                          with_reducible refine (spec_l05Area.calls _ _ l0 _ _ (rd_L5 l1 x32_2) t112 _ ?side1 ?side2 ?side3 ?side4 A29.out).mono ?_
                          (case side1 => repeat (first | exact (Kd.C_below HR0.out HB.out) | (with_reducible refine Kd.C_alloc ?_ _) | (with_reducible refine Kd.C_drewN ?_ _) | (with_reducible refine Kd.C_drew ?_)))
                          (case side2 => exact HC0.out)
                          (case side3 => repeat (first | exact (Kd.C_below HR105_0.out HB.out) | (with_reducible refine Kd.C_alloc ?_ _) | (with_reducible refine Kd.C_drewN ?_ _) | (with_reducible refine Kd.C_drew ?_)))
                          (case side4 => exact HC105_0.out)
                          rintro e w47 ⟨rfl, hb⟩; refine ⟨_, rfl, ?_⟩; have n0_ := Ak (Kd.R_below (by (with_reducible repeat (first | apply Kd.R_alloc | apply Kd.R_drewN | apply Kd.R_drew)); exact HO_7.out) hb); have n1_ := Ak (below_step (by repeat (first | exact HB.out | apply bA | apply bD | apply bE)) hb); clear HO_7 HB; have HO_7 := n0_; have HB := n1_; clear n0_ n1_; (try clear hb); (try clear hb2); (try clear hk); (try clear hi); refine hK.out _ _ ⟨((HB.out.cell (World.block_lt_of_cell? w _ hw106_0)).trans hw106_0), ((HB.out.cell (World.block_lt_of_cell? w _ hw107_0)).trans hw107_0), ((HB.out.cell (World.block_lt_of_cell? w _ hw108_0)).trans hw108_0), ((HB.out.cell (World.block_lt_of_cell? w _ hw109_0)).trans hw109_0), ((HB.out.cell (World.block_lt_of_cell? w _ hw110_0)).trans hw110_0), ((HB.out.cell (World.block_lt_of_cell? w _ hw111_0)).trans hw111_0)⟩ (fun hHeld => ?_); clear hK K; refine norm_ (a' := ?_) ?_ ?_; rotate_left
                          ·show Act.put _ (some 73) _ = _; simp only [Act.put, sA, sB, sC, sD, sE]; rfl
                          refine pure_ (i := 38) (N := some 74) (v := ?_) (a' := ?_) #[T,T,T,T,T,T,T,T,T,T,T,T,T,T,T,T,T,T,T,T,T,T,T,T,T,T,T,T,T,T,T,T,T,T,T,T,T,T,T,F] rfl rfl (any_of HT_.out (by kernel_rfl)) (fun _ _ _ h => h) (Or.inl ⟨by rfl, ?_⟩) ?_ ?_; rotate_left
                          ·intro w'; go_simp; with_reducible rfl
                          rotate_left
                          ·simp only [Act.put, sA, sB, sC, sD, sE]; rfl
                          refine pure_ (i := 39) (N := some 75) (v := ?_) (a' := ?_) #[T,T,T,T,T,T,T,T,T,T,T,T,T,T,T,T,T,T,T,T,T,T,T,T,T,T,T,T,T,T,T,T,T,T,T,T,T,T,T,T] rfl rfl (any_of HT_.out (by kernel_rfl)) (fun _ _ _ h => h) (Or.inl ⟨by rfl, ?_⟩) ?_ ?_; rotate_left
                          ·intro w'; go_simp; with_reducible rfl
                          rotate_left
                          ·simp only [Act.put, sA, sB, sC, sD, sE]; rfl
                          refine done_ (done_of HT_.out (by kernel_rfl)) ?_
                          try go_wp2_with (first | ((with_reducible refine gate_callee (f := 78) rfl ?_); refine goesL_ (some 79) rfl rfl Try.func78 (by kernel_rfl) rfl #[.slice A0 l0.length c0, .slice (some ad106) (rd_L5 l1 x32_2).length c105_0] rfl (by (try simp only [List.map_toArray, List.map_cons, List.map_nil]); first | done | rfl | (simp only [List.length_drop, List.length_take]; rfl)) ?_; (with_reducible refine (spec_l05Area.calls _ _ l0 _ _ (rd_L5 l1 x32_2) t113 _ ?side1 ?side2 ?side3 ?side4 A33.out).mono ?_); (case side1 => repeat (first | exact (Kd.C_below HR0.out HB.out) | (with_reducible refine Kd.C_alloc ?_ _) | (with_reducible refine Kd.C_drewN ?_ _) | (with_reducible refine Kd.C_drew ?_))); (case side2 => exact HC0.out); (case side3 => repeat (first | exact (Kd.C_below HR105_0.out HB.out) | (with_reducible refine Kd.C_alloc ?_ _) | (with_reducible refine Kd.C_drewN ?_ _) | (with_reducible refine Kd.C_drew ?_))); (case side4 => exact HC105_0.out); rintro e w48 ⟨rfl, hb⟩; refine ⟨_, rfl, ?_⟩; have n0_ := Ak (Kd.R_below (by (with_reducible repeat (first | apply Kd.R_alloc | apply Kd.R_drewN | apply Kd.R_drew)); exact HO_7.out) hb); have n1_ := Ak (below_step (by repeat (first | exact HB.out | apply bA | apply bD | apply bE)) hb); clear HO_7; clear HB; have HO_7 := n0_; have HB := n1_; clear n0_ n1_; (try clear hb); (try clear hb2); (try clear hk); (try clear hi)))
                          have n0_ := Ak (Kd.R_drew HO_7.out); have n1_ := Ak (below_drew1 HB.out); clear HO_7 HB; have HO_7 := n0_; have HB := n1_; clear n0_ n1_; have p114 : 0 ≤ (0 : Int) := (by omega); have q114 : 0 < ((rd_L5 l1 x32_2).length : Int) := of_decide_eq_true (by first | (with_reducible assumption) | assumption); obtain ⟨ad114, e114, hx114_0⟩ := Kd.at_int HR105_0.out 0 p114 q114; have hw114_0 := hx114_0; (try rw [show ((0 : Int)).toNat = 0 from rfl] at hw114_0); (try rw [show 0 * 1 = 0 from rfl] at hw114_0); (try rw [Addr.add_zero'] at hw114_0); obtain rfl : ad106 = ad114 := (by injection e114); have qi114 : (0 < (rd_L5 l1 x32_2).length) = True := eq_true (by omega); (try rw [show ((0 : Int)).toNat = 0 from rfl] at hx114_0); (try rw [Addr.add_zero'] at hx114_0); replace hx114_0 := cB HB.out hx114_0; replace p114 := eq_true p114; replace q114 := eq_true q114; have p115 : 0 ≤ (1 : Int) := (by omega); have q115 : 1 < ((rd_L5 l1 x32_2).length : Int) := of_decide_eq_true (by first | (with_reducible assumption) | assumption); obtain ⟨ad115, e115, hx115_0⟩ := Kd.at_int HR105_0.out 1 p115 q115; have hw115_0 := hx115_0; (try rw [show ((1 : Int)).toNat = 1 from rfl] at hw115_0); (try rw [show 1 * 1 = 1 from rfl] at hw115_0); (try simp only [Nat.reduceMul, Nat.reduceEqDiff, Go.Addr.add, ↓reduceIte] at hw115_0); obtain rfl : ad106 = ad115 := (by injection e115); (try simp only [show (1 : Int).toNat = 1 from rfl, Nat.reduceMul, Nat.reduceEqDiff, Go.Addr.add, ↓reduceIte] at hx115_0); have qi115 : (1 < (rd_L5 l1 x32_2).length) = True := eq_true (by omega); (try rw [show ((1 : Int)).toNat = 1 from rfl] at hx115_0); replace hx115_0 := cB HB.out hx115_0; replace p115 := eq_true p115; replace q115 := eq_true q115; obtain ⟨Ao50, co50, eo50⟩ := Kd.R_slice HO_7.out
                          (first | subst eo50 | (injection eo50 with f1_ f2_ f3_; have f4_ := f1_.symm; have f5_ := f3_.symm; clear f1_ f2_ f3_; subst f4_; subst f5_))
                          have p116 : 0 ≤ ((ji34) : Int) := of_decide_eq_true (by first | (with_reducible assumption) | assumption); have q116 : (ji34) < (x7_2.length : Int) := of_decide_eq_true (by first | (with_reducible assumption) | assumption); obtain ⟨ad116, e116, hx116_0⟩ := Kd.at_int (Kd.R_reads' HO_7.out).2.2 (ji34) p116 q116; cases e116; replace p116 := eq_true p116; replace q116 := eq_true q116; have p37 : 0 ≤ ((ji34) : Int) := of_decide_eq_true (by first | (with_reducible assumption) | assumption); have q37 : ((ji34) : Int) < ((x7_2.length : Int) : Int) := of_decide_eq_true (by first | (with_reducible assumption) | assumption); obtain ⟨go37, co37, eo37, gb37, gl37, cl37, HG37⟩ := Kd.R_form HO_7.out (by omega)
                          (first | cases eo37 | (injection eo37 with ea_ en_ ec_; (first | subst ea_ | (injection ea_ with ea_; subst ea_)); subst ec_; clear en_))
                          have GB37 := Ak gb37; have GG37 := Ak HG37; clear gb37 gl37 HG37
                          (first | simp only [add_plain] at hx116_0 | skip)
                          obtain ⟨hx37_0, hf37_0⟩ := Kd.R_celln 0 HO_7.out ((ji34) : Int) p37 q37; replace p37 := eq_true p37; replace q37 := eq_true q37; have HP51 := Kd.R_putn HO_7.out ((ji34) : Int) (wrap64 ((rd x7_2 (ji34)) + 1)); rw [← Ny117.out] at HP51; have HQ51 := Ak HP51; clear HP51; refine start_ (n := 15) (S := fun w' => w'.cell? ad106 = some (.int .i64 (rd (rd_L5 l1 x32_2) 0)) ∧ w'.cell? ⟨ad106.block, ad106.off + 1, none⟩ = some (.int .i64 (rd (rd_L5 l1 x32_2) 1)) ∧ w'.cell? ⟨go37, ((ji34)).toNat, none⟩ = some (.int .i64 (rd x7_2 (ji34)))) (ds := [14]) #[F,F,F,F,F,F,F,F,F,F,F,F,F,F,F] (by kernel_rfl) rfl rfl ⟨((HB.out.cell (World.block_lt_of_cell? w _ hw114_0)).trans hw114_0), ((HB.out.cell (World.block_lt_of_cell? w _ hw115_0)).trans hw115_0), hx116_0⟩ (fun hHeld => ?_); refine with_tabW spec_IsTriangulation.tab12 spec_IsTriangulation.bits12 (fun HT_ HW_ => ?_); generalize w48.drew = w49 at HO_7 HB GG37 HQ51 hf37_0 hx114_0 hx115_0 hx116_0 hx37_0 hHeld ⊢; refine pure_ (i := 0) (N := some 81) (v := ?_) (a' := ?_) #[T,F,F,F,F,F,F,F,F,F,F,F,F,F,F] rfl rfl (any_of HT_.out (by kernel_rfl)) (fun _ _ _ h => h) (Or.inl ⟨by rfl, ?_⟩) ?_ ?_; rotate_left
                          ·intro w'; go_simp; with_reducible rfl
                          rotate_left
                          ·simp only [Act.put, sA, sB, sC, sD, sE]; rfl
                          refine pure_ (i := 1) (N := some 82) (v := ?_) (a' := ?_) #[T,T,F,F,F,F,F,F,F,F,F,F,F,F,F] rfl rfl (any_of HT_.out (by kernel_rfl)) (fun _ _ _ h => h) (Or.inl ⟨by rfl, ?_⟩) ?_ ?_; rotate_left
                          ·intro w'; go_simp; with_reducible rfl
                          rotate_left
                          ·simp only [Act.put, sA, sB, sC, sD, sE]; rfl
                          refine pure_ (i := 2) (N := some 83) (v := ?_) (a' := ?_) #[T,T,T,F,F,F,F,F,F,F,F,F,F,F,F] rfl rfl (any_of HT_.out (by kernel_rfl)) (fun _ _ _ h => h) (Or.inl ⟨by rfl, ?_⟩) ?_ ?_; rotate_left
                          ·intro w'; go_simp; with_reducible rfl
                          rotate_left
                          ·simp only [Act.put, sA, sB, sC, sD, sE]; rfl
                          refine pure_ (i := 4) (N := some 85) (v := ?_) (a' := ?_) #[T,T,T,F,T,F,F,F,F,F,F,F,F,F,F] rfl rfl (any_of HT_.out (by kernel_rfl)) (fun _ _ _ h => h) (Or.inl ⟨by rfl, ?_⟩) ?_ ?_; rotate_left
                          ·intro w'; go_simp; with_reducible rfl
                          rotate_left
                          ·simp only [Act.put, sA, sB, sC, sD, sE]; rfl
                          refine pure_ (i := 6) (N := some 87) (v := ?_) (a' := ?_) #[T,T,T,F,T,F,T,F,F,F,F,F,F,F,F] rfl rfl (any_of HT_.out (by kernel_rfl)) (fun _ _ _ h => h) (Or.inl ⟨by rfl, ?_⟩) ?_ ?_; rotate_left
                          ·intro w'; go_simp; with_reducible rfl
                          rotate_left
                          ·simp only [Act.put, sA, sB, sC, sD, sE]; rfl
                          refine pure_ (i := 7) (N := some 88) (v := ?_) (a' := ?_) #[T,T,T,F,T,F,T,T,F,F,F,F,F,F,F] rfl rfl (any_of HT_.out (by kernel_rfl)) (fun _ _ _ h => h) (Or.inl ⟨by rfl, ?_⟩) ?_ ?_; rotate_left
                          ·intro w'; go_simp; with_reducible rfl
                          rotate_left
                          ·simp only [Act.put, sA, sB, sC, sD, sE]; rfl
                          refine take_ (i := 3) (N := some 84) (v := ?_) (a' := ?_) #[T,T,T,T,T,F,T,T,F,F,F,F,F,F,F] rfl rfl (take_ofW HT_.out HW_.out (by kernel_rfl)) (fun _ _ _ h => h) (Or.inl ⟨by rfl, ?_⟩) hHeld ?_ ?_; rotate_left
                          ·rintro w' ⟨s0, s1, s2⟩; go_simp; with_reducible rfl
                          rotate_left
                          ·simp only [Act.put, sA, sB, sC, sD, sE]; rfl
                          refine pure_ (i := 5) (N := some 86) (v := ?_) (a' := ?_) #[T,T,T,T,T,T,T,T,F,F,F,F,F,F,F] rfl rfl (any_of HT_.out (by kernel_rfl)) (fun _ _ _ h => h) (Or.inl ⟨by rfl, ?_⟩) ?_ ?_; rotate_left
                          ·intro w'; go_simp; with_reducible rfl
                          rotate_left
                          ·simp only [Act.put, sA, sB, sC, sD, sE]; rfl
                          refine take_ (i := 8) (N := some 89) (v := ?_) (a' := ?_) #[T,T,T,T,T,T,T,T,T,F,F,F,F,F,F] rfl rfl (take_ofW HT_.out HW_.out (by kernel_rfl)) (fun _ _ _ h => h) (Or.inl ⟨by rfl, ?_⟩) hHeld ?_ ?_; rotate_left
                          ·rintro w' ⟨s0, s1, s2⟩; go_simp; with_reducible rfl
                          rotate_left
                          ·simp only [Act.put, sA, sB, sC, sD, sE]; rfl
                          refine pure_ (i := 9) (N := some 90) (v := ?_) (a' := ?_) #[T,T,T,T,T,T,T,T,T,T,F,F,F,F,F] rfl rfl (any_of HT_.out (by kernel_rfl)) (fun _ _ _ h => h) (Or.inl ⟨by rfl, ?_⟩) ?_ ?_; rotate_left
                          ·intro w'; go_simp; with_reducible rfl
                          rotate_left
                          ·simp only [Act.put, sA, sB, sC, sD, sE]; rfl
                          refine pure_ (i := 10) (N := some 91) (v := ?_) (a' := ?_) #[T,T,T,T,T,T,T,T,T,T,T,F,F,F,F] rfl rfl (any_of HT_.out (by kernel_rfl)) (fun _ _ _ h => h) (Or.inl ⟨by rfl, ?_⟩) ?_ ?_; rotate_left
                          ·intro w'; go_simp; with_reducible rfl
                          rotate_left
                          ·simp only [Act.put, sA, sB, sC, sD, sE]; rfl
                          refine take_ (i := 11) (N := some 92) (v := ?_) (a' := ?_) #[T,T,T,T,T,T,T,T,T,T,T,T,F,F,F] rfl rfl (take_ofW HT_.out HW_.out (by kernel_rfl)) (fun _ _ _ h => h) (Or.inl ⟨by rfl, ?_⟩) hHeld ?_ ?_; rotate_left
                          ·rintro w' ⟨s0, s1, s2⟩; go_simp; with_reducible rfl
                          rotate_left
                          ·simp only [Act.put, sA, sB, sC, sD, sE]; rfl
                          refine pure_ (i := 12) (N := some 93) (v := ?_) (a' := ?_) #[T,T,T,T,T,T,T,T,T,T,T,T,T,F,F] rfl rfl (any_of HT_.out (by kernel_rfl)) (fun _ _ _ h => h) (Or.inl ⟨by rfl, ?_⟩) ?_ ?_; rotate_left
                          ·intro w'; go_simp; with_reducible rfl
                          rotate_left
                          ·simp only [Act.put, sA, sB, sC, sD, sE]; rfl
                          refine pure_ (i := 13) (N := some 94) (v := ?_) (a' := ?_) #[T,T,T,T,T,T,T,T,T,T,T,T,T,T,F] rfl rfl (any_of HT_.out (by kernel_rfl)) (fun _ _ _ h => h) (Or.inl ⟨by rfl, ?_⟩) ?_ ?_; rotate_left
                          ·intro w'; go_simp; with_reducible rfl
                          rotate_left
                          ·simp only [Act.put, sA, sB, sC, sD, sE]; rfl
                          refine last_ (i := 14) (N := none) #[T,T,T,T,T,T,T,T,T,T,T,T,T,T,T] rfl rfl (one_of HT_.out (by kernel_rfl)) (by decide) (fun K hK => ?_); refine skip_ (w1 := ?_) (by rfl) rfl ?_ ?_; rotate_left
                          ·go_simp; rfl
                          refine hK.out _ _ ?_; clear hK K; refine done_ (done_of HT_.out (by kernel_rfl)) ?_
                          try go_wp2
                          have n0_ : Aside0 (Kd.R (Kd.int .i64) 3 (w49.setCell ⟨go37, ((ji34) : Int).toNat, none⟩ (.int .i64 (wrap64 ((rd x7_2 (ji34)) + 1)))) w.heap.size (fun _ => True) (.slice (some ⟨go37, 0, none⟩) x7_2.length co50) y117) := ⟨by (with_reducible repeat (first | apply Kd.R_alloc | apply Kd.R_drewN | apply Kd.R_drew)); exact HQ51.out⟩; have n1_ : Aside0 (Below w.heap.size w (w49.setCell ⟨go37, ((ji34) : Int).toNat, none⟩ (.int .i64 (wrap64 ((rd x7_2 (ji34)) + 1))))) := ⟨by repeat (first | (with_reducible first | exact HB.out | apply bA | apply bD | apply bE | refine below_set ?_ GB37.out) | exact HB.out)⟩; (try clear HO_7); (try clear HB); generalize (w49.setCell ⟨go37, ((ji34) : Int).toNat, none⟩ (.int .i64 (wrap64 ((rd x7_2 (ji34)) + 1)))) = w52 at n0_ n1_ ⊢; have HO_7 := n0_; have HB := n1_; clear n0_ n1_; have n0_ := Ak (Kd.R_drew HO_7.out); have n1_ := Ak (below_drew1 HB.out); clear HO_7 HB; have HO_7 := n0_; have HB := n1_; clear n0_ n1_; have p118 : 0 ≤ (1 : Int) := (by omega); have q118 : 1 < ((rd_L5 l1 x32_2).length : Int) := of_decide_eq_true (by first | (with_reducible assumption) | assumption); obtain ⟨ad118, e118, hx118_0⟩ := Kd.at_int HR105_0.out 1 p118 q118; have hw118_0 := hx118_0; (try rw [show ((1 : Int)).toNat = 1 from rfl] at hw118_0); (try rw [show 1 * 1 = 1 from rfl] at hw118_0); (try simp only [Nat.reduceMul, Nat.reduceEqDiff, Go.Addr.add, ↓reduceIte] at hw118_0); obtain rfl : ad106 = ad118 := (by injection e118); (try simp only [show (1 : Int).toNat = 1 from rfl, Nat.reduceMul, Nat.reduceEqDiff, Go.Addr.add, ↓reduceIte] at hx118_0); have qi118 : (1 < (rd_L5 l1 x32_2).length) = True := eq_true (by omega); (try rw [show ((1 : Int)).toNat = 1 from rfl] at hx118_0); replace hx118_0 := cB HB.out hx118_0; replace p118 := eq_true p118; replace q118 := eq_true q118; have p119 : 0 ≤ (2 : Int) := (by omega); have q119 : 2 < ((rd_L5 l1 x32_2).length : Int) := of_decide_eq_true (by first | (with_reducible assumption) | assumption); obtain ⟨ad119, e119, hx119_0⟩ := Kd.at_int HR105_0.out 2 p119 q119; have hw119_0 := hx119_0; (try rw [show ((2 : Int)).toNat = 2 from rfl] at hw119_0); (try rw [show 2 * 1 = 2 from rfl] at hw119_0); (try simp only [Nat.reduceMul, Nat.reduceEqDiff, Go.Addr.add, ↓reduceIte] at hw119_0); obtain rfl : ad106 = ad119 := (by injection e119); (try simp only [show (2 : Int).toNat = 2 from rfl, Nat.reduceMul, Nat.reduceEqDiff, Go.Addr.add, ↓reduceIte] at hx119_0); have qi119 : (2 < (rd_L5 l1 x32_2).length) = True := eq_true (by omega); (try rw [show ((2 : Int)).toNat = 2 from rfl] at hx119_0); replace hx119_0 := cB HB.out hx119_0; replace p119 := eq_true p119; replace q119 := eq_true q119; have p120 : 0 ≤ ((ji38) : Int) := of_decide_eq_true (by first | (with_reducible assumption) | assumption); have q120 : (ji38) < (y117.length : Int) := (by have h_ : ((ji38) : Int) < ((x7_2.length : Int) : Int) := of_decide_eq_true (by first | (with_reducible assumption) | assumption); first | (have e_ := (Kd.R_reads' HO_7.out).1; omega) | simpa only [Ny117.out, List.length_set] using h_); have ql120 : (((ji38) : Int) < ((x7_2.length : Int) : Int)) = True := eq_true (of_decide_eq_true (by first | (with_reducible assumption) | assumption)); obtain ⟨ad120, e120, hx120_0⟩ := Kd.at_int (Kd.R_reads' HO_7.out).2.2 (ji38) p120 q120; obtain rfl : (⟨go37, 0, none⟩ : Addr) = ad120 := (by injection e120)
                          (first | simp only [add_plain] at hx120_0 | simp only [add_at] at hx120_0 | simp only [Addr.add, Nat.zero_add] at hx120_0 | skip)
                          replace p120 := eq_true p120; replace q120 := eq_true q120; have p41 : 0 ≤ ((ji38) : Int) := of_decide_eq_true (by first | (with_reducible assumption) | assumption); have q41 : ((ji38) : Int) < ((x7_2.length : Int) : Int) := of_decide_eq_true (by first | (with_reducible assumption) | assumption); obtain ⟨hx41_0, hf41_0⟩ := Kd.R_celln 0 HO_7.out ((ji38) : Int) p41 q41; replace p41 := eq_true p41; replace q41 := eq_true q41; have HP54 := Kd.R_putn HO_7.out ((ji38) : Int) (wrap64 ((rd y117 (ji38)) + 1)); rw [← Ny121.out] at HP54; have HQ54 := Ak HP54; clear HP54; refine start_ (n := 15) (S := fun w' => w'.cell? ⟨ad106.block, ad106.off + 1, none⟩ = some (.int .i64 (rd (rd_L5 l1 x32_2) 1)) ∧ w'.cell? ⟨ad106.block, ad106.off + 2, none⟩ = some (.int .i64 (rd (rd_L5 l1 x32_2) 2)) ∧ w'.cell? ⟨go37, ((ji38)).toNat, none⟩ = some (.int .i64 (rd y117 (ji38)))) (ds := [14]) #[F,F,F,F,F,F,F,F,F,F,F,F,F,F,F] (by kernel_rfl) rfl rfl ⟨((HB.out.cell (World.block_lt_of_cell? w _ hw118_0)).trans hw118_0), ((HB.out.cell (World.block_lt_of_cell? w _ hw119_0)).trans hw119_0), hx120_0⟩ (fun hHeld => ?_); refine with_tabW spec_IsTriangulation.tab13 spec_IsTriangulation.bits13 (fun HT_ HW_ => ?_); generalize w52.drew = w53 at HO_7 HB HQ51 HQ54 hf41_0 hx118_0 hx119_0 hx120_0 hx41_0 hHeld ⊢; refine pure_ (i := 0) (N := some 95) (v := ?_) (a' := ?_) #[T,F,F,F,F,F,F,F,F,F,F,F,F,F,F] rfl rfl (any_of HT_.out (by kernel_rfl)) (fun _ _ _ h => h) (Or.inl ⟨by rfl, ?_⟩) ?_ ?_; rotate_left
                          ·intro w'; go_simp; with_reducible rfl
                          rotate_left
                          ·simp only [Act.put, sA, sB, sC, sD, sE]; rfl
                          refine pure_ (i := 1) (N := some 96) (v := ?_) (a' := ?_) #[T,T,F,F,F,F,F,F,F,F,F,F,F,F,F] rfl rfl (any_of HT_.out (by kernel_rfl)) (fun _ _ _ h => h) (Or.inl ⟨by rfl, ?_⟩) ?_ ?_; rotate_left
                          ·intro w'; go_simp; with_reducible rfl
                          rotate_left
                          ·simp only [Act.put, sA, sB, sC, sD, sE]; rfl
                          refine pure_ (i := 2) (N := some 97) (v := ?_) (a' := ?_) #[T,T,T,F,F,F,F,F,F,F,F,F,F,F,F] rfl rfl (any_of HT_.out (by kernel_rfl)) (fun _ _ _ h => h) (Or.inl ⟨by rfl, ?_⟩) ?_ ?_; rotate_left
                          ·intro w'; go_simp; with_reducible rfl
                          rotate_left
                          ·simp only [Act.put, sA, sB, sC, sD, sE]; rfl
                          refine pure_ (i := 4) (N := some 99) (v := ?_) (a' := ?_) #[T,T,T,F,T,F,F,F,F,F,F,F,F,F,F] rfl rfl (any_of HT_.out (by kernel_rfl)) (fun _ _ _ h => h) (Or.inl ⟨by rfl, ?_⟩) ?_ ?_; rotate_left
                          ·intro w'; go_simp; with_reducible rfl
                          rotate_left
                          ·simp only [Act.put, sA, sB, sC, sD, sE]; rfl
                          refine pure_ (i := 6) (N := some 101) (v := ?_) (a' := ?_) #[T,T,T,F,T,F,T,F,F,F,F,F,F,F,F] rfl rfl (any_of HT_.out (by kernel_rfl)) (fun _ _ _ h => h) (Or.inl ⟨by rfl, ?_⟩) ?_ ?_; rotate_left
                          ·intro w'; go_simp; with_reducible rfl
                          rotate_left
                          ·simp only [Act.put, sA, sB, sC, sD, sE]; rfl
                          refine pure_ (i := 7) (N := some 102) (v := ?_) (a' := ?_) #[T,T,T,F,T,F,T,T,F,F,F,F,F,F,F] rfl rfl (any_of HT_.out (by kernel_rfl)) (fun _ _ _ h => h) (Or.inl ⟨by rfl, ?_⟩) ?_ ?_; rotate_left
                          ·intro w'; go_simp; with_reducible rfl
                          rotate_left
                          ·simp only [Act.put, sA, sB, sC, sD, sE]; rfl
                          refine take_ (i := 3) (N := some 98) (v := ?_) (a' := ?_) #[T,T,T,T,T,F,T,T,F,F,F,F,F,F,F] rfl rfl (take_ofW HT_.out HW_.out (by kernel_rfl)) (fun _ _ _ h => h) (Or.inl ⟨by rfl, ?_⟩) hHeld ?_ ?_; rotate_left
                          ·rintro w' ⟨s0, s1, s2⟩; go_simp; with_reducible rfl
                          rotate_left
                          ·simp only [Act.put, sA, sB, sC, sD, sE]; rfl
                          refine pure_ (i := 5) (N := some 100) (v := ?_) (a' := ?_) #[T,T,T,T,T,T,T,T,F,F,F,F,F,F,F] rfl rfl (any_of HT_.out (by kernel_rfl)) (fun _ _ _ h => h) (Or.inl ⟨by rfl, ?_⟩) ?_ ?_; rotate_left
                          ·intro w'; go_simp; with_reducible rfl
                          rotate_left
                          ·simp only [Act.put, sA, sB, sC, sD, sE]; rfl
                          refine take_ (i := 8) (N := some 103) (v := ?_) (a' := ?_) #[T,T,T,T,T,T,T,T,T,F,F,F,F,F,F] rfl rfl (take_ofW HT_.out HW_.out (by kernel_rfl)) (fun _ _ _ h => h) (Or.inl ⟨by rfl, ?_⟩) hHeld ?_ ?_; rotate_left
                          ·rintro w' ⟨s0, s1, s2⟩; go_simp; with_reducible rfl
                          rotate_left
                          ·simp only [Act.put, sA, sB, sC, sD, sE]; rfl
                          refine pure_ (i := 9) (N := some 104) (v := ?_) (a' := ?_) #[T,T,T,T,T,T,T,T,T,T,F,F,F,F,F] rfl rfl (any_of HT_.out (by kernel_rfl)) (fun _ _ _ h => h) (Or.inl ⟨by rfl, ?_⟩) ?_ ?_; rotate_left
                          ·intro w'; go_simp; with_reducible rfl
                          rotate_left
                          ·simp only [Act.put, sA, sB, sC, sD, sE]; rfl
                          refine pure_ (i := 10) (N := some 105) (v := ?_) (a' := ?_) #[T,T,T,T,T,T,T,T,T,T,T,F,F,F,F] rfl rfl (any_of HT_.out (by kernel_rfl)) (fun _ _ _ h => h) (Or.inl ⟨by rfl, ?_⟩) ?_ ?_; rotate_left
                          ·intro w'; go_simp; with_reducible rfl
                          rotate_left
                          ·simp only [Act.put, sA, sB, sC, sD, sE]; rfl
                          refine take_ (i := 11) (N := some 106) (v := ?_) (a' := ?_) #[T,T,T,T,T,T,T,T,T,T,T,T,F,F,F] rfl rfl (take_ofW HT_.out HW_.out (by kernel_rfl)) (fun _ _ _ h => h) (Or.inl ⟨by rfl, ?_⟩) hHeld ?_ ?_; rotate_left
                          ·rintro w' ⟨s0, s1, s2⟩; go_simp; with_reducible rfl
                          rotate_left
                          ·simp only [Act.put, sA, sB, sC, sD, sE]; rfl
                          refine pure_ (i := 12) (N := some 107) (v := ?_) (a' := ?_) #[T,T,T,T,T,T,T,T,T,T,T,T,T,F,F] rfl rfl (any_of HT_.out (by kernel_rfl)) (fun _ _ _ h => h) (Or.inl ⟨by rfl, ?_⟩) ?_ ?_; rotate_left
                          ·intro w'; go_simp; with_reducible rfl
                          rotate_left
                          ·simp only [Act.put, sA, sB, sC, sD, sE]; rfl
                          refine pure_ (i := 13) (N := some 108) (v := ?_) (a' := ?_) #[T,T,T,T,T,T,T,T,T,T,T,T,T,T,F] rfl rfl (any_of HT_.out (by kernel_rfl)) (fun _ _ _ h => h) (Or.inl ⟨by rfl, ?_⟩) ?_ ?_; rotate_left
                          ·intro w'; go_simp; with_reducible rfl
                          rotate_left
                          ·simp only [Act.put, sA, sB, sC, sD, sE]; rfl
                          refine last_ (i := 14) (N := none) #[T,T,T,T,T,T,T,T,T,T,T,T,T,T,T] rfl rfl (one_of HT_.out (by kernel_rfl)) (by decide) (fun K hK => ?_); refine skip_ (w1 := ?_) (by rfl) rfl ?_ ?_; rotate_left
                          ·go_simp; rfl
                          refine hK.out _ _ ?_; clear hK K; refine done_ (done_of HT_.out (by kernel_rfl)) ?_
                          try go_wp2
                          have n0_ : Aside0 (Kd.R (Kd.int .i64) 3 (w53.setCell ⟨go37, ((ji38) : Int).toNat, none⟩ (.int .i64 (wrap64 ((rd y117 (ji38)) + 1)))) w.heap.size (fun _ => True) (.slice (some ⟨go37, 0, none⟩) x7_2.length co50) y121) := ⟨by (with_reducible repeat (first | apply Kd.R_alloc | apply Kd.R_drewN | apply Kd.R_drew)); exact HQ54.out⟩; have n1_ : Aside0 (Below w.heap.size w (w53.setCell ⟨go37, ((ji38) : Int).toNat, none⟩ (.int .i64 (wrap64 ((rd y117 (ji38)) + 1))))) := ⟨by repeat (first | (with_reducible first | exact HB.out | apply bA | apply bD | apply bE | refine below_set ?_ GB37.out) | exact HB.out)⟩; (try clear HO_7); (try clear HB); generalize (w53.setCell ⟨go37, ((ji38) : Int).toNat, none⟩ (.int .i64 (wrap64 ((rd y117 (ji38)) + 1)))) = w55 at n0_ n1_ ⊢; have HO_7 := n0_; have HB := n1_; clear n0_ n1_; have n0_ := Ak (Kd.R_drew HO_7.out); have n1_ := Ak (below_drew1 HB.out); clear HO_7 HB; have HO_7 := n0_; have HB := n1_; clear n0_ n1_; have p122 : 0 ≤ (0 : Int) := (by omega); have q122 : 0 < ((rd_L5 l1 x32_2).length : Int) := of_decide_eq_true (by first | (with_reducible assumption) | assumption); obtain ⟨ad122, e122, hx122_0⟩ := Kd.at_int HR105_0.out 0 p122 q122; have hw122_0 := hx122_0; (try rw [show ((0 : Int)).toNat = 0 from rfl] at hw122_0); (try rw [show 0 * 1 = 0 from rfl] at hw122_0); (try rw [Addr.add_zero'] at hw122_0); obtain rfl : ad106 = ad122 := (by injection e122); have qi122 : (0 < (rd_L5 l1 x32_2).length) = True := eq_true (by omega); (try rw [show ((0 : Int)).toNat = 0 from rfl] at hx122_0); (try rw [Addr.add_zero'] at hx122_0); replace hx122_0 := cB HB.out hx122_0; replace p122 := eq_true p122; replace q122 := eq_true q122; have p123 : 0 ≤ (2 : Int) := (by omega); have q123 : 2 < ((rd_L5 l1 x32_2).length : Int) := of_decide_eq_true (by first | (with_reducible assumption) | assumption); obtain ⟨ad123, e123, hx123_0⟩ := Kd.at_int HR105_0.out 2 p123 q123; have hw123_0 := hx123_0; (try rw [show ((2 : Int)).toNat = 2 from rfl] at hw123_0); (try rw [show 2 * 1 = 2 from rfl] at hw123_0); (try simp only [Nat.reduceMul, Nat.reduceEqDiff, Go.Addr.add, ↓reduceIte] at hw123_0); obtain rfl : ad106 = ad123 := (by injection e123); (try simp only [show (2 : Int).toNat = 2 from rfl, Nat.reduceMul, Nat.reduceEqDiff, Go.Addr.add, ↓reduceIte] at hx123_0); have qi123 : (2 < (rd_L5 l1 x32_2).length) = True := eq_true (by omega); (try rw [show ((2 : Int)).toNat = 2 from rfl] at hx123_0); replace hx123_0 := cB HB.out hx123_0; replace p123 := eq_true p123; replace q123 := eq_true q123; have p124 : 0 ≤ ((ji42) : Int) := of_decide_eq_true (by first | (with_reducible assumption) | assumption); have q124 : (ji42) < (y121.length : Int) := (by have h_ : ((ji42) : Int) < ((x7_2.length : Int) : Int) := of_decide_eq_true (by first | (with_reducible assumption) | assumption); first | (have e_ := (Kd.R_reads' HO_7.out).1; omega) | simpa only [Ny117.out, Ny121.out, List.length_set] using h_); have ql124 : (((ji42) : Int) < ((x7_2.length : Int) : Int)) = True := eq_true (of_decide_eq_true (by first | (with_reducible assumption) | assumption)); obtain ⟨ad124, e124, hx124_0⟩ := Kd.at_int (Kd.R_reads' HO_7.out).2.2 (ji42) p124 q124; obtain rfl : (⟨go37, 0, none⟩ : Addr) = ad124 := (by injection e124)
                          (first | simp only [add_plain] at hx124_0 | simp only [add_at] at hx124_0 | simp only [Addr.add, Nat.zero_add] at hx124_0 | skip)
                          replace p124 := eq_true p124; replace q124 := eq_true q124; have p45 : 0 ≤ ((ji42) : Int) := of_decide_eq_true (by first | (with_reducible assumption) | assumption); have q45 : ((ji42) : Int) < ((x7_2.length : Int) : Int) := of_decide_eq_true (by first | (with_reducible assumption) | assumption); obtain ⟨hx45_0, hf45_0⟩ := Kd.R_celln 0 HO_7.out ((ji42) : Int) p45 q45; replace p45 := eq_true p45; replace q45 := eq_true q45; have HP57 := Kd.R_putn HO_7.out ((ji42) : Int) (wrap64 ((rd y121 (ji42)) + 1)); rw [← Ny125.out] at HP57; have HQ57 := Ak HP57; clear HP57; refine start_ (n := 15) (S := fun w' => w'.cell? ad106 = some (.int .i64 (rd (rd_L5 l1 x32_2) 0)) ∧ w'.cell? ⟨ad106.block, ad106.off + 2, none⟩ = some (.int .i64 (rd (rd_L5 l1 x32_2) 2)) ∧ w'.cell? ⟨go37, ((ji42)).toNat, none⟩ = some (.int .i64 (rd y121 (ji42)))) (ds := [14]) #[F,F,F,F,F,F,F,F,F,F,F,F,F,F,F] (by kernel_rfl) rfl rfl ⟨((HB.out.cell (World.block_lt_of_cell? w _ hw122_0)).trans hw122_0), ((HB.out.cell (World.block_lt_of_cell? w _ hw123_0)).trans hw123_0), hx124_0⟩ (fun hHeld => ?_); refine with_tabW spec_IsTriangulation.tab14 spec_IsTriangulation.bits14 (fun HT_ HW_ => ?_); generalize w55.drew = w56 at HO_7 HB HQ54 HQ57 hf45_0 hx122_0 hx123_0 hx124_0 hx45_0 hHeld ⊢; refine pure_ (i := 0) (N := some 109) (v := ?_) (a' := ?_) #[T,F,F,F,F,F,F,F,F,F,F,F,F,F,F] rfl rfl (any_of HT_.out (by kernel_rfl)) (fun _ _ _ h => h) (Or.inl ⟨by rfl, ?_⟩) ?_ ?_; rotate_left
                          ·intro w'; go_simp; with_reducible rfl
                          rotate_left
                          ·simp only [Act.put, sA, sB, sC, sD, sE]; rfl
                          refine pure_ (i := 1) (N := some 110) (v := ?_) (a' := ?_) #[T,T,F,F,F,F,F,F,F,F,F,F,F,F,F] rfl rfl (any_of HT_.out (by kernel_rfl)) (fun _ _ _ h => h) (Or.inl ⟨by rfl, ?_⟩) ?_ ?_; rotate_left
                          ·intro w'; go_simp; with_reducible rfl
                          rotate_left
                          ·simp only [Act.put, sA, sB, sC, sD, sE]; rfl
                          refine pure_ (i := 2) (N := some 111) (v := ?_) (a' := ?_) #[T,T,T,F,F,F,F,F,F,F,F,F,F,F,F] rfl rfl (any_of HT_.out (by kernel_rfl)) (fun _ _ _ h => h) (Or.inl ⟨by rfl, ?_⟩) ?_ ?_; rotate_left
                          ·intro w'; go_simp; with_reducible rfl
                          rotate_left
                          ·simp only [Act.put, sA, sB, sC, sD, sE]; rfl
                          refine pure_ (i := 4) (N := some 113) (v := ?_) (a' := ?_) #[T,T,T,F,T,F,F,F,F,F,F,F,F,F,F] rfl rfl (any_of HT_.out (by kernel_rfl)) (fun _ _ _ h => h) (Or.inl ⟨by rfl, ?_⟩) ?_ ?_; rotate_left
                          ·intro w'; go_simp; with_reducible rfl
                          rotate_left
                          ·simp only [Act.put, sA, sB, sC, sD, sE]; rfl
                          refine pure_ (i := 6) (N := some 115) (v := ?_) (a' := ?_) #[T,T,T,F,T,F,T,F,F,F,F,F,F,F,F] rfl rfl (any_of HT_.out (by kernel_rfl)) (fun _ _ _ h => h) (Or.inl ⟨by rfl, ?_⟩) ?_ ?_; rotate_left
                          ·intro w'; go_simp; with_reducible rfl
                          rotate_left
                          ·simp only [Act.put, sA, sB, sC, sD, sE]; rfl
                          refine pure_ (i := 7) (N := some 116) (v := ?_) (a' := ?_) #[T,T,T,F,T,F,T,T,F,F,F,F,F,F,F] rfl rfl (any_of HT_.out (by kernel_rfl)) (fun _ _ _ h => h) (Or.inl ⟨by rfl, ?_⟩) ?_ ?_; rotate_left
                          ·intro w'; go_simp; with_reducible rfl
                          rotate_left
                          ·simp only [Act.put, sA, sB, sC, sD, sE]; rfl
                          refine take_ (i := 3) (N := some 112) (v := ?_) (a' := ?_) #[T,T,T,T,T,F,T,T,F,F,F,F,F,F,F] rfl rfl (take_ofW HT_.out HW_.out (by kernel_rfl)) (fun _ _ _ h => h) (Or.inl ⟨by rfl, ?_⟩) hHeld ?_ ?_; rotate_left
                          ·rintro w' ⟨s0, s1, s2⟩; go_simp; with_reducible rfl
                          rotate_left
                          ·simp only [Act.put, sA, sB, sC, sD, sE]; rfl
                          refine pure_ (i := 5) (N := some 114) (v := ?_) (a' := ?_) #[T,T,T,T,T,T,T,T,F,F,F,F,F,F,F] rfl rfl (any_of HT_.out (by kernel_rfl)) (fun _ _ _ h => h) (Or.inl ⟨by rfl, ?_⟩) ?_ ?_; rotate_left
                          ·intro w'; go_simp; with_reducible rfl
                          rotate_left
                          ·simp only [Act.put, sA, sB, sC, sD, sE]; rfl
                          refine take_ (i := 8) (N := some 117) (v := ?_) (a' := ?_) #[T,T,T,T,T,T,T,T,T,F,F,F,F,F,F] rfl rfl (take_ofW HT_.out HW_.out (by kernel_rfl)) (fun _ _ _ h => h) (Or.inl ⟨by rfl, ?_⟩) hHeld ?_ ?_; rotate_left
                          ·rintro w' ⟨s0, s1, s2⟩; go_simp; with_reducible rfl
                          rotate_left
                          ·simp only [Act.put, sA, sB, sC, sD, sE]; rfl
                          refine pure_ (i := 9) (N := some 118) (v := ?_) (a' := ?_) #[T,T,T,T,T,T,T,T,T,T,F,F,F,F,F] rfl rfl (any_of HT_.out (by kernel_rfl)) (fun _ _ _ h => h) (Or.inl ⟨by rfl, ?_⟩) ?_ ?_; rotate_left
                          ·intro w'; go_simp; with_reducible rfl
                          rotate_left
                          ·simp only [Act.put, sA, sB, sC, sD, sE]; rfl
                          refine pure_ (i := 10) (N := some 119) (v := ?_) (a' := ?_) #[T,T,T,T,T,T,T,T,T,T,T,F,F,F,F] rfl rfl (any_of HT_.out (by kernel_rfl)) (fun _ _ _ h => h) (Or.inl ⟨by rfl, ?_⟩) ?_ ?_; rotate_left
                          ·intro w'; go_simp; with_reducible rfl
                          rotate_left
                          ·simp only [Act.put, sA, sB, sC, sD, sE]; rfl
                          refine take_ (i := 11) (N := some 120) (v := ?_) (a' := ?_) #[T,T,T,T,T,T,T,T,T,T,T,T,F,F,F] rfl rfl (take_ofW HT_.out HW_.out (by kernel_rfl)) (fun _ _ _ h => h) (Or.inl ⟨by rfl, ?_⟩) hHeld ?_ ?_; rotate_left
                          ·rintro w' ⟨s0, s1, s2⟩; go_simp; with_reducible rfl
                          rotate_left
                          ·simp only [Act.put, sA, sB, sC, sD, sE]; rfl
                          refine pure_ (i := 12) (N := some 121) (v := ?_) (a' := ?_) #[T,T,T,T,T,T,T,T,T,T,T,T,T,F,F] rfl rfl (any_of HT_.out (by kernel_rfl)) (fun _ _ _ h => h) (Or.inl ⟨by rfl, ?_⟩) ?_ ?_; rotate_left
                          ·intro w'; go_simp; with_reducible rfl
                          rotate_left
                          ·simp only [Act.put, sA, sB, sC, sD, sE]; rfl
                          refine pure_ (i := 13) (N := some 122) (v := ?_) (a' := ?_) #[T,T,T,T,T,T,T,T,T,T,T,T,T,T,F] rfl rfl (any_of HT_.out (by kernel_rfl)) (fun _ _ _ h => h) (Or.inl ⟨by rfl, ?_⟩) ?_ ?_; rotate_left
                          ·intro w'; go_simp; with_reducible rfl
                          rotate_left
                          ·simp only [Act.put, sA, sB, sC, sD, sE]; rfl
                          refine last_ (i := 14) (N := none) #[T,T,T,T,T,T,T,T,T,T,T,T,T,T,T] rfl rfl (one_of HT_.out (by kernel_rfl)) (by decide) (fun K hK => ?_); refine skip_ (w1 := ?_) (by rfl) rfl ?_ ?_; rotate_left
                          ·go_simp; rfl
                          refine hK.out _ _ ?_; clear hK K; refine done_ (done_of HT_.out (by kernel_rfl)) ?_
                          try go_wp2
                          go_roundg k2
                          case measure => have := HJ2.out; have := HK2.out; omega
                          case rel => exact ⟨(wrap64 (x6_2 + t113)), (y125), (wrap64 (x32_2 + 1)), (by first | rfl | (simp; done) | (simp [*]; done)), (by first | rfl | (simp; done) | (simp [*]; done)), H', ⟨by have := HJ2.out; have := HK2.out; omega⟩, ⟨by (with_reducible repeat (first | apply Kd.R_alloc | apply Kd.R_drewN | apply Kd.R_drew)); exact HQ57.out⟩, ⟨by repeat (first | (with_reducible first | exact HB.out | apply bA | apply bD | apply bE | refine below_set ?_ GB37.out) | exact HB.out)⟩⟩
                         ·rw [if_neg c44] at H; exact absurd H (by simp)
                        ·rw [if_neg c43] at H; exact absurd H (by simp)
                       ·rw [if_neg c40] at H; exact absurd H (by simp)
                      ·rw [if_neg c39] at H; exact absurd H (by simp)
                     ·rw [if_neg c36] at H; exact absurd H (by simp)
                    ·rw [if_neg c35] at H; exact absurd H (by simp)
                ·rw [if_neg c24] at H; exact absurd H (by simp)
              ·rw [if_neg c21] at H; exact absurd H (by simp)
            ·rw [if_neg c18] at H; exact absurd H (by simp)
           ·rw [if_neg c17] at H; have c17b0 : (((rd_L5 l1 x32_2).length : Int) == 3) = false := beq_eq_false_iff_ne.mpr c17; have c17b1 : (((rd_L5 l1 x32_2).length : Int) != 3) = true := bne_iff_ne.mpr c17; obtain rfl := Option.some.inj H; have p105 : 0 ≤ (x32_2 : Int) := of_decide_eq_true (by first | (with_reducible assumption) | assumption); have q105 : x32_2 < (l1.length : Int) := of_decide_eq_true (by first | (with_reducible assumption) | assumption); obtain ⟨ad105, A105_0, c105_0, e105, hx105_0, hl105_0, hi105_0⟩ := at_L5 HR1.out x32_2 p105 q105; cases e105; replace hx105_0 := cB HB.out hx105_0; have HR105_0 := Ak hi105_0; have HC105_0 := Ak hl105_0; clear hi105_0 hl105_0; replace p105 := eq_true p105; replace q105 := eq_true q105
            try go_wp2
            have n0_ := Ak (Kd.R_drew HO_7.out); have n1_ := Ak (below_drew1 HB.out); clear HO_7 HB; have HO_7 := n0_; have HB := n1_; clear n0_ n1_; refine start_ (n := 40) (S := fun w' => True) (ds := []) #[F,F,F,F,F,F,F,F,F,F,F,F,F,F,F,F,F,F,F,F,F,F,F,F,F,F,F,F,F,F,F,F,F,F,F,F,F,F,F,F] (by kernel_rfl) rfl rfl trivial (fun hHeld => ?_); refine with_tabW spec_IsTriangulation.tab9 spec_IsTriangulation.bits9 (fun HT_ HW_ => ?_); generalize wr.drew = w58 at HO_7 HB hHeld ⊢; refine pure_ (i := 0) (N := some 36) (v := ?_) (a' := ?_) #[T,F,F,F,F,F,F,F,F,F,F,F,F,F,F,F,F,F,F,F,F,F,F,F,F,F,F,F,F,F,F,F,F,F,F,F,F,F,F,F] rfl rfl (any_of HT_.out (by kernel_rfl)) (fun _ _ _ h => h) (Or.inl ⟨by rfl, ?_⟩) ?_ ?_; rotate_left
            ·intro w'; go_simp; with_reducible rfl
            rotate_left
            ·simp only [Act.put, sA, sB, sC, sD, sE]; rfl
            refine pure_ (i := 1) (N := some 37) (v := ?_) (a' := ?_) #[T,T,F,F,F,F,F,F,F,F,F,F,F,F,F,F,F,F,F,F,F,F,F,F,F,F,F,F,F,F,F,F,F,F,F,F,F,F,F,F] rfl rfl (any_of HT_.out (by kernel_rfl)) (fun _ _ _ h => h) (Or.inl ⟨by rfl, ?_⟩) ?_ ?_; rotate_left
            ·intro w'; go_simp; with_reducible rfl
            rotate_left
            ·simp only [Act.put, sA, sB, sC, sD, sE]; rfl
            refine pure_ (i := 2) (N := some 38) (v := ?_) (a' := ?_) #[T,T,T,F,F,F,F,F,F,F,F,F,F,F,F,F,F,F,F,F,F,F,F,F,F,F,F,F,F,F,F,F,F,F,F,F,F,F,F,F] rfl rfl (any_of HT_.out (by kernel_rfl)) (fun _ _ _ h => h) (Or.inl ⟨by rfl, ?_⟩) ?_ ?_; rotate_left
            ·intro w'; go_simp; with_reducible rfl
            rotate_left
            ·simp only [Act.put, sA, sB, sC, sD, sE]; rfl
            refine pure_ (i := 3) (N := some 39) (v := ?_) (a' := ?_) #[T,T,T,T,F,F,F,F,F,F,F,F,F,F,F,F,F,F,F,F,F,F,F,F,F,F,F,F,F,F,F,F,F,F,F,F,F,F,F,F] rfl rfl (any_of HT_.out (by kernel_rfl)) (fun _ _ _ h => h) (Or.inl ⟨by rfl, ?_⟩) ?_ ?_; rotate_left
            ·intro w'; go_simp; with_reducible rfl
            rotate_left
            ·simp only [Act.put, sA, sB, sC, sD, sE]; rfl
            refine pure_ (i := 4) (N := some 40) (v := undef) (a' := ?_) #[T,T,T,T,T,F,F,F,F,F,F,F,F,F,F,F,F,F,F,F,F,F,F,F,F,F,F,F,F,F,F,F,F,F,F,F,F,F,F,F] rfl rfl (any_of HT_.out (by kernel_rfl)) (fun _ _ _ h => h) (Or.inr ⟨by rfl, rfl⟩) ?_ ?_; rotate_left
            ·simp only [Act.put, sA, sB, sC, sD, sE]; rfl
            refine pure_ (i := 5) (N := some 41) (v := undef) (a' := ?_) #[T,T,T,T,T,T,F,F,F,F,F,F,F,F,F,F,F,F,F,F,F,F,F,F,F,F,F,F,F,F,F,F,F,F,F,F,F,F,F,F] rfl rfl (any_of HT_.out (by kernel_rfl)) (fun _ _ _ h => h) (Or.inr ⟨by rfl, rfl⟩) ?_ ?_; rotate_left
            ·simp only [Act.put, sA, sB, sC, sD, sE]; rfl
            refine pure_ (i := 6) (N := some 42) (v := undef) (a' := ?_) #[T,T,T,T,T,T,T,F,F,F,F,F,F,F,F,F,F,F,F,F,F,F,F,F,F,F,F,F,F,F,F,F,F,F,F,F,F,F,F,F] rfl rfl (any_of HT_.out (by kernel_rfl)) (fun _ _ _ h => h) (Or.inr ⟨by rfl, rfl⟩) ?_ ?_; rotate_left
            ·simp only [Act.put, sA, sB, sC, sD, sE]; rfl
            refine pure_ (i := 7) (N := some 43) (v := undef) (a' := ?_) #[T,T,T,T,T,T,T,T,F,F,F,F,F,F,F,F,F,F,F,F,F,F,F,F,F,F,F,F,F,F,F,F,F,F,F,F,F,F,F,F] rfl rfl (any_of HT_.out (by kernel_rfl)) (fun _ _ _ h => h) (Or.inr ⟨by rfl, rfl⟩) ?_ ?_; rotate_left
            ·simp only [Act.put, sA, sB, sC, sD, sE]; rfl
            refine pure_ (i := 8) (N := some 44) (v := ?_) (a' := ?_) #[T,T,T,T,T,T,T,T,T,F,F,F,F,F,F,F,F,F,F,F,F,F,F,F,F,F,F,F,F,F,F,F,F,F,F,F,F,F,F,F] rfl rfl (any_of HT_.out (by kernel_rfl)) (fun _ _ _ h => h) (Or.inl ⟨by rfl, ?_⟩) ?_ ?_; rotate_left
            ·intro w'; go_simp; with_reducible rfl
            rotate_left
            ·simp only [Act.put, sA, sB, sC, sD, sE]; rfl
            refine pure_ (i := 9) (N := some 45) (v := ?_) (a' := ?_) #[T,T,T,T,T,T,T,T,T,T,F,F,F,F,F,F,F,F,F,F,F,F,F,F,F,F,F,F,F,F,F,F,F,F,F,F,F,F,F,F] rfl rfl (any_of HT_.out (by kernel_rfl)) (fun _ _ _ h => h) (Or.inl ⟨by rfl, ?_⟩) ?_ ?_; rotate_left
            ·intro w'; go_simp; with_reducible rfl
            rotate_left
            ·simp only [Act.put, sA, sB, sC, sD, sE]; rfl
            refine pure_ (i := 10) (N := some 46) (v := undef) (a' := ?_) #[T,T,T,T,T,T,T,T,T,T,T,F,F,F,F,F,F,F,F,F,F,F,F,F,F,F,F,F,F,F,F,F,F,F,F,F,F,F,F,F] rfl rfl (any_of HT_.out (by kernel_rfl)) (fun _ _ _ h => h) (Or.inr ⟨by rfl, rfl⟩) ?_ ?_; rotate_left
            ·simp only [Act.put, sA, sB, sC, sD, sE]; rfl
            refine pure_ (i := 11) (N := some 47) (v := undef) (a' := ?_) #[T,T,T,T,T,T,T,T,T,T,T,T,F,F,F,F,F,F,F,F,F,F,F,F,F,F,F,F,F,F,F,F,F,F,F,F,F,F,F,F] rfl rfl (any_of HT_.out (by kernel_rfl)) (fun _ _ _ h => h) (Or.inr ⟨by rfl, rfl⟩) ?_ ?_; rotate_left
            ·simp only [Act.put, sA, sB, sC, sD, sE]; rfl
            refine pure_ (i := 12) (N := some 48) (v := undef) (a' := ?_) #[T,T,T,T,T,T,T,T,T,T,T,T,T,F,F,F,F,F,F,F,F,F,F,F,F,F,F,F,F,F,F,F,F,F,F,F,F,F,F,F] rfl rfl (any_of HT_.out (by kernel_rfl)) (fun _ _ _ h => h) (Or.inr ⟨by rfl, rfl⟩) ?_ ?_; rotate_left
            ·simp only [Act.put, sA, sB, sC, sD, sE]; rfl
            refine pure_ (i := 13) (N := some 49) (v := undef) (a' := ?_) #[T,T,T,T,T,T,T,T,T,T,T,T,T,T,F,F,F,F,F,F,F,F,F,F,F,F,F,F,F,F,F,F,F,F,F,F,F,F,F,F] rfl rfl (any_of HT_.out (by kernel_rfl)) (fun _ _ _ h => h) (Or.inr ⟨by rfl, rfl⟩) ?_ ?_; rotate_left
            ·simp only [Act.put, sA, sB, sC, sD, sE]; rfl
            refine pure_ (i := 14) (N := some 50) (v := undef) (a' := ?_) #[T,T,T,T,T,T,T,T,T,T,T,T,T,T,T,F,F,F,F,F,F,F,F,F,F,F,F,F,F,F,F,F,F,F,F,F,F,F,F,F] rfl rfl (any_of HT_.out (by kernel_rfl)) (fun _ _ _ h => h) (Or.inr ⟨by rfl, rfl⟩) ?_ ?_; rotate_left
            ·simp only [Act.put, sA, sB, sC, sD, sE]; rfl
            refine pure_ (i := 15) (N := some 51) (v := undef) (a' := ?_) #[T,T,T,T,T,T,T,T,T,T,T,T,T,T,T,T,F,F,F,F,F,F,F,F,F,F,F,F,F,F,F,F,F,F,F,F,F,F,F,F] rfl rfl (any_of HT_.out (by kernel_rfl)) (fun _ _ _ h => h) (Or.inr ⟨by rfl, rfl⟩) ?_ ?_; rotate_left
            ·simp only [Act.put, sA, sB, sC, sD, sE]; rfl
            refine pure_ (i := 16) (N := some 52) (v := undef) (a' := ?_) #[T,T,T,T,T,T,T,T,T,T,T,T,T,T,T,T,T,F,F,F,F,F,F,F,F,F,F,F,F,F,F,F,F,F,F,F,F,F,F,F] rfl rfl (any_of HT_.out (by kernel_rfl)) (fun _ _ _ h => h) (Or.inr ⟨by rfl, rfl⟩) ?_ ?_; rotate_left
            ·simp only [Act.put, sA, sB, sC, sD, sE]; rfl
            refine pure_ (i := 17) (N := some 53) (v := ?_) (a' := ?_) #[T,T,T,T,T,T,T,T,T,T,T,T,T,T,T,T,T,T,F,F,F,F,F,F,F,F,F,F,F,F,F,F,F,F,F,F,F,F,F,F] rfl rfl (any_of HT_.out (by kernel_rfl)) (fun _ _ _ h => h) (Or.inl ⟨by rfl, ?_⟩) ?_ ?_; rotate_left
            ·intro w'; go_simp; with_reducible rfl
            rotate_left
            ·simp only [Act.put, sA, sB, sC, sD, sE]; rfl
            refine pure_ (i := 18) (N := some 54) (v := ?_) (a' := ?_) #[T,T,T,T,T,T,T,T,T,T,T,T,T,T,T,T,T,T,T,F,F,F,F,F,F,F,F,F,F,F,F,F,F,F,F,F,F,F,F,F] rfl rfl (any_of HT_.out (by kernel_rfl)) (fun _ _ _ h => h) (Or.inl ⟨by rfl, ?_⟩) ?_ ?_; rotate_left
            ·intro w'; go_simp; with_reducible rfl
            rotate_left
            ·simp only [Act.put, sA, sB, sC, sD, sE]; rfl
            refine pure_ (i := 19) (N := some 55) (v := undef) (a' := ?_) #[T,T,T,T,T,T,T,T,T,T,T,T,T,T,T,T,T,T,T,T,F,F,F,F,F,F,F,F,F,F,F,F,F,F,F,F,F,F,F,F] rfl rfl (any_of HT_.out (by kernel_rfl)) (fun _ _ _ h => h) (Or.inr ⟨by rfl, rfl⟩) ?_ ?_; rotate_left
            ·simp only [Act.put, sA, sB, sC, sD, sE]; rfl
            refine pure_ (i := 20) (N := some 56) (v := undef) (a' := ?_) #[T,T,T,T,T,T,T,T,T,T,T,T,T,T,T,T,T,T,T,T,T,F,F,F,F,F,F,F,F,F,F,F,F,F,F,F,F,F,F,F] rfl rfl (any_of HT_.out (by kernel_rfl)) (fun _ _ _ h => h) (Or.inr ⟨by rfl, rfl⟩) ?_ ?_; rotate_left
            ·simp only [Act.put, sA, sB, sC, sD, sE]; rfl
            refine pure_ (i := 21) (N := some 57) (v := undef) (a' := ?_) #[T,T,T,T,T,T,T,T,T,T,T,T,T,T,T,T,T,T,T,T,T,T,F,F,F,F,F,F,F,F,F,F,F,F,F,F,F,F,F,F] rfl rfl (any_of HT_.out (by kernel_rfl)) (fun _ _ _ h => h) (Or.inr ⟨by rfl, rfl⟩) ?_ ?_; rotate_left
            ·simp only [Act.put, sA, sB, sC, sD, sE]; rfl
            refine pure_ (i := 22) (N := some 58) (v := undef) (a' := ?_) #[T,T,T,T,T,T,T,T,T,T,T,T,T,T,T,T,T,T,T,T,T,T,T,F,F,F,F,F,F,F,F,F,F,F,F,F,F,F,F,F] rfl rfl (any_of HT_.out (by kernel_rfl)) (fun _ _ _ h => h) (Or.inr ⟨by rfl, rfl⟩) ?_ ?_; rotate_left
            ·simp only [Act.put, sA, sB, sC, sD, sE]; rfl
            refine pure_ (i := 23) (N := some 59) (v := undef) (a' := ?_) #[T,T,T,T,T,T,T,T,T,T,T,T,T,T,T,T,T,T,T,T,T,T,T,T,F,F,F,F,F,F,F,F,F,F,F,F,F,F,F,F] rfl rfl (any_of HT_.out (by kernel_rfl)) (fun _ _ _ h => h) (Or.inr ⟨by rfl, rfl⟩) ?_ ?_; rotate_left
            ·simp only [Act.put, sA, sB, sC, sD, sE]; rfl
            refine pure_ (i := 24) (N := some 60) (v := undef) (a' := ?_) #[T,T,T,T,T,T,T,T,T,T,T,T,T,T,T,T,T,T,T,T,T,T,T,T,T,F,F,F,F,F,F,F,F,F,F,F,F,F,F,F] rfl rfl (any_of HT_.out (by kernel_rfl)) (fun _ _ _ h => h) (Or.inr ⟨by rfl, rfl⟩) ?_ ?_; rotate_left
            ·simp only [Act.put, sA, sB, sC, sD, sE]; rfl
            refine pure_ (i := 25) (N := some 61) (v := undef) (a' := ?_) #[T,T,T,T,T,T,T,T,T,T,T,T,T,T,T,T,T,T,T,T,T,T,T,T,T,T,F,F,F,F,F,F,F,F,F,F,F,F,F,F] rfl rfl (any_of HT_.out (by kernel_rfl)) (fun _ _ _ h => h) (Or.inr ⟨by rfl, rfl⟩) ?_ ?_; rotate_left
            ·simp only [Act.put, sA, sB, sC, sD, sE]; rfl
            refine pure_ (i := 26) (N := some 62) (v := ?_) (a' := ?_) #[T,T,T,T,T,T,T,T,T,T,T,T,T,T,T,T,T,T,T,T,T,T,T,T,T,T,T,F,F,F,F,F,F,F,F,F,F,F,F,F] rfl rfl (any_of HT_.out (by kernel_rfl)) (fun _ _ _ h => h) (Or.inl ⟨by rfl, ?_⟩) ?_ ?_; rotate_left
            ·intro w'; go_simp; with_reducible rfl
            rotate_left
            ·simp only [Act.put, sA, sB, sC, sD, sE]; rfl
            refine pure_ (i := 27) (N := some 63) (v := ?_) (a' := ?_) #[T,T,T,T,T,T,T,T,T,T,T,T,T,T,T,T,T,T,T,T,T,T,T,T,T,T,T,T,F,F,F,F,F,F,F,F,F,F,F,F] rfl rfl (any_of HT_.out (by kernel_rfl)) (fun _ _ _ h => h) (Or.inl ⟨by rfl, ?_⟩) ?_ ?_; rotate_left
            ·intro w'; go_simp; with_reducible rfl
            rotate_left
            ·simp only [Act.put, sA, sB, sC, sD, sE]; rfl
            refine pure_ (i := 28) (N := some 64) (v := undef) (a' := ?_) #[T,T,T,T,T,T,T,T,T,T,T,T,T,T,T,T,T,T,T,T,T,T,T,T,T,T,T,T,T,F,F,F,F,F,F,F,F,F,F,F] rfl rfl (any_of HT_.out (by kernel_rfl)) (fun _ _ _ h => h) (Or.inr ⟨by rfl, rfl⟩) ?_ ?_; rotate_left
            ·simp only [Act.put, sA, sB, sC, sD, sE]; rfl
            refine pure_ (i := 29) (N := some 65) (v := undef) (a' := ?_) #[T,T,T,T,T,T,T,T,T,T,T,T,T,T,T,T,T,T,T,T,T,T,T,T,T,T,T,T,T,T,F,F,F,F,F,F,F,F,F,F] rfl rfl (any_of HT_.out (by kernel_rfl)) (fun _ _ _ h => h) (Or.inr ⟨by rfl, rfl⟩) ?_ ?_; rotate_left
            ·simp only [Act.put, sA, sB, sC, sD, sE]; rfl
            refine pure_ (i := 30) (N := some 66) (v := undef) (a' := ?_) #[T,T,T,T,T,T,T,T,T,T,T,T,T,T,T,T,T,T,T,T,T,T,T,T,T,T,T,T,T,T,T,F,F,F,F,F,F,F,F,F] rfl rfl (any_of HT_.out (by kernel_rfl)) (fun _ _ _ h => h) (Or.inr ⟨by rfl, rfl⟩) ?_ ?_; rotate_left
            ·simp only [Act.put, sA, sB, sC, sD, sE]; rfl
            refine pure_ (i := 31) (N := some 67) (v := undef) (a' := ?_) #[T,T,T,T,T,T,T,T,T,T,T,T,T,T,T,T,T,T,T,T,T,T,T,T,T,T,T,T,T,T,T,T,F,F,F,F,F,F,F,F] rfl rfl (any_of HT_.out (by kernel_rfl)) (fun _ _ _ h => h) (Or.inr ⟨by rfl, rfl⟩) ?_ ?_; rotate_left
            ·simp only [Act.put, sA, sB, sC, sD, sE]; rfl
            refine pure_ (i := 32) (N := some 68) (v := undef) (a' := ?_) #[T,T,T,T,T,T,T,T,T,T,T,T,T,T,T,T,T,T,T,T,T,T,T,T,T,T,T,T,T,T,T,T,T,F,F,F,F,F,F,F] rfl rfl (any_of HT_.out (by kernel_rfl)) (fun _ _ _ h => h) (Or.inr ⟨by rfl, rfl⟩) ?_ ?_; rotate_left
            ·simp only [Act.put, sA, sB, sC, sD, sE]; rfl
            refine pure_ (i := 33) (N := some 69) (v := ?_) (a' := ?_) #[T,T,T,T,T,T,T,T,T,T,T,T,T,T,T,T,T,T,T,T,T,T,T,T,T,T,T,T,T,T,T,T,T,T,F,F,F,F,F,F] rfl rfl (any_of HT_.out (by kernel_rfl)) (fun _ _ _ h => h) (Or.inl ⟨by rfl, ?_⟩) ?_ ?_; rotate_left
            ·intro w'; go_simp; with_reducible rfl
            rotate_left
            ·simp only [Act.put, sA, sB, sC, sD, sE]; rfl
            refine pure_ (i := 34) (N := some 70) (v := ?_) (a' := ?_) #[T,T,T,T,T,T,T,T,T,T,T,T,T,T,T,T,T,T,T,T,T,T,T,T,T,T,T,T,T,T,T,T,T,T,T,F,F,F,F,F] rfl rfl (any_of HT_.out (by kernel_rfl)) (fun _ _ _ h => h) (Or.inl ⟨by rfl, ?_⟩) ?_ ?_; rotate_left
            ·intro w'; go_simp; with_reducible rfl
            rotate_left
            ·simp only [Act.put, sA, sB, sC, sD, sE]; rfl
            refine pure_ (i := 35) (N := some 71) (v := undef) (a' := ?_) #[T,T,T,T,T,T,T,T,T,T,T,T,T,T,T,T,T,T,T,T,T,T,T,T,T,T,T,T,T,T,T,T,T,T,T,T,F,F,F,F] rfl rfl (any_of HT_.out (by kernel_rfl)) (fun _ _ _ h => h) (Or.inr ⟨by rfl, rfl⟩) ?_ ?_; rotate_left
            ·simp only [Act.put, sA, sB, sC, sD, sE]; rfl
            refine pure_ (i := 36) (N := some 72) (v := undef) (a' := ?_) #[T,T,T,T,T,T,T,T,T,T,T,T,T,T,T,T,T,T,T,T,T,T,T,T,T,T,T,T,T,T,T,T,T,T,T,T,T,F,F,F] rfl rfl (any_of HT_.out (by kernel_rfl)) (fun _ _ _ h => h) (Or.inr ⟨by rfl, rfl⟩) ?_ ?_; rotate_left
            ·simp only [Act.put, sA, sB, sC, sD, sE]; rfl
            refine pure_ (i := 37) (N := some 73) (v := undef) (a' := ?_) #[T,T,T,T,T,T,T,T,T,T,T,T,T,T,T,T,T,T,T,T,T,T,T,T,T,T,T,T,T,T,T,T,T,T,T,T,T,T,F,F] rfl rfl (any_of HT_.out (by kernel_rfl)) (fun _ _ _ h => h) (Or.inr ⟨by rfl, rfl⟩) ?_ ?_; rotate_left
            ·simp only [Act.put, sA, sB, sC, sD, sE]; rfl
            refine pure_ (i := 38) (N := some 74) (v := undef) (a' := ?_) #[T,T,T,T,T,T,T,T,T,T,T,T,T,T,T,T,T,T,T,T,T,T,T,T,T,T,T,T,T,T,T,T,T,T,T,T,T,T,T,F] rfl rfl (any_of HT_.out (by kernel_rfl)) (fun _ _ _ h => h) (Or.inr ⟨by rfl, rfl⟩) ?_ ?_; rotate_left
            ·simp only [Act.put, sA, sB, sC, sD, sE]; rfl
            refine pure_ (i := 39) (N := some 75) (v := ?_) (a' := ?_) #[T,T,T,T,T,T,T,T,T,T,T,T,T,T,T,T,T,T,T,T,T,T,T,T,T,T,T,T,T,T,T,T,T,T,T,T,T,T,T,T] rfl rfl (any_of HT_.out (by kernel_rfl)) (fun _ _ _ h => h) (Or.inl ⟨by rfl, ?_⟩) ?_ ?_; rotate_left
            ·intro w'; go_simp; with_reducible rfl
            rotate_left
            ·simp only [Act.put, sA, sB, sC, sD, sE]; rfl
            refine done_ (done_of HT_.out (by kernel_rfl)) ?_
            try go_wp2
            go_ret
            exact ⟨by first | rfl | (simp [errW_none, errW_some] <;> rfl) | (simp only [← hji9]; first | rfl | (simp [errW_none, errW_some] <;> rfl)) | (simp [*, errW_none, errW_some] <;> rfl), by repeat (first | (with_reducible first | exact HB.out | apply bA | apply bD | apply bE) | exact HB.out)⟩
          ·rw [if_neg c16] at H; exact absurd H (by simp)
         ·rw [if_neg c15] at H; exact absurd H (by simp)
        ·rw [if_neg c14] at H; have c14b0 : decide (x32_2 < (l1.length : Int)) = false := decide_eq_false c14; clear c14; have H' := Ak H; clear H
         go_wp2
         go_loopg [10] k2 (fun kq v10 w' => ∃ (x10_3 : Int), v10 = .int .i64 x10_3 ∧ Aside0 (spec_IsTriangulation.l1 kq l0 (l0.length : Int) x6_2 x7_2 x10_3 = some r) ∧ Aside0 (kq ≤ k2) ∧ Aside0 (Kd.R (Kd.int .i64) 3 w' w.heap.size (fun _ => True) v103 x7_2) ∧ Aside0 (Below w.heap.size w w'))
         case atStart => exact ⟨(0), (by first | rfl | (simp; done) | (simp [*]; done)), H', ⟨Nat.le_refl _⟩, ⟨by (with_reducible repeat (first | apply Kd.R_alloc | apply Kd.R_drewN | apply Kd.R_drew)); exact HO_7.out⟩, ⟨by repeat (first | (with_reducible first | exact HB.out | apply bA | apply bD | apply bE) | exact HB.out)⟩⟩
         case round =>
          clear H'
          try clear c1
          try clear p1
          try clear q1
          try clear hx1
          try clear qi1
          try clear c2
          try clear p2
          try clear c3
          try clear c4
          try clear p4
          try clear q4
          try clear hx4
          try clear hf4
          try clear p6
          try clear c10
          try clear p10
          try clear q10
          try clear hx10
          try clear p11
          try clear q11
          try clear hx11
          try clear p12
          try clear q12
          try clear hx12
          try clear qi12
          try clear c14
          try clear c14b0
          try clear c15
          try clear c16
          try clear c17
          try clear c17b0
          try clear c17b1
          try clear c18
          try clear c21
          try clear c24
          try clear c35
          try clear c36
          try clear c39
          try clear c40
          try clear p41
          try clear q41
          try clear hx41
          try clear hf41
          try clear c43
          try clear c44
          try clear p45
          try clear q45
          try clear hx45
          try clear hf45
          try clear hx105_0
          try clear hx118_0
          try clear hx119_0
          try clear hx120_0
          try clear hx122_0
          try clear hx123_0
          try clear hx124_0
          try clear hx41_0
          try clear hx45_0
          try clear p105
          try clear p119
          try clear p120
          try clear p122
          try clear p123
          try clear p124
          try clear p41
          try clear p45
          try clear q105
          try clear q119
          try clear q120
          try clear q122
          try clear q123
          try clear q124
          try clear q41
          try clear q45
          obtain ⟨x10_3, rfl, HA, HK3, HO_7, HB⟩ := hrel
          cases gk with
          | zero => exact absurd HA.out (by simp [spec_IsTriangulation.l1])
          | succ k3 =>
           have H := HA.out; clear HA; simp only [spec_IsTriangulation.l1] at H
           by_cases c59 : x10_3 < (l0.length : Int)
           ·rw [if_pos c59] at H; have c59b0 : decide (x10_3 < (l0.length : Int)) = true := decide_eq_true c59; clear c59; have H' := Ak H; clear H
            go_wp2
            go_loopg [11] k3 (fun kq v11 w' => ∃ (x11_4 : Int), v11 = .int .i64 x11_4 ∧ Aside0 (spec_IsTriangulation.l2 kq l0 (l0.length : Int) x6_2 x7_2 x10_3 x11_4 = some r) ∧ Aside0 (kq ≤ k3) ∧ Aside0 (Kd.R (Kd.int .i64) 3 w' w.heap.size (fun _ => True) v103 x7_2) ∧ Aside0 (Below w.heap.size w w'))
            case atStart => exact ⟨(wrap64 (x10_3 + 1)), (by first | rfl | (simp; done) | (simp [*]; done)), H', ⟨Nat.le_refl _⟩, ⟨by (with_reducible repeat (first | apply Kd.R_alloc | apply Kd.R_drewN | apply Kd.R_drew)); exact HO_7.out⟩, ⟨by repeat (first | (with_reducible first | exact HB.out | apply bA | apply bD | apply bE) | exact HB.out)⟩⟩
            case round =>
             clear H'
             try clear c1
             try clear p1
             try clear q1
             try clear hx1
             try clear qi1
             try clear c2
             try clear p2
             try clear c3
             try clear c4
             try clear p4
             try clear q4
             try clear hx4
             try clear hf4
             try clear c5
             try clear p6
             try clear c10
             try clear p10
             try clear q10
             try clear hx10
             try clear p11
             try clear q11
             try clear hx11
             try clear p12
             try clear q12
             try clear hx12
             try clear qi12
             try clear c14
             try clear c14b0
             try clear c15
             try clear c16
             try clear c17
             try clear c17b0
             try clear c17b1
             try clear c18
             try clear c21
             try clear c24
             try clear c35
             try clear c36
             try clear c39
             try clear c40
             try clear p41
             try clear q41
             try clear hx41
             try clear hf41
             try clear c43
             try clear c44
             try clear p45
             try clear q45
             try clear hx45
             try clear hf45
             try clear c59
             try clear c59b0
             try clear hx105_0
             try clear hx118_0
             try clear hx119_0
             try clear hx120_0
             try clear hx122_0
             try clear hx123_0
             try clear hx124_0
             try clear hx41_0
             try clear hx45_0
             try clear p1
             try clear p10
             try clear p105
             try clear p11
             try clear p119
             try clear p12
             try clear p120
             try clear p122
             try clear p123
             try clear p124
             try clear p2
             try clear p4
             try clear p41
             try clear p45
             try clear p6
             try clear q1
             try clear q10
             try clear q105
             try clear q11
             try clear q119
             try clear q12
             try clear q120
             try clear q122
             try clear q123
             try clear q124
             try clear q4
             try clear q41
             try clear q45
             obtain ⟨x11_4, rfl, HA, HK4, HO_7, HB⟩ := hrel
             cases gk with
             | zero => exact absurd HA.out (by simp [spec_IsTriangulation.l2])
             | succ k4 =>
              have H := HA.out; clear HA; simp only [spec_IsTriangulation.l2] at H
              by_cases c60 : x11_4 < (l0.length : Int)
              ·rw [if_pos c60] at H; have c60b0 : decide (x11_4 < (l0.length : Int)) = true := decide_eq_true c60; clear c60; obtain ⟨ji61, hji61⟩ : ∃ j_ : Int, (wrap64 ((wrap64 (x10_3 * (l0.length : Int))) + x11_4)) = j_ := ⟨_, rfl⟩; replace H : (if 0 ≤ (ji61) then (if (ji61) < (x7_2.length : Int) then (if x11_4 = (wrap64 (x10_3 + 1)) then (spec_IsTriangulation.j4 k4 l0 (l0.length : Int) x6_2 x7_2 x10_3 x11_4 (rd x7_2 (ji61)) true) else (if x10_3 = 0 then (spec_IsTriangulation.j4 k4 l0 (l0.length : Int) x6_2 x7_2 x10_3 x11_4 (rd x7_2 (ji61)) (x11_4 == (wrap64 ((l0.length : Int) - 1)))) else (spec_IsTriangulation.j4 k4 l0 (l0.length : Int) x6_2 x7_2 x10_3 x11_4 (rd x7_2 (ji61)) false))) else (none)) else (none)) = some r := by first | (rw [hji61] at H; exact H) | (simp only [hji61] at H ⊢; exact H)
               have hji61w : (IntKind.i64.wrap ((wrap64 (x10_3 * (l0.length : Int))) + x11_4)) = ji61 := (i64_w _).trans hji61
               by_cases c62 : 0 ≤ (ji61)
               ·rw [if_pos c62] at H; have c62b0 : decide (0 ≤ (ji61)) = true := decide_eq_true c62; clear c62
                by_cases c63 : (ji61) < (x7_2.length : Int)
                ·rw [if_pos c63] at H; have c63b0 : decide ((ji61) < (x7_2.length : Int)) = true := decide_eq_true c63; clear c63; have HC64 := Ak H; clear H; obtain ⟨Ao65, co65, eo65⟩ := Kd.R_slice HO_7.out; subst eo65; have p128 : 0 ≤ ((ji61) : Int) := of_decide_eq_true (by first | (with_reducible assumption) | assumption); have q128 : (ji61) < (x7_2.length : Int) := of_decide_eq_true (by first | (with_reducible assumption) | assumption); obtain ⟨ad128, e128, hx128_0⟩ := Kd.at_int (Kd.R_reads' HO_7.out).2.2 (ji61) p128 q128; cases e128; replace p128 := eq_true p128; replace q128 := eq_true q128
                 go_upto_region 23 with (fail)
                 go_cut [157] (fun v157 wc => ∃ (kq : Nat) (x157_63 : Bool), v157 = .bool x157_63 ∧ Aside0 (spec_IsTriangulation.j4 kq l0 (l0.length : Int) x6_2 x7_2 x10_3 x11_4 (rd x7_2 (ji61)) x157_63 = some r) ∧ Aside0 (kq ≤ k4) ∧ Aside0 (Kd.R (Kd.int .i64) 3 wc w.heap.size (fun _ => True) (.slice (some ad128) x7_2.length co65) x7_2) ∧ Aside0 (Below w.heap.size w wc))
                 case first =>
                  have H := HC64.out; clear HC64
                  by_cases c66 : x11_4 = (wrap64 (x10_3 + 1))
                  ·rw [if_pos c66] at H; have c66b0 : (x11_4 == (wrap64 (x10_3 + 1))) = true := beq_iff_eq.mpr c66; have c66b1 : (x11_4 != (wrap64 (x10_3 + 1))) = false := bne_eq_false_iff_eq.mpr c66; clear c66
                   (first | rw [c66b0] | (simp only [i64_w, i32_w]; rw [c66b0]) | skip)
                   have H' := Ak H; clear H
                   go_wp2
                   go_meet
                   case rel => exact ⟨_, (true), (by first | rfl | (simp; done) | (simp [*]; done)), H', ⟨by have := HJ2.out; have := HK2.out; have := HK3.out; have := HK4.out; first | omega | exact Nat.le_refl _⟩, ⟨by (with_reducible repeat (first | apply Kd.R_alloc | apply Kd.R_drewN | apply Kd.R_drew)); exact HO_7.out⟩, ⟨by repeat (first | (with_reducible first | exact HB.out | apply bA | apply bD | apply bE) | exact HB.out)⟩⟩
                  ·rw [if_neg c66] at H; have c66b0 : (x11_4 == (wrap64 (x10_3 + 1))) = false := beq_eq_false_iff_ne.mpr c66; have c66b1 : (x11_4 != (wrap64 (x10_3 + 1))) = true := bne_iff_ne.mpr c66
                   (first | rw [c66b0] | (simp only [i64_w, i32_w]; rw [c66b0]) | skip)
                   by_cases c67 : x10_3 = 0
                   ·rw [if_pos c67] at H; have c67b0 : (x10_3 == 0) = true := beq_iff_eq.mpr c67; have c67b1 : (x10_3 != 0) = false := bne_eq_false_iff_eq.mpr c67; clear c67; have H' := Ak H; clear H
                    go_wp2
                    go_meet
                    case rel => exact ⟨_, ((x11_4 == (wrap64 ((l0.length : Int) - 1)))), (by first | rfl | (simp; done) | (simp [*]; done)), H', ⟨by have := HJ2.out; have := HK2.out; have := HK3.out; have := HK4.out; first | omega | exact Nat.le_refl _⟩, ⟨by (with_reducible repeat (first | apply Kd.R_alloc | apply Kd.R_drewN | apply Kd.R_drew)); exact HO_7.out⟩, ⟨by repeat (first | (with_reducible first | exact HB.out | apply bA | apply bD | apply bE) | exact HB.out)⟩⟩
                   ·rw [if_neg c67] at H; have c67b0 : (x10_3 == 0) = false := beq_eq_false_iff_ne.mpr c67; have c67b1 : (x10_3 != 0) = true := bne_iff_ne.mpr c67; have H' := Ak H; clear H
                    go_wp2
                    go_meet
                    case rel => exact ⟨_, (false), (by first | rfl | (simp; done) | (simp [*]; done)), H', ⟨by have := HJ2.out; have := HK2.out; have := HK3.out; have := HK4.out; first | omega | exact Nat.le_refl _⟩, ⟨by (with_reducible repeat (first | apply Kd.R_alloc | apply Kd.R_drewN | apply Kd.R_drew)); exact HO_7.out⟩, ⟨by repeat (first | (with_reducible first | exact HB.out | apply bA | apply bD | apply bE) | exact HB.out)⟩⟩
                 case rest =>
                  clear HC64
                  try clear c1
                  try clear p1
                  try clear q1
                  try clear hx1
                  try clear qi1
                  try clear c2
                  try clear p2
                  try clear c3
                  try clear c4
                  try clear p4
                  try clear q4
                  try clear hx4
                  try clear hf4
                  try clear c5
                  try clear c6
                  try clear p6
                  try clear c10
                  try clear p10
                  try clear q10
                  try clear hx10
                  try clear p11
                  try clear q11
                  try clear hx11
                  try clear p12
                  try clear q12
                  try clear hx12
                  try clear qi12
                  try clear c14
                  try clear c14b0
                  try clear c15
                  try clear c16
                  try clear c17
                  try clear c17b0
                  try clear c17b1
                  try clear c18
                  try clear c21
                  try clear c24
                  try clear c35
                  try clear c36
                  try clear c39
                  try clear c40
                  try clear p41
                  try clear q41
                  try clear hx41
                  try clear hf41
                  try clear c43
                  try clear c44
                  try clear p45
                  try clear q45
                  try clear hx45
                  try clear hf45
                  try clear c59
                  try clear c59b0
                  try clear c60
                  try clear c60b0
                  try clear c62
                  try clear c62b0
                  try clear c63
                  try clear c63b0
                  try clear p64
                  try clear c66
                  try clear c66b0
                  try clear c66b1
                  try clear c67
                  try clear c67b0
                  try clear c67b1
                  try clear hx105_0
                  try clear hx118_0
                  try clear hx119_0
                  try clear hx120_0
                  try clear hx122_0
                  try clear hx123_0
                  try clear hx124_0
                  try clear hx128_0
                  try clear hx41_0
                  try clear hx45_0
                  try clear p1
                  try clear p10
                  try clear p105
                  try clear p11
                  try clear p119
                  try clear p12
                  try clear p120
                  try clear p122
                  try clear p123
                  try clear p124
                  try clear p128
                  try clear p2
                  try clear p4
                  try clear p41
                  try clear p45
                  try clear p6
                  try clear q1
                  try clear q10
                  try clear q105
                  try clear q11
                  try clear q119
                  try clear q12
                  try clear q120
                  try clear q122
                  try clear q123
                  try clear q124
                  try clear q128
                  try clear q4
                  try clear q41
                  try clear q45
                  obtain ⟨kq, x157_63, rfl, HA, HJ63, HO_7, HB⟩ := hcut
                  cases kq with
                  | zero => exact absurd HA.out (by simp [spec_IsTriangulation.j4])
                  | succ kj63 =>
                   have H := HA.out; clear HA; simp only [spec_IsTriangulation.j4] at H
                   by_cases c68 : x157_63 = true
                   ·subst c68; have H1 : (if (rd x7_2 (ji61)) = 1 then (spec_IsTriangulation.l2 kj63 l0 (l0.length : Int) x6_2 x7_2 x10_3 (wrap64 (x11_4 + 1))) else (some false)) = some r := by rw [if_pos rfl] at H; exact H
                    clear H; have H := H1; clear H1
                    by_cases c69 : (rd x7_2 (ji61)) = 1
                    ·rw [if_pos c69] at H; have c69b0 : ((rd x7_2 (ji61)) == 1) = true := beq_iff_eq.mpr c69; have c69b1 : ((rd x7_2 (ji61)) != 1) = false := bne_eq_false_iff_eq.mpr c69; clear c69; have H' := Ak H; clear H
                     go_wp2
                     go_roundg kj63
                     case measure => have := HJ2.out; have := HK2.out; have := HK3.out; have := HK4.out; have := HJ63.out; omega
                     case rel => exact ⟨(wrap64 (x11_4 + 1)), (by first | rfl | (simp; done) | (simp [*]; done)), H', ⟨by have := HJ2.out; have := HK2.out; have := HK3.out; have := HK4.out; have := HJ63.out; omega⟩, ⟨by (with_reducible repeat (first | apply Kd.R_alloc | apply Kd.R_drewN | apply Kd.R_drew)); exact HO_7.out⟩, ⟨by repeat (first | (with_reducible first | exact HB.out | apply bA | apply bD | apply bE) | exact HB.out)⟩⟩
                    ·rw [if_neg c69] at H; have c69b0 : ((rd x7_2 (ji61)) == 1) = false := beq_eq_false_iff_ne.mpr c69; have c69b1 : ((rd x7_2 (ji61)) != 1) = true := bne_iff_ne.mpr c69; obtain rfl := Option.some.inj H
                     go_wp2
                     go_ret
                     exact ⟨by first | rfl | (simp [errW_none, errW_some] <;> rfl) | (simp only [← hji9, ← hji61]; first | rfl | (simp [errW_none, errW_some] <;> rfl)) | (simp [*, errW_none, errW_some] <;> rfl), by repeat (first | (with_reducible first | exact HB.out | apply bA | apply bD | apply bE) | exact HB.out)⟩
                   ·replace c68 := Bool.eq_false_iff.mpr c68; subst c68; have H1 : (if (rd x7_2 (ji61)) = 0 then (spec_IsTriangulation.l2 kj63 l0 (l0.length : Int) x6_2 x7_2 x10_3 (wrap64 (x11_4 + 1))) else (if (rd x7_2 (ji61)) = 2 then (spec_IsTriangulation.l2 kj63 l0 (l0.length : Int) x6_2 x7_2 x10_3 (wrap64 (x11_4 + 1))) else (some false))) = some r := by rw [if_neg (show ¬ (false = true) by decide)] at H; exact H
                    clear H; have H := H1; clear H1
                    by_cases c70 : (rd x7_2 (ji61)) = 0
                    ·rw [if_pos c70] at H; have c70b0 : ((rd x7_2 (ji61)) == 0) = true := beq_iff_eq.mpr c70; have c70b1 : ((rd x7_2 (ji61)) != 0) = false := bne_eq_false_iff_eq.mpr c70; clear c70; have H' := Ak H; clear H
                     go_wp2
                     go_roundg kj63
                     case measure => have := HJ2.out; have := HK2.out; have := HK3.out; have := HK4.out; have := HJ63.out; omega
                     case rel => exact ⟨(wrap64 (x11_4 + 1)), (by first | rfl | (simp; done) | (simp [*]; done)), H', ⟨by have := HJ2.out; have := HK2.out; have := HK3.out; have := HK4.out; have := HJ63.out; omega⟩, ⟨by (with_reducible repeat (first | apply Kd.R_alloc | apply Kd.R_drewN | apply Kd.R_drew)); exact HO_7.out⟩, ⟨by repeat (first | (with_reducible first | exact HB.out | apply bA | apply bD | apply bE) | exact HB.out)⟩⟩
                    ·rw [if_neg c70] at H; have c70b0 : ((rd x7_2 (ji61)) == 0) = false := beq_eq_false_iff_ne.mpr c70; have c70b1 : ((rd x7_2 (ji61)) != 0) = true := bne_iff_ne.mpr c70
                     by_cases c71 : (rd x7_2 (ji61)) = 2
                     ·rw [if_pos c71] at H; have c71b0 : ((rd x7_2 (ji61)) == 2) = true := beq_iff_eq.mpr c71; have c71b1 : ((rd x7_2 (ji61)) != 2) = false := bne_eq_false_iff_eq.mpr c71; clear c71; have H' := Ak H; clear H
                      go_wp2
                      go_roundg kj63
                      case measure => have := HJ2.out; have := HK2.out; have := HK3.out; have := HK4.out; have := HJ63.out; omega
                      case rel => exact ⟨(wrap64 (x11_4 + 1)), (by first | rfl | (simp; done) | (simp [*]; done)), H', ⟨by have := HJ2.out; have := HK2.out; have := HK3.out; have := HK4.out; have := HJ63.out; omega⟩, ⟨by (with_reducible repeat (first | apply Kd.R_alloc | apply Kd.R_drewN | apply Kd.R_drew)); exact HO_7.out⟩, ⟨by repeat (first | (with_reducible first | exact HB.out | apply bA | apply bD | apply bE) | exact HB.out)⟩⟩
                     ·rw [if_neg c71] at H; have c71b0 : ((rd x7_2 (ji61)) == 2) = false := beq_eq_false_iff_ne.mpr c71; have c71b1 : ((rd x7_2 (ji61)) != 2) = true := bne_iff_ne.mpr c71; obtain rfl := Option.some.inj H
                      go_wp2
                      go_ret
                      exact ⟨by first | rfl | (simp [errW_none, errW_some] <;> rfl) | (simp only [← hji9, ← hji61]; first | rfl | (simp [errW_none, errW_some] <;> rfl)) | (simp [*, errW_none, errW_some] <;> rfl), by repeat (first | (with_reducible first | exact HB.out | apply bA | apply bD | apply bE) | exact HB.out)⟩
                ·rw [if_neg c63] at H; exact absurd H (by simp)
               ·rw [if_neg c62] at H; exact absurd H (by simp)
              ·rw [if_neg c60] at H; have c60b0 : decide (x11_4 < (l0.length : Int)) = false := decide_eq_false c60; clear c60; have H' := Ak H; clear H
               go_wp2
               go_roundg k4
               case measure => have := HJ2.out; have := HK2.out; have := HK3.out; have := HK4.out; omega
               case rel => exact ⟨(wrap64 (x10_3 + 1)), (by first | rfl | (simp; done) | (simp [*]; done)), H', ⟨by have := HJ2.out; have := HK2.out; have := HK3.out; have := HK4.out; omega⟩, ⟨by (with_reducible repeat (first | apply Kd.R_alloc | apply Kd.R_drewN | apply Kd.R_drew)); exact HO_7.out⟩, ⟨by repeat (first | (with_reducible first | exact HB.out | apply bA | apply bD | apply bE) | exact HB.out)⟩⟩
           ·rw [if_neg c59] at H; have c59b0 : decide (x10_3 < (l0.length : Int)) = false := decide_eq_false c59; clear c59; replace H := Option.bind_eq_some_iff.mp H; obtain ⟨t126, A720, H⟩ := H; replace H : ((spec_l04Mag.f t126).bind fun t127 => (some (x6_2 == t127))) = some r := H; have A72 := Ak A720; clear A720; replace H := Option.bind_eq_some_iff.mp H; obtain ⟨t127, A730, H⟩ := H; replace H : (some (x6_2 == t127)) = some r := H; have A73 := Ak A730; clear A730; obtain rfl := Option.some.inj H
            go_wp2_with (first | ((with_reducible refine gate_callee (f := 80) rfl ?_); refine goesL_ (some 168) rfl rfl Try.func80 (by kernel_rfl) rfl #[.slice A0 l0.length c0] rfl (by (try simp only [List.map_toArray, List.map_cons, List.map_nil]); first | done | rfl | (simp only [List.length_drop, List.length_take]; rfl)) ?_; (with_reducible refine (spec_l03Twice.calls k3 _ _ l0 t126 _ ?side1 ?side2 A72.out).mono ?_); (case side1 => repeat (first | exact (Kd.C_below HR0.out HB.out) | (with_reducible refine Kd.C_alloc ?_ _) | (with_reducible refine Kd.C_drewN ?_ _) | (with_reducible refine Kd.C_drew ?_))); (case side2 => exact HC0.out); rintro e w74 ⟨rfl, hb⟩; refine ⟨_, rfl, ?_⟩; have n0_ := Ak (Kd.R_below (by (with_reducible repeat (first | apply Kd.R_alloc | apply Kd.R_drewN | apply Kd.R_drew)); exact HO_7.out) hb); have n1_ := Ak (below_step (by repeat (first | exact HB.out | apply bA | apply bD | apply bE)) hb); clear HO_7; clear HB; have HO_7 := n0_; have HB := n1_; clear n0_ n1_; (try clear hb); (try clear hb2); (try clear hk); (try clear hi)) | ((with_reducible refine gate_callee (f := 79) rfl ?_); refine goesL_ (some 169) rfl rfl Try.func79 (by kernel_rfl) rfl #[.int .i64 t126] rfl (by (try simp only [List.map_toArray, List.map_cons, List.map_nil]); first | done | rfl | (simp only [List.length_drop, List.length_take]; rfl)) ?_; (with_reducible refine (spec_l04Mag.calls t126 t127 _ A73.out).mono ?_); rintro e w75 ⟨rfl, hb⟩; refine ⟨_, rfl, ?_⟩; have n0_ := Ak (Kd.R_below (by (with_reducible repeat (first | apply Kd.R_alloc | apply Kd.R_drewN | apply Kd.R_drew)); exact HO_7.out) hb); have n1_ := Ak (below_step (by repeat (first | exact HB.out | apply bA | apply bD | apply bE)) hb); clear HO_7; clear HB; have HO_7 := n0_; have HB := n1_; clear n0_ n1_; (try clear hb); (try clear hb2); (try clear hk); (try clear hi)))
            go_ret
            exact ⟨by first | rfl | (simp [errW_none, errW_some] <;> rfl) | (simp only [← hji9]; first | rfl | (simp [errW_none, errW_some] <;> rfl)) | (simp [*, errW_none, errW_some] <;> rfl), by repeat (first | (with_reducible first | exact HB.out | apply bA | apply bD | apply bE) | exact HB.out)⟩
     ·rw [if_neg c11] at H; exact absurd H (by simp)
    ·rw [if_neg c10] at H; exact absurd H (by simp)

end Go.Proofs.Ytlccpkggdmngaaa.G
