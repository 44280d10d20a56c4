/- A Go function as a plain Lean function, and the proof that Go's call comes to its answer. No conditions but those in the theorem. Written by gen.py (a program of this session over the kit's print). -/
-- SHRUNK by pack.py
import Derived.Test.YtlccpkggdmngaaaG0
import Derived.Test.YtlccpkggdmngaaaFA
import Derived.Test.YtlccpkggdmngaaaF13
import Derived.Test.YtlccpkggdmngaaaF57
import Derived.Test.YtlccpkggdmngaaaF63
import Derived.Test.YtlccpkggdmngaaaTops
namespace Go.Proofs.Ytlccpkggdmngaaa.G
open Go.RowKit Go.Proofs.YtlccpkggdmngaaaW.PrintWords Go.Proofs.YtlccpkggdmngaaaW.PrintLast Go.Proofs.YtlccpkggdmngaaaW.PrintMore Go.Proofs.YtlccpkggdmngaaaW.PrintBits
attribute [local go_sem] max2_int min2_int max_two min_two max_three min_three max_four min_four   -- for this text's walks alone
set_option linter.unusedVariables false
set_option linter.unusedSimpArgs false

/-! ### impl_IsTriangulation: function 41 -/
mutual
def impl_IsTriangulation.j0 : Nat → List (S27) → List (List Int) → Bool → Option (Bool)
 | 0, _, _, _ => none
 | k + 1, x0, x1, x25 => if x25 = true then (some false) else (impl_IsTriangulation.l0 k x0 (x0.length : Int) 0 [] x1 (x1.length : Int) 0)
def impl_IsTriangulation.l0 : Nat → List (S27) → Int → Int → List ((Int × Int) × Int) → List (List Int) → Int → Int → Option (Bool)
 | 0, _, _, _, _, _, _, _ => none
 | k + 1, x0, x5, x6, x7, x29, x30, x31 => if x31 < x30 then (if 0 ≤ x31 then (if x31 < (x29.length : Int) then (if ((rd_L5 x29 x31).length : Int) = 3 then (if 0 < ((rd_L5 x29 x31).length : Int) then (if (rd (rd_L5 x29 x31) 0) < 0 then (impl_IsTriangulation.j2 k x0 x5 x6 x7 (rd_L5 x29 x31) x29 x30 x31 true) else (if 1 < ((rd_L5 x29 x31).length : Int) then (if (rd (rd_L5 x29 x31) 0) ≥ (rd (rd_L5 x29 x31) 1) then (impl_IsTriangulation.j2 k x0 x5 x6 x7 (rd_L5 x29 x31) x29 x30 x31 true) else (if 2 < ((rd_L5 x29 x31).length : Int) then (if (rd (rd_L5 x29 x31) 1) ≥ (rd (rd_L5 x29 x31) 2) then (impl_IsTriangulation.j2 k x0 x5 x6 x7 (rd_L5 x29 x31) x29 x30 x31 true) else (impl_IsTriangulation.j2 k x0 x5 x6 x7 (rd_L5 x29 x31) x29 x30 x31 (decide ((rd (rd_L5 x29 x31) 2) ≥ x5)))) else (none))) else (none))) else (none)) else (impl_IsTriangulation.j2 k x0 x5 x6 x7 (rd_L5 x29 x31) x29 x30 x31 true)) else (none)) else (none)) else (impl_IsTriangulation.l1 k x0 x5 x6 x7 x5 0)
def impl_IsTriangulation.j2 : Nat → List (S27) → Int → Int → List ((Int × Int) × Int) → List Int → List (List Int) → Int → Int → Bool → Option (Bool)
 | 0, _, _, _, _, _, _, _, _, _ => none
 | k + 1, x0, x5, x6, x7, x9, x29, x30, x31, x68 => if x68 = true then (some false) else (if 0 < (x9.length : Int) then (if 0 ≤ (rd x9 0) then (if (rd x9 0) < (x0.length : Int) then (if 1 < (x9.length : Int) then (if 0 ≤ (rd x9 1) then (if (rd x9 1) < (x0.length : Int) then (if 2 < (x9.length : Int) then (if 0 ≤ (rd x9 2) then (if (rd x9 2) < (x0.length : Int) then ((impl_cross.f ((rd_T27 x0 (rd x9 0)).f0) ((rd_T27 x0 (rd x9 0)).f1) ((rd_T27 x0 (rd x9 1)).f0) ((rd_T27 x0 (rd x9 1)).f1) ((rd_T27 x0 (rd x9 2)).f0) ((rd_T27 x0 (rd x9 2)).f1)).bind fun t115 => (if t115 = 0 then (some false) else ((impl_size.f t115).bind fun t116 => (if (kOk (rd x9 0) (rd x9 1) && kOk (rd x9 1) (rd x9 2)) = true then (impl_IsTriangulation.l0 k x0 x5 (wrap64 (x6 + t116)) (bump (bump (bump x7 ((rd x9 0), (rd x9 1))) ((rd x9 1), (rd x9 2))) ((rd x9 0), (rd x9 2))) x29 x30 (wrap64 (x31 + 1))) else (none))))) else (none)) else (none)) else (none)) else (none)) else (none)) else (none)) else (none)) else (none)) else (none))
def impl_IsTriangulation.l1 : Nat → List (S27) → Int → Int → List ((Int × Int) × Int) → Int → Int → Option (Bool)
 | 0, _, _, _, _, _, _ => none
 | k + 1, x0, x5, x6, x7, x131, x132 => if x132 < x131 then (if x5 = 0 then (none) else (if kOk (mn x132 (Int.tmod (wrap64 (x132 + 1)) x5)) (mx x132 (Int.tmod (wrap64 (x132 + 1)) x5)) = true then (if (look x7 ((mn x132 (Int.tmod (wrap64 (x132 + 1)) x5)), (mx x132 (Int.tmod (wrap64 (x132 + 1)) x5)))) = 1 then (impl_IsTriangulation.l1 k x0 x5 x6 (dropC x7 ((mn x132 (Int.tmod (wrap64 (x132 + 1)) x5)), (mx x132 (Int.tmod (wrap64 (x132 + 1)) x5)))) x131 (wrap64 (x132 + 1))) else (some false)) else (none))) else (if all2 x7 = true then ((impl_twice.f k x0).bind fun t123 => ((impl_size.f t123).bind fun t124 => (some (x6 == t124)))) else (some false))
end
def impl_IsTriangulation.f (k : Nat) (l0 : List (S27)) (l1 : List (List Int)) : Option (Bool) := (impl_PolygonOk.f l0).bind fun t101 => (if t101 = true then (impl_IsTriangulation.j0 k l0 l1 ((l1.length : Int) != (wrap64 ((l0.length : Int) - 2)))) else (impl_IsTriangulation.j0 k l0 l1 true))
theorem impl_IsTriangulation.mono_l : ∀ k, (∀ y0 y1 y2, LeO (impl_IsTriangulation.j0 k y0 y1 y2) (impl_IsTriangulation.j0 (k + 1) y0 y1 y2)) ∧ (∀ y0 y1 y2 y3 y4 y5 y6, LeO (impl_IsTriangulation.l0 k y0 y1 y2 y3 y4 y5 y6) (impl_IsTriangulation.l0 (k + 1) y0 y1 y2 y3 y4 y5 y6)) ∧ (∀ y0 y1 y2 y3 y4 y5 y6 y7 y8, LeO (impl_IsTriangulation.j2 k y0 y1 y2 y3 y4 y5 y6 y7 y8) (impl_IsTriangulation.j2 (k + 1) y0 y1 y2 y3 y4 y5 y6 y7 y8)) ∧ (∀ y0 y1 y2 y3 y4 y5, LeO (impl_IsTriangulation.l1 k y0 y1 y2 y3 y4 y5) (impl_IsTriangulation.l1 (k + 1) y0 y1 y2 y3 y4 y5))
 | 0 => ⟨fun _ _ _ r h => by simp [impl_IsTriangulation.j0] at h, fun _ _ _ _ _ _ _ r h => by simp [impl_IsTriangulation.l0] at h, fun _ _ _ _ _ _ _ _ _ r h => by simp [impl_IsTriangulation.j2] at h, fun _ _ _ _ _ _ r h => by simp [impl_IsTriangulation.l1] at h⟩
 | k + 1 => by
  obtain ⟨ih0, ih1, ih2, ih3⟩ := impl_IsTriangulation.mono_l k
  refine ⟨?_, ?_, ?_, ?_⟩
  ·intro y0 y1 y2
   unfold impl_IsTriangulation.j0
   repeat' first
   | (with_reducible exact ih0 _ _ _)
   | (with_reducible exact ih1 _ _ _ _ _ _ _)
   | (with_reducible exact ih2 _ _ _ _ _ _ _ _ _)
   | (with_reducible exact ih3 _ _ _ _ _ _)
   | (with_reducible exact impl_twice.mono _ _)
   | (with_reducible exact LeO.refl _)
   | (with_reducible exact LeO.none _)
   | (with_reducible refine LeO.ite ?_ ?_)
   | (with_reducible refine LeO.bind ?_ (fun _ => ?_))
   | exact ih0 _ _ _
   | exact ih1 _ _ _ _ _ _ _
   | exact ih2 _ _ _ _ _ _ _ _ _
   | exact ih3 _ _ _ _ _ _
   | exact impl_twice.mono _ _
   | exact LeO.none _
   | refine LeO.ite ?_ ?_
   | refine LeO.bind ?_ (fun _ => ?_)
  ·intro y0 y1 y2 y3 y4 y5 y6
   unfold impl_IsTriangulation.l0
   repeat' first
   | (with_reducible exact ih0 _ _ _)
   | (with_reducible exact ih1 _ _ _ _ _ _ _)
   | (with_reducible exact ih2 _ _ _ _ _ _ _ _ _)
   | (with_reducible exact ih3 _ _ _ _ _ _)
   | (with_reducible exact impl_twice.mono _ _)
   | (with_reducible exact LeO.refl _)
   | (with_reducible exact LeO.none _)
   | (with_reducible refine LeO.ite ?_ ?_)
   | (with_reducible refine LeO.bind ?_ (fun _ => ?_))
   | exact ih0 _ _ _
   | exact ih1 _ _ _ _ _ _ _
   | exact ih2 _ _ _ _ _ _ _ _ _
   | exact ih3 _ _ _ _ _ _
   | exact impl_twice.mono _ _
   | exact LeO.none _
   | refine LeO.ite ?_ ?_
   | refine LeO.bind ?_ (fun _ => ?_)
  ·intro y0 y1 y2 y3 y4 y5 y6 y7 y8
   unfold impl_IsTriangulation.j2
   repeat' first
   | (with_reducible exact ih0 _ _ _)
   | (with_reducible exact ih1 _ _ _ _ _ _ _)
   | (with_reducible exact ih2 _ _ _ _ _ _ _ _ _)
   | (with_reducible exact ih3 _ _ _ _ _ _)
   | (with_reducible exact impl_twice.mono _ _)
   | (with_reducible exact LeO.refl _)
   | (with_reducible exact LeO.none _)
   | (with_reducible refine LeO.ite ?_ ?_)
   | (with_reducible refine LeO.bind ?_ (fun _ => ?_))
   | exact ih0 _ _ _
   | exact ih1 _ _ _ _ _ _ _
   | exact ih2 _ _ _ _ _ _ _ _ _
   | exact ih3 _ _ _ _ _ _
   | exact impl_twice.mono _ _
   | exact LeO.none _
   | refine LeO.ite ?_ ?_
   | refine LeO.bind ?_ (fun _ => ?_)
  ·intro y0 y1 y2 y3 y4 y5
   unfold impl_IsTriangulation.l1
   repeat' first
   | (with_reducible exact ih0 _ _ _)
   | (with_reducible exact ih1 _ _ _ _ _ _ _)
   | (with_reducible exact ih2 _ _ _ _ _ _ _ _ _)
   | (with_reducible exact ih3 _ _ _ _ _ _)
   | (with_reducible exact impl_twice.mono _ _)
   | (with_reducible exact LeO.refl _)
   | (with_reducible exact LeO.none _)
   | (with_reducible refine LeO.ite ?_ ?_)
   | (with_reducible refine LeO.bind ?_ (fun _ => ?_))
   | exact ih0 _ _ _
   | exact ih1 _ _ _ _ _ _ _
   | exact ih2 _ _ _ _ _ _ _ _ _
   | exact ih3 _ _ _ _ _ _
   | exact impl_twice.mono _ _
   | exact LeO.none _
   | refine LeO.ite ?_ ?_
   | refine LeO.bind ?_ (fun _ => ?_)
theorem impl_IsTriangulation.mono : ∀ a0 a1 k, LeO (impl_IsTriangulation.f k a0 a1) (impl_IsTriangulation.f (k + 1) a0 a1) := by
 intro a0 a1 k
 obtain ⟨ih0, ih1, ih2, ih3⟩ := impl_IsTriangulation.mono_l k
 unfold impl_IsTriangulation.f
 repeat' first
   | (with_reducible exact ih0 _ _ _)
   | (with_reducible exact ih1 _ _ _ _ _ _ _)
   | (with_reducible exact ih2 _ _ _ _ _ _ _ _ _)
   | (with_reducible exact ih3 _ _ _ _ _ _)
   | (with_reducible exact impl_twice.mono _ _)
   | (with_reducible exact LeO.refl _)
   | (with_reducible exact LeO.none _)
   | (with_reducible refine LeO.ite ?_ ?_)
   | (with_reducible refine LeO.bind ?_ (fun _ => ?_))
   | exact ih0 _ _ _
   | exact ih1 _ _ _ _ _ _ _
   | exact ih2 _ _ _ _ _ _ _ _ _
   | exact ih3 _ _ _ _ _ _
   | exact impl_twice.mono _ _
   | exact LeO.none _
   | refine LeO.ite ?_ ?_
   | refine LeO.bind ?_ (fun _ => ?_)
def impl_IsTriangulation.T8 : Bool × List (List Nat × List Nat) := (true, [([], []), ([0], [0]), ([1], [1]), ([2], [2]), ([3], [3]), ([4, 3], [3, 4]), ([5, 3], [3, 5]), ([6, 3], [3, 6]), ([3, 7], [3, 7]), ([8, 3], [8]), ([9], [9]), ([10, 9], [9, 10]), ([11, 9], [9, 11]), ([9], [9]), ([13, 9], [9, 13]), ([14, 9], [9, 14]), ([12, 15, 9], [9, 12, 15]), ([9, 16], [9, 16]), ([17, 9], [17]), ([18], [18]), ([19, 18], [18, 19]), ([20, 18], [18, 20]), ([18], [18]), ([22, 18], [18, 22]), ([23, 18], [18, 23]), ([21, 24, 18], [18, 21, 24]), ([18, 25], [18, 25]), ([26, 18], [26]), ([27], [27]), ([28, 27], [27, 28]), ([29, 27], [27, 29]), ([27], [27]), ([30, 31, 27], [27, 30, 31]), ([27, 32], [27, 32])])
def impl_IsTriangulation.B8 : List Nat := [0, 1, 3, 7, 15, 31, 63, 127, 255, 511, 1023, 2047, 4095, 1023, 9215, 25599, 65535, 131071, 262143, 524287, 1048575, 2097151, 524287, 4718591, 13107199, 33554431, 67108863, 134217727, 268435455, 536870911, 1073741823, 268435455, 4294967295, 8589934591]
theorem impl_IsTriangulation.tab8 : rtab .any (opsOf Try.f41 8) = impl_IsTriangulation.T8 := by kernel_rfl
theorem impl_IsTriangulation.bits8 : waitsOk impl_IsTriangulation.T8.2 impl_IsTriangulation.B8 = true := by kernel_rfl
def impl_IsTriangulation.T10 : Bool × List (List Nat × List Nat) := (true, [([], []), ([], []), ([1], [1]), ([2], [2]), ([0, 3], [0, 3]), ([4], [4]), ([], []), ([], []), ([7], [7]), ([8], [8]), ([6, 9], [6, 9]), ([10], [10]), ([], []), ([], []), ([13], [13]), ([14], [14]), ([12, 15], [12, 15]), ([16], [16]), ([5, 11, 17], [5, 11, 17]), ([18, 18, 0, 1, 2, 3, 4, 5, 6, 7, 8, 9, 10, 11, 12, 13, 14, 15, 16, 17, 18], [18])])
def impl_IsTriangulation.B10 : List Nat := [0, 0, 2, 6, 15, 31, 0, 0, 128, 384, 960, 1984, 0, 0, 8192, 24576, 61440, 126976, 262143, 524287]
theorem impl_IsTriangulation.tab10 : rtab .any (opsOf Try.f41 10) = impl_IsTriangulation.T10 := by kernel_rfl
theorem impl_IsTriangulation.bits10 : waitsOk impl_IsTriangulation.T10.2 impl_IsTriangulation.B10 = true := by kernel_rfl
def impl_IsTriangulation.T14 : Bool × List (List Nat × List Nat) := (true, [([], []), ([], []), ([1], [1]), ([2], [2]), ([], []), ([4], [4]), ([5], [5]), ([3, 6], [3, 6]), ([0, 7], [0, 7]), ([8], [8]), ([0, 7, 0, 1, 2, 3, 4, 5, 6, 7], [0, 7]), ([10], [10]), ([0, 11, 9, 10, 0, 1, 2, 3, 4, 5, 6, 7, 8, 9, 10, 11], [0, 9, 11])])
def impl_IsTriangulation.B14 : List Nat := [0, 0, 2, 6, 0, 16, 48, 126, 255, 511, 255, 1279, 4095]
theorem impl_IsTriangulation.tab14 : rtab .any (opsOf Try.f41 14) = impl_IsTriangulation.T14 := by kernel_rfl
theorem impl_IsTriangulation.bits14 : waitsOk impl_IsTriangulation.T14.2 impl_IsTriangulation.B14 = true := by kernel_rfl
def impl_IsTriangulation.T15 : Bool × List (List Nat × List Nat) := (true, [([], []), ([], []), ([1], [1]), ([2], [2]), ([], []), ([4], [4]), ([5], [5]), ([3, 6], [3, 6]), ([0, 7], [0, 7]), ([8], [8]), ([0, 7, 0, 1, 2, 3, 4, 5, 6, 7], [0, 7]), ([10], [10]), ([0, 11, 9, 10, 0, 1, 2, 3, 4, 5, 6, 7, 8, 9, 10, 11], [0, 9, 11])])
def impl_IsTriangulation.B15 : List Nat := [0, 0, 2, 6, 0, 16, 48, 126, 255, 511, 255, 1279, 4095]
theorem impl_IsTriangulation.tab15 : rtab .any (opsOf Try.f41 15) = impl_IsTriangulation.T15 := by kernel_rfl
theorem impl_IsTriangulation.bits15 : waitsOk impl_IsTriangulation.T15.2 impl_IsTriangulation.B15 = true := by kernel_rfl
def impl_IsTriangulation.T16 : Bool × List (List Nat × List Nat) := (true, [([], []), ([], []), ([1], [1]), ([2], [2]), ([], []), ([4], [4]), ([5], [5]), ([3, 6], [3, 6]), ([0, 7], [0, 7]), ([8], [8]), ([0, 7, 0, 1, 2, 3, 4, 5, 6, 7], [0, 7]), ([10], [10]), ([0, 11, 9, 10, 0, 1, 2, 3, 4, 5, 6, 7, 8, 9, 10, 11], [0, 9, 11])])
def impl_IsTriangulation.B16 : List Nat := [0, 0, 2, 6, 0, 16, 48, 126, 255, 511, 255, 1279, 4095]
theorem impl_IsTriangulation.tab16 : rtab .any (opsOf Try.f41 16) = impl_IsTriangulation.T16 := by kernel_rfl
theorem impl_IsTriangulation.bits16 : waitsOk impl_IsTriangulation.T16.2 impl_IsTriangulation.B16 = true := by kernel_rfl
def impl_IsTriangulation.T21 : Bool × List (List Nat × List Nat) := (true, [([], []), ([], []), ([1], [1]), ([], []), ([2, 3], [2, 3]), ([0, 4], [0, 4]), ([], []), ([], []), ([7], [7]), ([], []), ([8, 9], [8, 9]), ([6, 10], [6, 10]), ([5, 11], [5, 11]), ([], []), ([13, 12, 0, 1, 2, 3, 4, 5, 6, 7, 8, 9, 10, 11, 12, 13], [12, 13])])
def impl_IsTriangulation.B21 : List Nat := [0, 0, 2, 0, 14, 31, 0, 0, 128, 0, 896, 1984, 4095, 0, 16383]
theorem impl_IsTriangulation.tab21 : rtab .any (opsOf Try.f41 21) = impl_IsTriangulation.T21 := by kernel_rfl
theorem impl_IsTriangulation.bits21 : waitsOk impl_IsTriangulation.T21.2 impl_IsTriangulation.B21 = true := by kernel_rfl
set_option maxHeartbeats 8000000 in
set_option maxRecDepth 100000 in
theorem impl_IsTriangulation.calls (k : Nat) (A0 : Option Addr) (c0 : Nat) (l0 : List (S27)) (A1 : Option Addr) (c1 : Nat) (l1 : List (List Int)) (r : Bool) (w : World) (hr0 : Kd.C k27 w A0 l0.length l0) (hc0 : l0.length ≤ c0) (hr1 : Kd.C (Kd.slice 3 (Kd.int .i64)) w A1 l1.length l1) (hc1 : l1.length ≤ c1) (h : impl_IsTriangulation.f k l0 l1 = some r) :
  Calls Try.prog 41 #[.slice A0 l0.length c0, .slice A1 l1.length c1] w fun e w' => e = .returned (.bool r) ∧ Below w.heap.size w w' := by
 have hu27 := Try.underlying27; have HR0 := Ak hr0; have HC0 := Ak hc0; clear hr0 hc0; have HR1 := Ak hr1; have HC1 := Ak hc1; clear hr1 hc1; have HB := Ak (Below.refl w.heap.size w); have H : ((impl_PolygonOk.f l0).bind fun t101 => (if t101 = true then (impl_IsTriangulation.j0 k l0 l1 ((l1.length : Int) != (wrap64 ((l0.length : Int) - 2)))) else (impl_IsTriangulation.j0 k l0 l1 true))) = some r := h; clear h; have HC3 := Ak H; clear H
 go_enter Try.func41, Try.ntmps41
 go_upto_region 1 with (fail)
 go_cut [25] (fun v25 wc => ∃ (kq : Nat) (x25_2 : Bool), v25 = .bool x25_2 ∧ Aside0 (impl_IsTriangulation.j0 kq l0 l1 x25_2 = some r) ∧ Aside0 (kq ≤ k) ∧ Aside0 (Below w.heap.size w wc))
 case first =>
  have H := HC3.out; clear HC3; replace H := Option.bind_eq_some_iff.mp H; obtain ⟨t101, A40, H⟩ := H; replace H : (if t101 = true then (impl_IsTriangulation.j0 k l0 l1 ((l1.length : Int) != (wrap64 ((l0.length : Int) - 2)))) else (impl_IsTriangulation.j0 k l0 l1 true)) = some r := H; have A4 := Ak A40; clear A40
  by_cases c5 : t101 = true
  ·subst c5; have H1 : (impl_IsTriangulation.j0 k l0 l1 ((l1.length : Int) != (wrap64 ((l0.length : Int) - 2)))) = some r := by rw [if_pos rfl] at H; exact H
   clear H; have H := H1; clear H1; have H' := Ak H; clear H
   go_wp2_with (first | ((with_reducible refine gate_callee (f := 13) rfl ?_); refine goesL_ (some 16) rfl rfl Try.func13 (by kernel_rfl) rfl #[.slice A0 l0.length c0] rfl (by (try simp only [List.map_toArray, List.map_cons, List.map_nil]); first | done | rfl | (simp only [List.length_drop, List.length_take]; rfl)) ?_; (with_reducible refine (impl_PolygonOk.calls _ _ l0 true _ ?side1 ?side2 A4.out).mono ?_); (case side1 => repeat (first | exact (Kd.C_below HR0.out HB.out) | (with_reducible refine Kd.C_alloc ?_ _) | (with_reducible refine Kd.C_drewN ?_ _) | (with_reducible refine Kd.C_drew ?_))); (case side2 => exact HC0.out); rintro e w6 ⟨rfl, hb⟩; refine ⟨_, rfl, ?_⟩; have n0_ := Ak (below_step (by repeat (first | exact HB.out | apply bA | apply bD | apply bE)) hb); clear HB; have HB := n0_; clear n0_; (try clear hb); (try clear hb2); (try clear hk); (try clear hi)))
   go_meet
   case rel => exact ⟨_, (((l1.length : Int) != (wrap64 ((l0.length : Int) - 2)))), (by first | rfl | (simp; done) | (simp [*]; done)), H', ⟨by first | omega | exact Nat.le_refl _⟩, ⟨by repeat (first | (with_reducible first | exact HB.out | apply bA | apply bD | apply bE) | exact HB.out)⟩⟩
  ·replace c5 := Bool.eq_false_iff.mpr c5; subst c5; have H1 : (impl_IsTriangulation.j0 k l0 l1 true) = some r := by rw [if_neg (show ¬ (false = true) by decide)] at H; exact H
   clear H; have H := H1; clear H1; have H' := Ak H; clear H
   go_wp2_with (first | ((with_reducible refine gate_callee (f := 13) rfl ?_); refine goesL_ (some 16) rfl rfl Try.func13 (by kernel_rfl) rfl #[.slice A0 l0.length c0] rfl (by (try simp only [List.map_toArray, List.map_cons, List.map_nil]); first | done | rfl | (simp only [List.length_drop, List.length_take]; rfl)) ?_; (with_reducible refine (impl_PolygonOk.calls _ _ l0 false _ ?side1 ?side2 A4.out).mono ?_); (case side1 => repeat (first | exact (Kd.C_below HR0.out HB.out) | (with_reducible refine Kd.C_alloc ?_ _) | (with_reducible refine Kd.C_drewN ?_ _) | (with_reducible refine Kd.C_drew ?_))); (case side2 => exact HC0.out); rintro e w7 ⟨rfl, hb⟩; refine ⟨_, rfl, ?_⟩; have n0_ := Ak (below_step (by repeat (first | exact HB.out | apply bA | apply bD | apply bE)) hb); clear HB; have HB := n0_; clear n0_; (try clear hb); (try clear hb2); (try clear hk); (try clear hi)))
   go_meet
   case rel => exact ⟨_, (true), (by first | rfl | (simp; done) | (simp [*]; done)), H', ⟨by first | omega | exact Nat.le_refl _⟩, ⟨by repeat (first | (with_reducible first | exact HB.out | apply bA | apply bD | apply bE) | exact HB.out)⟩⟩
 case rest =>
  clear HC3
  try clear c1
  try clear p2
  try clear c4
  try clear c5
  try clear p6
  obtain ⟨kq, x25_2, rfl, HA, HJ2, HB⟩ := hcut
  cases kq with
  | zero => exact absurd HA.out (by simp [impl_IsTriangulation.j0])
  | succ kj2 =>
   have H := HA.out; clear HA; simp only [impl_IsTriangulation.j0] at H
   by_cases c8 : x25_2 = true
   ·subst c8; have H1 : (some false) = some r := by rw [if_pos rfl] at H; exact H
    clear H; have H := H1; clear H1; obtain rfl := Option.some.inj H
    go_wp2
    go_ret
    exact ⟨by first | rfl | (simp [*, errW_none, errW_some] <;> rfl), by repeat (first | (with_reducible first | exact HB.out | apply bA | apply bD | apply bE) | exact HB.out)⟩
   ·replace c8 := Bool.eq_false_iff.mpr c8; subst c8; have H1 : (impl_IsTriangulation.l0 kj2 l0 (l0.length : Int) 0 [] l1 (l1.length : Int) 0) = some r := by rw [if_neg (show ¬ (false = true) by decide)] at H; exact H
    clear H; have H := H1; clear H1; have H' := Ak H; clear H
    go_wp2_with (first | ((with_reducible refine gate_dst (N := 28) rfl ?_); refine map_event ?hg (N := 28) ?hd ?hr ?_; (case hd | hg => rfl); (case hr => first | (go_simp; done) | (go_simp; rfl)); intro gm hgm w3 hcts hbel; have HGM := Ak (show w.heap.size ≤ gm by rw [hgm]; exact below_size (by repeat (first | exact HB.out | apply bA | apply bD | apply bE))); have HM := Ak hcts; have n0_ := Ak (below_step (by repeat (first | exact HB.out | apply bA | apply bD | apply bE)) hbel); clear HB; have HB := n0_; clear n0_ hcts hbel hgm))
    go_loopg [6, 31] kj2 (fun kq v6 v31 w' => ∃ (x6_2 : Int) (x7_2 : List ((Int × Int) × Int)) (x31_2 : Int), v6 = .int .i64 x6_2 ∧ v31 = .int .i64 x31_2 ∧ Aside0 (impl_IsTriangulation.l0 kq l0 (l0.length : Int) x6_2 x7_2 l1 (l1.length : Int) x31_2 = some r) ∧ Aside0 (kq ≤ kj2) ∧ Aside0 (Cts gm w' x7_2) ∧ Aside0 (Below w.heap.size w w'))
    case atStart => exact ⟨(0), ([]), (0), (by first | rfl | (simp; done) | (simp [*]; done)), (by first | rfl | (simp; done) | (simp [*]; done)), H', ⟨Nat.le_refl _⟩, ⟨by (with_reducible repeat (first | apply Cts.alloc | apply Cts.drewN | apply Cts.drew)); exact HM.out⟩, ⟨by repeat (first | (with_reducible first | exact HB.out | apply bA | apply bD | apply bE) | exact HB.out)⟩⟩
    case round =>
     clear H'
     try clear c1
     try clear p2
     try clear c4
     try clear c5
     try clear p6
     try clear c8
     try clear p2
     try clear p6
     obtain ⟨x6_2, x7_2, x31_2, rfl, rfl, HA, HK2, HM, HB⟩ := hrel
     cases gk with
     | zero => exact absurd HA.out (by simp [impl_IsTriangulation.l0])
     | succ k2 =>
      have H := HA.out; clear HA; simp only [impl_IsTriangulation.l0] at H
      by_cases c9 : x31_2 < (l1.length : Int)
      ·rw [if_pos c9] at H; have c9b0 : decide (x31_2 < (l1.length : Int)) = true := decide_eq_true c9; clear c9
       by_cases c10 : 0 ≤ x31_2
       ·rw [if_pos c10] at H; have c10b0 : decide (0 ≤ x31_2) = true := decide_eq_true c10; clear c10
        by_cases c11 : x31_2 < (l1.length : Int)
        ·rw [if_pos c11] at H; have c11b0 : decide (x31_2 < (l1.length : Int)) = true := decide_eq_true c11; clear c11; have HC12 := Ak H; clear H; have p102 : 0 ≤ (x31_2 : Int) := of_decide_eq_true (by first | (with_reducible assumption) | assumption); have q102 : x31_2 < (l1.length : Int) := of_decide_eq_true (by first | (with_reducible assumption) | assumption); obtain ⟨ad102, A102_0, c102_0, e102, hx102_0, hl102_0, hi102_0⟩ := at_L5 HR1.out x31_2 p102 q102; cases e102; replace hx102_0 := cB HB.out hx102_0; have HR102_0 := Ak hi102_0; have HC102_0 := Ak hl102_0; clear hi102_0 hl102_0; replace p102 := eq_true p102; replace q102 := eq_true q102
         go_upto_region 8 with (fail)
         go_cut [68] (fun v68 wc => ∃ (kq : Nat) (x68_11 : Bool), v68 = .bool x68_11 ∧ Aside0 (impl_IsTriangulation.j2 kq l0 (l0.length : Int) x6_2 x7_2 (rd_L5 l1 x31_2) l1 (l1.length : Int) x31_2 x68_11 = some r) ∧ Aside0 (kq ≤ k2) ∧ Aside0 (Cts gm wc x7_2) ∧ Aside0 (Below w.heap.size w wc))
         case first =>
          have H := HC12.out; clear HC12
          by_cases c13 : ((rd_L5 l1 x31_2).length : Int) = 3
          ·rw [if_pos c13] at H; have c13b0 : (((rd_L5 l1 x31_2).length : Int) == 3) = true := beq_iff_eq.mpr c13; have c13b1 : (((rd_L5 l1 x31_2).length : Int) != 3) = false := bne_eq_false_iff_eq.mpr c13; clear c13
           (first | rw [c13b0] | (simp only [i64_w, i32_w]; rw [c13b0]) | skip)
           by_cases c14 : 0 < ((rd_L5 l1 x31_2).length : Int)
           ·rw [if_pos c14] at H; have c14b0 : decide (0 < ((rd_L5 l1 x31_2).length : Int)) = true := decide_eq_true c14; have c14b1 : decide (0 < (rd_L5 l1 x31_2).length) = true := decide_eq_true (by omega); clear c14
            by_cases c15 : (rd (rd_L5 l1 x31_2) 0) < 0
            ·rw [if_pos c15] at H; have c15b0 : decide ((rd (rd_L5 l1 x31_2) 0) < 0) = true := decide_eq_true c15; clear c15; have H' := Ak H; clear H
             try go_wp2
             have n0_ := Ak (below_drew1 HB.out); have n1_ := Ak (Cts.drew HM.out); clear HB HM; have HB := n0_; have HM := n1_; clear n0_ n1_; have p103 : 0 ≤ (0 : Int) := (by omega); have q103 : 0 < ((rd_L5 l1 x31_2).length : Int) := of_decide_eq_true (by first | (with_reducible assumption) | assumption); obtain ⟨ad103, e103, hx103_0⟩ := Kd.at_int HR102_0.out 0 p103 q103; have hw103_0 := hx103_0; (try rw [show ((0 : Int)).toNat = 0 from rfl] at hw103_0); (try rw [show 0 * 1 = 0 from rfl] at hw103_0); (try rw [Addr.add_zero'] at hw103_0); cases e103; have qi103 : (0 < (rd_L5 l1 x31_2).length) = True := eq_true (by omega); (try rw [show ((0 : Int)).toNat = 0 from rfl] at hx103_0); (try rw [Addr.add_zero'] at hx103_0); replace hx103_0 := cB HB.out hx103_0; replace p103 := eq_true p103; replace q103 := eq_true q103; refine start_ (n := 34) (S := fun w' => w'.cell? ad103 = some (.int .i64 (rd (rd_L5 l1 x31_2) 0))) (ds := []) #[F,F,F,F,F,F,F,F,F,F,F,F,F,F,F,F,F,F,F,F,F,F,F,F,F,F,F,F,F,F,F,F,F,F] (by kernel_rfl) rfl rfl (((HB.out.cell (World.block_lt_of_cell? w _ hw103_0)).trans hw103_0)) (fun hHeld => ?_); refine with_tabW impl_IsTriangulation.tab8 impl_IsTriangulation.bits8 (fun HT_ HW_ => ?_); generalize wr.drew = w16 at HB HM hx103_0 hHeld ⊢; refine pure_ (i := 0) (N := some 35) (v := ?_) (a' := ?_) #[T,F,F,F,F,F,F,F,F,F,F,F,F,F,F,F,F,F,F,F,F,F,F,F,F,F,F,F,F,F,F,F,F,F] rfl rfl (any_of HT_.out (by kernel_rfl)) (fun _ _ _ h => h) (Or.inl ⟨by rfl, ?_⟩) ?_ ?_; rotate_left
             ·intro w'; go_simp; with_reducible rfl
             rotate_left
             ·simp only [Act.put, sA, sB, sC, sD, sE]; rfl
             refine pure_ (i := 1) (N := some 36) (v := ?_) (a' := ?_) #[T,T,F,F,F,F,F,F,F,F,F,F,F,F,F,F,F,F,F,F,F,F,F,F,F,F,F,F,F,F,F,F,F,F] rfl rfl (any_of HT_.out (by kernel_rfl)) (fun _ _ _ h => h) (Or.inl ⟨by rfl, ?_⟩) ?_ ?_; rotate_left
             ·intro w'; go_simp; with_reducible rfl
             rotate_left
             ·simp only [Act.put, sA, sB, sC, sD, sE]; rfl
             refine pure_ (i := 2) (N := some 37) (v := ?_) (a' := ?_) #[T,T,T,F,F,F,F,F,F,F,F,F,F,F,F,F,F,F,F,F,F,F,F,F,F,F,F,F,F,F,F,F,F,F] rfl rfl (any_of HT_.out (by kernel_rfl)) (fun _ _ _ h => h) (Or.inl ⟨by rfl, ?_⟩) ?_ ?_; rotate_left
             ·intro w'; go_simp; with_reducible rfl
             rotate_left
             ·simp only [Act.put, sA, sB, sC, sD, sE]; rfl
             refine pure_ (i := 3) (N := some 38) (v := ?_) (a' := ?_) #[T,T,T,T,F,F,F,F,F,F,F,F,F,F,F,F,F,F,F,F,F,F,F,F,F,F,F,F,F,F,F,F,F,F] rfl rfl (any_of HT_.out (by kernel_rfl)) (fun _ _ _ h => h) (Or.inl ⟨by rfl, ?_⟩) ?_ ?_; rotate_left
             ·intro w'; go_simp; with_reducible rfl
             rotate_left
             ·simp only [Act.put, sA, sB, sC, sD, sE]; rfl
             refine pure_ (i := 4) (N := some 39) (v := ?_) (a' := ?_) #[T,T,T,T,T,F,F,F,F,F,F,F,F,F,F,F,F,F,F,F,F,F,F,F,F,F,F,F,F,F,F,F,F,F] rfl rfl (any_of HT_.out (by kernel_rfl)) (fun _ _ _ h => h) (Or.inl ⟨by rfl, ?_⟩) ?_ ?_; rotate_left
             ·intro w'; go_simp; with_reducible rfl
             rotate_left
             ·simp only [Act.put, sA, sB, sC, sD, sE]; rfl
             refine pure_ (i := 5) (N := some 40) (v := ?_) (a' := ?_) #[T,T,T,T,T,T,F,F,F,F,F,F,F,F,F,F,F,F,F,F,F,F,F,F,F,F,F,F,F,F,F,F,F,F] rfl rfl (any_of HT_.out (by kernel_rfl)) (fun _ _ _ h => h) (Or.inl ⟨by rfl, ?_⟩) ?_ ?_; rotate_left
             ·intro w'; go_simp; with_reducible rfl
             rotate_left
             ·simp only [Act.put, sA, sB, sC, sD, sE]; rfl
             refine take_ (i := 6) (N := some 41) (v := ?_) (a' := ?_) #[T,T,T,T,T,T,T,F,F,F,F,F,F,F,F,F,F,F,F,F,F,F,F,F,F,F,F,F,F,F,F,F,F,F] rfl rfl (take_ofW HT_.out HW_.out (by kernel_rfl)) (fun _ _ _ h => h) (Or.inl ⟨by rfl, ?_⟩) hHeld ?_ ?_; rotate_left
             ·intro w' s0; go_simp; with_reducible rfl
             rotate_left
             ·simp only [Act.put, sA, sB, sC, sD, sE]; rfl
             refine pure_ (i := 7) (N := some 42) (v := ?_) (a' := ?_) #[T,T,T,T,T,T,T,T,F,F,F,F,F,F,F,F,F,F,F,F,F,F,F,F,F,F,F,F,F,F,F,F,F,F] rfl rfl (any_of HT_.out (by kernel_rfl)) (fun _ _ _ h => h) (Or.inl ⟨by rfl, ?_⟩) ?_ ?_; rotate_left
             ·intro w'; go_simp; with_reducible rfl
             rotate_left
             ·simp only [Act.put, sA, sB, sC, sD, sE]; rfl
             refine pure_ (i := 8) (N := some 43) (v := ?_) (a' := ?_) #[T,T,T,T,T,T,T,T,T,F,F,F,F,F,F,F,F,F,F,F,F,F,F,F,F,F,F,F,F,F,F,F,F,F] rfl rfl (any_of HT_.out (by kernel_rfl)) (fun _ _ _ h => h) (Or.inl ⟨by rfl, ?_⟩) ?_ ?_; rotate_left
             ·intro w'; go_simp; with_reducible rfl
             rotate_left
             ·simp only [Act.put, sA, sB, sC, sD, sE]; rfl
             refine pure_ (i := 9) (N := some 44) (v := ?_) (a' := ?_) #[T,T,T,T,T,T,T,T,T,T,F,F,F,F,F,F,F,F,F,F,F,F,F,F,F,F,F,F,F,F,F,F,F,F] rfl rfl (any_of HT_.out (by kernel_rfl)) (fun _ _ _ h => h) (Or.inl ⟨by rfl, ?_⟩) ?_ ?_; rotate_left
             ·intro w'; go_simp; with_reducible rfl
             rotate_left
             ·simp only [Act.put, sA, sB, sC, sD, sE]; rfl
             refine pure_ (i := 10) (N := some 45) (v := undef) (a' := ?_) #[T,T,T,T,T,T,T,T,T,T,T,F,F,F,F,F,F,F,F,F,F,F,F,F,F,F,F,F,F,F,F,F,F,F] rfl rfl (any_of HT_.out (by kernel_rfl)) (fun _ _ _ h => h) (Or.inr ⟨by rfl, rfl⟩) ?_ ?_; rotate_left
             ·simp only [Act.put, sA, sB, sC, sD, sE]; rfl
             refine pure_ (i := 11) (N := some 46) (v := undef) (a' := ?_) #[T,T,T,T,T,T,T,T,T,T,T,T,F,F,F,F,F,F,F,F,F,F,F,F,F,F,F,F,F,F,F,F,F,F] rfl rfl (any_of HT_.out (by kernel_rfl)) (fun _ _ _ h => h) (Or.inr ⟨by rfl, rfl⟩) ?_ ?_; rotate_left
             ·simp only [Act.put, sA, sB, sC, sD, sE]; rfl
             refine pure_ (i := 12) (N := some 47) (v := undef) (a' := ?_) #[T,T,T,T,T,T,T,T,T,T,T,T,T,F,F,F,F,F,F,F,F,F,F,F,F,F,F,F,F,F,F,F,F,F] rfl rfl (any_of HT_.out (by kernel_rfl)) (fun _ _ _ h => h) (Or.inr ⟨by rfl, rfl⟩) ?_ ?_; rotate_left
             ·simp only [Act.put, sA, sB, sC, sD, sE]; rfl
             refine pure_ (i := 13) (N := some 48) (v := undef) (a' := ?_) #[T,T,T,T,T,T,T,T,T,T,T,T,T,T,F,F,F,F,F,F,F,F,F,F,F,F,F,F,F,F,F,F,F,F] rfl rfl (any_of HT_.out (by kernel_rfl)) (fun _ _ _ h => h) (Or.inr ⟨by rfl, rfl⟩) ?_ ?_; rotate_left
             ·simp only [Act.put, sA, sB, sC, sD, sE]; rfl
             refine pure_ (i := 14) (N := some 49) (v := undef) (a' := ?_) #[T,T,T,T,T,T,T,T,T,T,T,T,T,T,T,F,F,F,F,F,F,F,F,F,F,F,F,F,F,F,F,F,F,F] rfl rfl (any_of HT_.out (by kernel_rfl)) (fun _ _ _ h => h) (Or.inr ⟨by rfl, rfl⟩) ?_ ?_; rotate_left
             ·simp only [Act.put, sA, sB, sC, sD, sE]; rfl
             refine pure_ (i := 15) (N := some 50) (v := undef) (a' := ?_) #[T,T,T,T,T,T,T,T,T,T,T,T,T,T,T,T,F,F,F,F,F,F,F,F,F,F,F,F,F,F,F,F,F,F] rfl rfl (any_of HT_.out (by kernel_rfl)) (fun _ _ _ h => h) (Or.inr ⟨by rfl, rfl⟩) ?_ ?_; rotate_left
             ·simp only [Act.put, sA, sB, sC, sD, sE]; rfl
             refine pure_ (i := 16) (N := some 51) (v := undef) (a' := ?_) #[T,T,T,T,T,T,T,T,T,T,T,T,T,T,T,T,T,F,F,F,F,F,F,F,F,F,F,F,F,F,F,F,F,F] rfl rfl (any_of HT_.out (by kernel_rfl)) (fun _ _ _ h => h) (Or.inr ⟨by rfl, rfl⟩) ?_ ?_; rotate_left
             ·simp only [Act.put, sA, sB, sC, sD, sE]; rfl
             refine pure_ (i := 17) (N := some 52) (v := ?_) (a' := ?_) #[T,T,T,T,T,T,T,T,T,T,T,T,T,T,T,T,T,T,F,F,F,F,F,F,F,F,F,F,F,F,F,F,F,F] rfl rfl (any_of HT_.out (by kernel_rfl)) (fun _ _ _ h => h) (Or.inl ⟨by rfl, ?_⟩) ?_ ?_; rotate_left
             ·intro w'; go_simp; with_reducible rfl
             rotate_left
             ·simp only [Act.put, sA, sB, sC, sD, sE]; rfl
             refine pure_ (i := 18) (N := some 53) (v := ?_) (a' := ?_) #[T,T,T,T,T,T,T,T,T,T,T,T,T,T,T,T,T,T,T,F,F,F,F,F,F,F,F,F,F,F,F,F,F,F] rfl rfl (any_of HT_.out (by kernel_rfl)) (fun _ _ _ h => h) (Or.inl ⟨by rfl, ?_⟩) ?_ ?_; rotate_left
             ·intro w'; go_simp; with_reducible rfl
             rotate_left
             ·simp only [Act.put, sA, sB, sC, sD, sE]; rfl
             refine pure_ (i := 19) (N := some 54) (v := undef) (a' := ?_) #[T,T,T,T,T,T,T,T,T,T,T,T,T,T,T,T,T,T,T,T,F,F,F,F,F,F,F,F,F,F,F,F,F,F] rfl rfl (any_of HT_.out (by kernel_rfl)) (fun _ _ _ h => h) (Or.inr ⟨by rfl, rfl⟩) ?_ ?_; rotate_left
             ·simp only [Act.put, sA, sB, sC, sD, sE]; rfl
             refine pure_ (i := 20) (N := some 55) (v := undef) (a' := ?_) #[T,T,T,T,T,T,T,T,T,T,T,T,T,T,T,T,T,T,T,T,T,F,F,F,F,F,F,F,F,F,F,F,F,F] rfl rfl (any_of HT_.out (by kernel_rfl)) (fun _ _ _ h => h) (Or.inr ⟨by rfl, rfl⟩) ?_ ?_; rotate_left
             ·simp only [Act.put, sA, sB, sC, sD, sE]; rfl
             refine pure_ (i := 21) (N := some 56) (v := undef) (a' := ?_) #[T,T,T,T,T,T,T,T,T,T,T,T,T,T,T,T,T,T,T,T,T,T,F,F,F,F,F,F,F,F,F,F,F,F] rfl rfl (any_of HT_.out (by kernel_rfl)) (fun _ _ _ h => h) (Or.inr ⟨by rfl, rfl⟩) ?_ ?_; rotate_left
             ·simp only [Act.put, sA, sB, sC, sD, sE]; rfl
             refine pure_ (i := 22) (N := some 57) (v := undef) (a' := ?_) #[T,T,T,T,T,T,T,T,T,T,T,T,T,T,T,T,T,T,T,T,T,T,T,F,F,F,F,F,F,F,F,F,F,F] rfl rfl (any_of HT_.out (by kernel_rfl)) (fun _ _ _ h => h) (Or.inr ⟨by rfl, rfl⟩) ?_ ?_; rotate_left
             ·simp only [Act.put, sA, sB, sC, sD, sE]; rfl
             refine pure_ (i := 23) (N := some 58) (v := undef) (a' := ?_) #[T,T,T,T,T,T,T,T,T,T,T,T,T,T,T,T,T,T,T,T,T,T,T,T,F,F,F,F,F,F,F,F,F,F] rfl rfl (any_of HT_.out (by kernel_rfl)) (fun _ _ _ h => h) (Or.inr ⟨by rfl, rfl⟩) ?_ ?_; rotate_left
             ·simp only [Act.put, sA, sB, sC, sD, sE]; rfl
             refine pure_ (i := 24) (N := some 59) (v := undef) (a' := ?_) #[T,T,T,T,T,T,T,T,T,T,T,T,T,T,T,T,T,T,T,T,T,T,T,T,T,F,F,F,F,F,F,F,F,F] rfl rfl (any_of HT_.out (by kernel_rfl)) (fun _ _ _ h => h) (Or.inr ⟨by rfl, rfl⟩) ?_ ?_; rotate_left
             ·simp only [Act.put, sA, sB, sC, sD, sE]; rfl
             refine pure_ (i := 25) (N := some 60) (v := undef) (a' := ?_) #[T,T,T,T,T,T,T,T,T,T,T,T,T,T,T,T,T,T,T,T,T,T,T,T,T,T,F,F,F,F,F,F,F,F] rfl rfl (any_of HT_.out (by kernel_rfl)) (fun _ _ _ h => h) (Or.inr ⟨by rfl, rfl⟩) ?_ ?_; rotate_left
             ·simp only [Act.put, sA, sB, sC, sD, sE]; rfl
             refine pure_ (i := 26) (N := some 61) (v := ?_) (a' := ?_) #[T,T,T,T,T,T,T,T,T,T,T,T,T,T,T,T,T,T,T,T,T,T,T,T,T,T,T,F,F,F,F,F,F,F] rfl rfl (any_of HT_.out (by kernel_rfl)) (fun _ _ _ h => h) (Or.inl ⟨by rfl, ?_⟩) ?_ ?_; rotate_left
             ·intro w'; go_simp; with_reducible rfl
             rotate_left
             ·simp only [Act.put, sA, sB, sC, sD, sE]; rfl
             refine pure_ (i := 27) (N := some 62) (v := ?_) (a' := ?_) #[T,T,T,T,T,T,T,T,T,T,T,T,T,T,T,T,T,T,T,T,T,T,T,T,T,T,T,T,F,F,F,F,F,F] rfl rfl (any_of HT_.out (by kernel_rfl)) (fun _ _ _ h => h) (Or.inl ⟨by rfl, ?_⟩) ?_ ?_; rotate_left
             ·intro w'; go_simp; with_reducible rfl
             rotate_left
             ·simp only [Act.put, sA, sB, sC, sD, sE]; rfl
             refine pure_ (i := 28) (N := some 63) (v := undef) (a' := ?_) #[T,T,T,T,T,T,T,T,T,T,T,T,T,T,T,T,T,T,T,T,T,T,T,T,T,T,T,T,T,F,F,F,F,F] rfl rfl (any_of HT_.out (by kernel_rfl)) (fun _ _ _ h => h) (Or.inr ⟨by rfl, rfl⟩) ?_ ?_; rotate_left
             ·simp only [Act.put, sA, sB, sC, sD, sE]; rfl
             refine pure_ (i := 29) (N := some 64) (v := undef) (a' := ?_) #[T,T,T,T,T,T,T,T,T,T,T,T,T,T,T,T,T,T,T,T,T,T,T,T,T,T,T,T,T,T,F,F,F,F] rfl rfl (any_of HT_.out (by kernel_rfl)) (fun _ _ _ h => h) (Or.inr ⟨by rfl, rfl⟩) ?_ ?_; rotate_left
             ·simp only [Act.put, sA, sB, sC, sD, sE]; rfl
             refine pure_ (i := 30) (N := some 65) (v := undef) (a' := ?_) #[T,T,T,T,T,T,T,T,T,T,T,T,T,T,T,T,T,T,T,T,T,T,T,T,T,T,T,T,T,T,T,F,F,F] rfl rfl (any_of HT_.out (by kernel_rfl)) (fun _ _ _ h => h) (Or.inr ⟨by rfl, rfl⟩) ?_ ?_; rotate_left
             ·simp only [Act.put, sA, sB, sC, sD, sE]; rfl
             refine pure_ (i := 31) (N := some 66) (v := undef) (a' := ?_) #[T,T,T,T,T,T,T,T,T,T,T,T,T,T,T,T,T,T,T,T,T,T,T,T,T,T,T,T,T,T,T,T,F,F] rfl rfl (any_of HT_.out (by kernel_rfl)) (fun _ _ _ h => h) (Or.inr ⟨by rfl, rfl⟩) ?_ ?_; rotate_left
             ·simp only [Act.put, sA, sB, sC, sD, sE]; rfl
             refine pure_ (i := 32) (N := some 67) (v := undef) (a' := ?_) #[T,T,T,T,T,T,T,T,T,T,T,T,T,T,T,T,T,T,T,T,T,T,T,T,T,T,T,T,T,T,T,T,T,F] rfl rfl (any_of HT_.out (by kernel_rfl)) (fun _ _ _ h => h) (Or.inr ⟨by rfl, rfl⟩) ?_ ?_; rotate_left
             ·simp only [Act.put, sA, sB, sC, sD, sE]; rfl
             refine pure_ (i := 33) (N := some 68) (v := ?_) (a' := ?_) #[T,T,T,T,T,T,T,T,T,T,T,T,T,T,T,T,T,T,T,T,T,T,T,T,T,T,T,T,T,T,T,T,T,T] rfl rfl (any_of HT_.out (by kernel_rfl)) (fun _ _ _ h => h) (Or.inl ⟨by rfl, ?_⟩) ?_ ?_; rotate_left
             ·intro w'; go_simp; with_reducible rfl
             rotate_left
             ·simp only [Act.put, sA, sB, sC, sD, sE]; rfl
             refine done_ (done_of HT_.out (by kernel_rfl)) ?_
             try go_wp2
             go_meet
             case rel => exact ⟨_, (true), (by first | rfl | (simp; done) | (simp [*]; done)), H', ⟨by have := HJ2.out; have := HK2.out; first | omega | exact Nat.le_refl _⟩, ⟨by (with_reducible repeat (first | apply Cts.alloc | apply Cts.drewN | apply Cts.drew)); exact HM.out⟩, ⟨by repeat (first | (with_reducible first | exact HB.out | apply bA | apply bD | apply bE) | exact HB.out)⟩⟩
            ·rw [if_neg c15] at H; have c15b0 : decide ((rd (rd_L5 l1 x31_2) 0) < 0) = false := decide_eq_false c15; clear c15
             by_cases c17 : 1 < ((rd_L5 l1 x31_2).length : Int)
             ·rw [if_pos c17] at H; have c17b0 : decide (1 < ((rd_L5 l1 x31_2).length : Int)) = true := decide_eq_true c17; have c17b1 : decide (1 < (rd_L5 l1 x31_2).length) = true := decide_eq_true (by omega); clear c17
              by_cases c18 : (rd (rd_L5 l1 x31_2) 0) ≥ (rd (rd_L5 l1 x31_2) 1)
              ·rw [if_pos c18] at H; have c18b0 : decide ((rd (rd_L5 l1 x31_2) 1) ≤ (rd (rd_L5 l1 x31_2) 0)) = true := decide_eq_true c18; clear c18; have H' := Ak H; clear H
               try go_wp2
               have n0_ := Ak (below_drew1 HB.out); have n1_ := Ak (Cts.drew HM.out); clear HB HM; have HB := n0_; have HM := n1_; clear n0_ n1_; have p103 : 0 ≤ (0 : Int) := (by omega); have q103 : 0 < ((rd_L5 l1 x31_2).length : Int) := of_decide_eq_true (by first | (with_reducible assumption) | assumption); obtain ⟨ad103, e103, hx103_0⟩ := Kd.at_int HR102_0.out 0 p103 q103; have hw103_0 := hx103_0; (try rw [show ((0 : Int)).toNat = 0 from rfl] at hw103_0); (try rw [show 0 * 1 = 0 from rfl] at hw103_0); (try rw [Addr.add_zero'] at hw103_0); cases e103; have qi103 : (0 < (rd_L5 l1 x31_2).length) = True := eq_true (by omega); (try rw [show ((0 : Int)).toNat = 0 from rfl] at hx103_0); (try rw [Addr.add_zero'] at hx103_0); replace hx103_0 := cB HB.out hx103_0; replace p103 := eq_true p103; replace q103 := eq_true q103; have p104 : 0 ≤ (0 : Int) := (by omega); have q104 : 0 < ((rd_L5 l1 x31_2).length : Int) := of_decide_eq_true (by first | (with_reducible assumption) | assumption); obtain ⟨ad104, e104, hx104_0⟩ := Kd.at_int HR102_0.out 0 p104 q104; have hw104_0 := hx104_0; (try rw [show ((0 : Int)).toNat = 0 from rfl] at hw104_0); (try rw [show 0 * 1 = 0 from rfl] at hw104_0); (try rw [Addr.add_zero'] at hw104_0); obtain rfl : ad103 = ad104 := (by injection e104); have qi104 : (0 < (rd_L5 l1 x31_2).length) = True := eq_true (by omega); (try rw [show ((0 : Int)).toNat = 0 from rfl] at hx104_0); (try rw [Addr.add_zero'] at hx104_0); replace hx104_0 := cB HB.out hx104_0; replace p104 := eq_true p104; replace q104 := eq_true q104; have p105 : 0 ≤ (1 : Int) := (by omega); have q105 : 1 < ((rd_L5 l1 x31_2).length : Int) := of_decide_eq_true (by first | (with_reducible assumption) | assumption); obtain ⟨ad105, e105, hx105_0⟩ := Kd.at_int HR102_0.out 1 p105 q105; have hw105_0 := hx105_0; (try rw [show ((1 : Int)).toNat = 1 from rfl] at hw105_0); (try rw [show 1 * 1 = 1 from rfl] at hw105_0); (try simp only [Nat.reduceMul, Nat.reduceEqDiff, Go.Addr.add, ↓reduceIte] at hw105_0); obtain rfl : ad103 = ad105 := (by injection e105); (try simp only [show (1 : Int).toNat = 1 from rfl, Nat.reduceMul, Nat.reduceEqDiff, Go.Addr.add, ↓reduceIte] at hx105_0); have qi105 : (1 < (rd_L5 l1 x31_2).length) = True := eq_true (by omega); (try rw [show ((1 : Int)).toNat = 1 from rfl] at hx105_0); replace hx105_0 := cB HB.out hx105_0; replace p105 := eq_true p105; replace q105 := eq_true q105; refine start_ (n := 34) (S := fun w' => w'.cell? ad103 = some (.int .i64 (rd (rd_L5 l1 x31_2) 0)) ∧ w'.cell? ad103 = some (.int .i64 (rd (rd_L5 l1 x31_2) 0)) ∧ w'.cell? ⟨ad103.block, ad103.off + 1, none⟩ = some (.int .i64 (rd (rd_L5 l1 x31_2) 1))) (ds := []) #[F,F,F,F,F,F,F,F,F,F,F,F,F,F,F,F,F,F,F,F,F,F,F,F,F,F,F,F,F,F,F,F,F,F] (by kernel_rfl) rfl rfl ⟨((HB.out.cell (World.block_lt_of_cell? w _ hw103_0)).trans hw103_0), ((HB.out.cell (World.block_lt_of_cell? w _ hw104_0)).trans hw104_0), ((HB.out.cell (World.block_lt_of_cell? w _ hw105_0)).trans hw105_0)⟩ (fun hHeld => ?_); refine with_tabW impl_IsTriangulation.tab8 impl_IsTriangulation.bits8 (fun HT_ HW_ => ?_); generalize wr.drew = w19 at HB HM hx103_0 hx104_0 hx105_0 hHeld ⊢; refine pure_ (i := 0) (N := some 35) (v := ?_) (a' := ?_) #[T,F,F,F,F,F,F,F,F,F,F,F,F,F,F,F,F,F,F,F,F,F,F,F,F,F,F,F,F,F,F,F,F,F] rfl rfl (any_of HT_.out (by kernel_rfl)) (fun _ _ _ h => h) (Or.inl ⟨by rfl, ?_⟩) ?_ ?_; rotate_left
               ·intro w'; go_simp; with_reducible rfl
               rotate_left
               ·simp only [Act.put, sA, sB, sC, sD, sE]; rfl
               refine pure_ (i := 1) (N := some 36) (v := ?_) (a' := ?_) #[T,T,F,F,F,F,F,F,F,F,F,F,F,F,F,F,F,F,F,F,F,F,F,F,F,F,F,F,F,F,F,F,F,F] rfl rfl (any_of HT_.out (by kernel_rfl)) (fun _ _ _ h => h) (Or.inl ⟨by rfl, ?_⟩) ?_ ?_; rotate_left
               ·intro w'; go_simp; with_reducible rfl
               rotate_left
               ·simp only [Act.put, sA, sB, sC, sD, sE]; rfl
               refine pure_ (i := 2) (N := some 37) (v := ?_) (a' := ?_) #[T,T,T,F,F,F,F,F,F,F,F,F,F,F,F,F,F,F,F,F,F,F,F,F,F,F,F,F,F,F,F,F,F,F] rfl rfl (any_of HT_.out (by kernel_rfl)) (fun _ _ _ h => h) (Or.inl ⟨by rfl, ?_⟩) ?_ ?_; rotate_left
               ·intro w'; go_simp; with_reducible rfl
               rotate_left
               ·simp only [Act.put, sA, sB, sC, sD, sE]; rfl
               refine pure_ (i := 3) (N := some 38) (v := ?_) (a' := ?_) #[T,T,T,T,F,F,F,F,F,F,F,F,F,F,F,F,F,F,F,F,F,F,F,F,F,F,F,F,F,F,F,F,F,F] rfl rfl (any_of HT_.out (by kernel_rfl)) (fun _ _ _ h => h) (Or.inl ⟨by rfl, ?_⟩) ?_ ?_; rotate_left
               ·intro w'; go_simp; with_reducible rfl
               rotate_left
               ·simp only [Act.put, sA, sB, sC, sD, sE]; rfl
               refine pure_ (i := 4) (N := some 39) (v := ?_) (a' := ?_) #[T,T,T,T,T,F,F,F,F,F,F,F,F,F,F,F,F,F,F,F,F,F,F,F,F,F,F,F,F,F,F,F,F,F] rfl rfl (any_of HT_.out (by kernel_rfl)) (fun _ _ _ h => h) (Or.inl ⟨by rfl, ?_⟩) ?_ ?_; rotate_left
               ·intro w'; go_simp; with_reducible rfl
               rotate_left
               ·simp only [Act.put, sA, sB, sC, sD, sE]; rfl
               refine pure_ (i := 5) (N := some 40) (v := ?_) (a' := ?_) #[T,T,T,T,T,T,F,F,F,F,F,F,F,F,F,F,F,F,F,F,F,F,F,F,F,F,F,F,F,F,F,F,F,F] rfl rfl (any_of HT_.out (by kernel_rfl)) (fun _ _ _ h => h) (Or.inl ⟨by rfl, ?_⟩) ?_ ?_; rotate_left
               ·intro w'; go_simp; with_reducible rfl
               rotate_left
               ·simp only [Act.put, sA, sB, sC, sD, sE]; rfl
               refine take_ (i := 6) (N := some 41) (v := ?_) (a' := ?_) #[T,T,T,T,T,T,T,F,F,F,F,F,F,F,F,F,F,F,F,F,F,F,F,F,F,F,F,F,F,F,F,F,F,F] rfl rfl (take_ofW HT_.out HW_.out (by kernel_rfl)) (fun _ _ _ h => h) (Or.inl ⟨by rfl, ?_⟩) hHeld ?_ ?_; rotate_left
               ·rintro w' ⟨s0, s1, s2⟩; go_simp; with_reducible rfl
               rotate_left
               ·simp only [Act.put, sA, sB, sC, sD, sE]; rfl
               refine pure_ (i := 7) (N := some 42) (v := ?_) (a' := ?_) #[T,T,T,T,T,T,T,T,F,F,F,F,F,F,F,F,F,F,F,F,F,F,F,F,F,F,F,F,F,F,F,F,F,F] rfl rfl (any_of HT_.out (by kernel_rfl)) (fun _ _ _ h => h) (Or.inl ⟨by rfl, ?_⟩) ?_ ?_; rotate_left
               ·intro w'; go_simp; with_reducible rfl
               rotate_left
               ·simp only [Act.put, sA, sB, sC, sD, sE]; rfl
               refine pure_ (i := 8) (N := some 43) (v := ?_) (a' := ?_) #[T,T,T,T,T,T,T,T,T,F,F,F,F,F,F,F,F,F,F,F,F,F,F,F,F,F,F,F,F,F,F,F,F,F] rfl rfl (any_of HT_.out (by kernel_rfl)) (fun _ _ _ h => h) (Or.inl ⟨by rfl, ?_⟩) ?_ ?_; rotate_left
               ·intro w'; go_simp; with_reducible rfl
               rotate_left
               ·simp only [Act.put, sA, sB, sC, sD, sE]; rfl
               refine pure_ (i := 9) (N := some 44) (v := ?_) (a' := ?_) #[T,T,T,T,T,T,T,T,T,T,F,F,F,F,F,F,F,F,F,F,F,F,F,F,F,F,F,F,F,F,F,F,F,F] rfl rfl (any_of HT_.out (by kernel_rfl)) (fun _ _ _ h => h) (Or.inl ⟨by rfl, ?_⟩) ?_ ?_; rotate_left
               ·intro w'; go_simp; with_reducible rfl
               rotate_left
               ·simp only [Act.put, sA, sB, sC, sD, sE]; rfl
               refine pure_ (i := 10) (N := some 45) (v := ?_) (a' := ?_) #[T,T,T,T,T,T,T,T,T,T,T,F,F,F,F,F,F,F,F,F,F,F,F,F,F,F,F,F,F,F,F,F,F,F] rfl rfl (any_of HT_.out (by kernel_rfl)) (fun _ _ _ h => h) (Or.inl ⟨by rfl, ?_⟩) ?_ ?_; rotate_left
               ·intro w'; go_simp; with_reducible rfl
               rotate_left
               ·simp only [Act.put, sA, sB, sC, sD, sE]; rfl
               refine pure_ (i := 11) (N := some 46) (v := ?_) (a' := ?_) #[T,T,T,T,T,T,T,T,T,T,T,T,F,F,F,F,F,F,F,F,F,F,F,F,F,F,F,F,F,F,F,F,F,F] rfl rfl (any_of HT_.out (by kernel_rfl)) (fun _ _ _ h => h) (Or.inl ⟨by rfl, ?_⟩) ?_ ?_; rotate_left
               ·intro w'; go_simp; with_reducible rfl
               rotate_left
               ·simp only [Act.put, sA, sB, sC, sD, sE]; rfl
               refine pure_ (i := 13) (N := some 48) (v := ?_) (a' := ?_) #[T,T,T,T,T,T,T,T,T,T,T,T,F,T,F,F,F,F,F,F,F,F,F,F,F,F,F,F,F,F,F,F,F,F] rfl rfl (any_of HT_.out (by kernel_rfl)) (fun _ _ _ h => h) (Or.inl ⟨by rfl, ?_⟩) ?_ ?_; rotate_left
               ·intro w'; go_simp; with_reducible rfl
               rotate_left
               ·simp only [Act.put, sA, sB, sC, sD, sE]; rfl
               refine pure_ (i := 14) (N := some 49) (v := ?_) (a' := ?_) #[T,T,T,T,T,T,T,T,T,T,T,T,F,T,T,F,F,F,F,F,F,F,F,F,F,F,F,F,F,F,F,F,F,F] rfl rfl (any_of HT_.out (by kernel_rfl)) (fun _ _ _ h => h) (Or.inl ⟨by rfl, ?_⟩) ?_ ?_; rotate_left
               ·intro w'; go_simp; with_reducible rfl
               rotate_left
               ·simp only [Act.put, sA, sB, sC, sD, sE]; rfl
               refine take_ (i := 12) (N := some 47) (v := ?_) (a' := ?_) #[T,T,T,T,T,T,T,T,T,T,T,T,T,T,T,F,F,F,F,F,F,F,F,F,F,F,F,F,F,F,F,F,F,F] rfl rfl (take_ofW HT_.out HW_.out (by kernel_rfl)) (fun _ _ _ h => h) (Or.inl ⟨by rfl, ?_⟩) hHeld ?_ ?_; rotate_left
               ·rintro w' ⟨s0, s1, s2⟩; go_simp; with_reducible rfl
               rotate_left
               ·simp only [Act.put, sA, sB, sC, sD, sE]; rfl
               refine take_ (i := 15) (N := some 50) (v := ?_) (a' := ?_) #[T,T,T,T,T,T,T,T,T,T,T,T,T,T,T,T,F,F,F,F,F,F,F,F,F,F,F,F,F,F,F,F,F,F] rfl rfl (take_ofW HT_.out HW_.out (by kernel_rfl)) (fun _ _ _ h => h) (Or.inl ⟨by rfl, ?_⟩) hHeld ?_ ?_; rotate_left
               ·rintro w' ⟨s0, s1, s2⟩; go_simp; with_reducible rfl
               rotate_left
               ·simp only [Act.put, sA, sB, sC, sD, sE]; rfl
               refine pure_ (i := 16) (N := some 51) (v := ?_) (a' := ?_) #[T,T,T,T,T,T,T,T,T,T,T,T,T,T,T,T,T,F,F,F,F,F,F,F,F,F,F,F,F,F,F,F,F,F] rfl rfl (any_of HT_.out (by kernel_rfl)) (fun _ _ _ h => h) (Or.inl ⟨by rfl, ?_⟩) ?_ ?_; rotate_left
               ·intro w'; go_simp; with_reducible rfl
               rotate_left
               ·simp only [Act.put, sA, sB, sC, sD, sE]; rfl
               refine pure_ (i := 17) (N := some 52) (v := ?_) (a' := ?_) #[T,T,T,T,T,T,T,T,T,T,T,T,T,T,T,T,T,T,F,F,F,F,F,F,F,F,F,F,F,F,F,F,F,F] rfl rfl (any_of HT_.out (by kernel_rfl)) (fun _ _ _ h => h) (Or.inl ⟨by rfl, ?_⟩) ?_ ?_; rotate_left
               ·intro w'; go_simp; with_reducible rfl
               rotate_left
               ·simp only [Act.put, sA, sB, sC, sD, sE]; rfl
               refine pure_ (i := 18) (N := some 53) (v := ?_) (a' := ?_) #[T,T,T,T,T,T,T,T,T,T,T,T,T,T,T,T,T,T,T,F,F,F,F,F,F,F,F,F,F,F,F,F,F,F] rfl rfl (any_of HT_.out (by kernel_rfl)) (fun _ _ _ h => h) (Or.inl ⟨by rfl, ?_⟩) ?_ ?_; rotate_left
               ·intro w'; go_simp; with_reducible rfl
               rotate_left
               ·simp only [Act.put, sA, sB, sC, sD, sE]; rfl
               refine pure_ (i := 19) (N := some 54) (v := undef) (a' := ?_) #[T,T,T,T,T,T,T,T,T,T,T,T,T,T,T,T,T,T,T,T,F,F,F,F,F,F,F,F,F,F,F,F,F,F] rfl rfl (any_of HT_.out (by kernel_rfl)) (fun _ _ _ h => h) (Or.inr ⟨by rfl, rfl⟩) ?_ ?_; rotate_left
               ·simp only [Act.put, sA, sB, sC, sD, sE]; rfl
               refine pure_ (i := 20) (N := some 55) (v := undef) (a' := ?_) #[T,T,T,T,T,T,T,T,T,T,T,T,T,T,T,T,T,T,T,T,T,F,F,F,F,F,F,F,F,F,F,F,F,F] rfl rfl (any_of HT_.out (by kernel_rfl)) (fun _ _ _ h => h) (Or.inr ⟨by rfl, rfl⟩) ?_ ?_; rotate_left
               ·simp only [Act.put, sA, sB, sC, sD, sE]; rfl
               refine pure_ (i := 21) (N := some 56) (v := undef) (a' := ?_) #[T,T,T,T,T,T,T,T,T,T,T,T,T,T,T,T,T,T,T,T,T,T,F,F,F,F,F,F,F,F,F,F,F,F] rfl rfl (any_of HT_.out (by kernel_rfl)) (fun _ _ _ h => h) (Or.inr ⟨by rfl, rfl⟩) ?_ ?_; rotate_left
               ·simp only [Act.put, sA, sB, sC, sD, sE]; rfl
               refine pure_ (i := 22) (N := some 57) (v := undef) (a' := ?_) #[T,T,T,T,T,T,T,T,T,T,T,T,T,T,T,T,T,T,T,T,T,T,T,F,F,F,F,F,F,F,F,F,F,F] rfl rfl (any_of HT_.out (by kernel_rfl)) (fun _ _ _ h => h) (Or.inr ⟨by rfl, rfl⟩) ?_ ?_; rotate_left
               ·simp only [Act.put, sA, sB, sC, sD, sE]; rfl
               refine pure_ (i := 23) (N := some 58) (v := undef) (a' := ?_) #[T,T,T,T,T,T,T,T,T,T,T,T,T,T,T,T,T,T,T,T,T,T,T,T,F,F,F,F,F,F,F,F,F,F] rfl rfl (any_of HT_.out (by kernel_rfl)) (fun _ _ _ h => h) (Or.inr ⟨by rfl, rfl⟩) ?_ ?_; rotate_left
               ·simp only [Act.put, sA, sB, sC, sD, sE]; rfl
               refine pure_ (i := 24) (N := some 59) (v := undef) (a' := ?_) #[T,T,T,T,T,T,T,T,T,T,T,T,T,T,T,T,T,T,T,T,T,T,T,T,T,F,F,F,F,F,F,F,F,F] rfl rfl (any_of HT_.out (by kernel_rfl)) (fun _ _ _ h => h) (Or.inr ⟨by rfl, rfl⟩) ?_ ?_; rotate_left
               ·simp only [Act.put, sA, sB, sC, sD, sE]; rfl
               refine pure_ (i := 25) (N := some 60) (v := undef) (a' := ?_) #[T,T,T,T,T,T,T,T,T,T,T,T,T,T,T,T,T,T,T,T,T,T,T,T,T,T,F,F,F,F,F,F,F,F] rfl rfl (any_of HT_.out (by kernel_rfl)) (fun _ _ _ h => h) (Or.inr ⟨by rfl, rfl⟩) ?_ ?_; rotate_left
               ·simp only [Act.put, sA, sB, sC, sD, sE]; rfl
               refine pure_ (i := 26) (N := some 61) (v := ?_) (a' := ?_) #[T,T,T,T,T,T,T,T,T,T,T,T,T,T,T,T,T,T,T,T,T,T,T,T,T,T,T,F,F,F,F,F,F,F] rfl rfl (any_of HT_.out (by kernel_rfl)) (fun _ _ _ h => h) (Or.inl ⟨by rfl, ?_⟩) ?_ ?_; rotate_left
               ·intro w'; go_simp; with_reducible rfl
               rotate_left
               ·simp only [Act.put, sA, sB, sC, sD, sE]; rfl
               refine pure_ (i := 27) (N := some 62) (v := ?_) (a' := ?_) #[T,T,T,T,T,T,T,T,T,T,T,T,T,T,T,T,T,T,T,T,T,T,T,T,T,T,T,T,F,F,F,F,F,F] rfl rfl (any_of HT_.out (by kernel_rfl)) (fun _ _ _ h => h) (Or.inl ⟨by rfl, ?_⟩) ?_ ?_; rotate_left
               ·intro w'; go_simp; with_reducible rfl
               rotate_left
               ·simp only [Act.put, sA, sB, sC, sD, sE]; rfl
               refine pure_ (i := 28) (N := some 63) (v := undef) (a' := ?_) #[T,T,T,T,T,T,T,T,T,T,T,T,T,T,T,T,T,T,T,T,T,T,T,T,T,T,T,T,T,F,F,F,F,F] rfl rfl (any_of HT_.out (by kernel_rfl)) (fun _ _ _ h => h) (Or.inr ⟨by rfl, rfl⟩) ?_ ?_; rotate_left
               ·simp only [Act.put, sA, sB, sC, sD, sE]; rfl
               refine pure_ (i := 29) (N := some 64) (v := undef) (a' := ?_) #[T,T,T,T,T,T,T,T,T,T,T,T,T,T,T,T,T,T,T,T,T,T,T,T,T,T,T,T,T,T,F,F,F,F] rfl rfl (any_of HT_.out (by kernel_rfl)) (fun _ _ _ h => h) (Or.inr ⟨by rfl, rfl⟩) ?_ ?_; rotate_left
               ·simp only [Act.put, sA, sB, sC, sD, sE]; rfl
               refine pure_ (i := 30) (N := some 65) (v := undef) (a' := ?_) #[T,T,T,T,T,T,T,T,T,T,T,T,T,T,T,T,T,T,T,T,T,T,T,T,T,T,T,T,T,T,T,F,F,F] rfl rfl (any_of HT_.out (by kernel_rfl)) (fun _ _ _ h => h) (Or.inr ⟨by rfl, rfl⟩) ?_ ?_; rotate_left
               ·simp only [Act.put, sA, sB, sC, sD, sE]; rfl
               refine pure_ (i := 31) (N := some 66) (v := undef) (a' := ?_) #[T,T,T,T,T,T,T,T,T,T,T,T,T,T,T,T,T,T,T,T,T,T,T,T,T,T,T,T,T,T,T,T,F,F] rfl rfl (any_of HT_.out (by kernel_rfl)) (fun _ _ _ h => h) (Or.inr ⟨by rfl, rfl⟩) ?_ ?_; rotate_left
               ·simp only [Act.put, sA, sB, sC, sD, sE]; rfl
               refine pure_ (i := 32) (N := some 67) (v := undef) (a' := ?_) #[T,T,T,T,T,T,T,T,T,T,T,T,T,T,T,T,T,T,T,T,T,T,T,T,T,T,T,T,T,T,T,T,T,F] rfl rfl (any_of HT_.out (by kernel_rfl)) (fun _ _ _ h => h) (Or.inr ⟨by rfl, rfl⟩) ?_ ?_; rotate_left
               ·simp only [Act.put, sA, sB, sC, sD, sE]; rfl
               refine pure_ (i := 33) (N := some 68) (v := ?_) (a' := ?_) #[T,T,T,T,T,T,T,T,T,T,T,T,T,T,T,T,T,T,T,T,T,T,T,T,T,T,T,T,T,T,T,T,T,T] rfl rfl (any_of HT_.out (by kernel_rfl)) (fun _ _ _ h => h) (Or.inl ⟨by rfl, ?_⟩) ?_ ?_; rotate_left
               ·intro w'; go_simp; with_reducible rfl
               rotate_left
               ·simp only [Act.put, sA, sB, sC, sD, sE]; rfl
               refine done_ (done_of HT_.out (by kernel_rfl)) ?_
               try go_wp2
               go_meet
               case rel => exact ⟨_, (true), (by first | rfl | (simp; done) | (simp [*]; done)), H', ⟨by have := HJ2.out; have := HK2.out; first | omega | exact Nat.le_refl _⟩, ⟨by (with_reducible repeat (first | apply Cts.alloc | apply Cts.drewN | apply Cts.drew)); exact HM.out⟩, ⟨by repeat (first | (with_reducible first | exact HB.out | apply bA | apply bD | apply bE) | exact HB.out)⟩⟩
              ·rw [if_neg c18] at H; have c18b0 : decide ((rd (rd_L5 l1 x31_2) 1) ≤ (rd (rd_L5 l1 x31_2) 0)) = false := decide_eq_false c18; clear c18
               by_cases c20 : 2 < ((rd_L5 l1 x31_2).length : Int)
               ·rw [if_pos c20] at H; have c20b0 : decide (2 < ((rd_L5 l1 x31_2).length : Int)) = true := decide_eq_true c20; have c20b1 : decide (2 < (rd_L5 l1 x31_2).length) = true := decide_eq_true (by omega); clear c20
                by_cases c21 : (rd (rd_L5 l1 x31_2) 1) ≥ (rd (rd_L5 l1 x31_2) 2)
                ·rw [if_pos c21] at H; have c21b0 : decide ((rd (rd_L5 l1 x31_2) 2) ≤ (rd (rd_L5 l1 x31_2) 1)) = true := decide_eq_true c21; clear c21; have H' := Ak H; clear H
                 try go_wp2
                 have n0_ := Ak (below_drew1 HB.out); have n1_ := Ak (Cts.drew HM.out); clear HB HM; have HB := n0_; have HM := n1_; clear n0_ n1_; have p103 : 0 ≤ (0 : Int) := (by omega); have q103 : 0 < ((rd_L5 l1 x31_2).length : Int) := of_decide_eq_true (by first | (with_reducible assumption) | assumption); obtain ⟨ad103, e103, hx103_0⟩ := Kd.at_int HR102_0.out 0 p103 q103; have hw103_0 := hx103_0; (try rw [show ((0 : Int)).toNat = 0 from rfl] at hw103_0); (try rw [show 0 * 1 = 0 from rfl] at hw103_0); (try rw [Addr.add_zero'] at hw103_0); cases e103; have qi103 : (0 < (rd_L5 l1 x31_2).length) = True := eq_true (by omega); (try rw [show ((0 : Int)).toNat = 0 from rfl] at hx103_0); (try rw [Addr.add_zero'] at hx103_0); replace hx103_0 := cB HB.out hx103_0; replace p103 := eq_true p103; replace q103 := eq_true q103; have p104 : 0 ≤ (0 : Int) := (by omega); have q104 : 0 < ((rd_L5 l1 x31_2).length : Int) := of_decide_eq_true (by first | (with_reducible assumption) | assumption); obtain ⟨ad104, e104, hx104_0⟩ := Kd.at_int HR102_0.out 0 p104 q104; have hw104_0 := hx104_0; (try rw [show ((0 : Int)).toNat = 0 from rfl] at hw104_0); (try rw [show 0 * 1 = 0 from rfl] at hw104_0); (try rw [Addr.add_zero'] at hw104_0); obtain rfl : ad103 = ad104 := (by injection e104); have qi104 : (0 < (rd_L5 l1 x31_2).length) = True := eq_true (by omega); (try rw [show ((0 : Int)).toNat = 0 from rfl] at hx104_0); (try rw [Addr.add_zero'] at hx104_0); replace hx104_0 := cB HB.out hx104_0; replace p104 := eq_true p104; replace q104 := eq_true q104; have p105 : 0 ≤ (1 : Int) := (by omega); have q105 : 1 < ((rd_L5 l1 x31_2).length : Int) := of_decide_eq_true (by first | (with_reducible assumption) | assumption); obtain ⟨ad105, e105, hx105_0⟩ := Kd.at_int HR102_0.out 1 p105 q105; have hw105_0 := hx105_0; (try rw [show ((1 : Int)).toNat = 1 from rfl] at hw105_0); (try rw [show 1 * 1 = 1 from rfl] at hw105_0); (try simp only [Nat.reduceMul, Nat.reduceEqDiff, Go.Addr.add, ↓reduceIte] at hw105_0); obtain rfl : ad103 = ad105 := (by injection e105); (try simp only [show (1 : Int).toNat = 1 from rfl, Nat.reduceMul, Nat.reduceEqDiff, Go.Addr.add, ↓reduceIte] at hx105_0); have qi105 : (1 < (rd_L5 l1 x31_2).length) = True := eq_true (by omega); (try rw [show ((1 : Int)).toNat = 1 from rfl] at hx105_0); replace hx105_0 := cB HB.out hx105_0; replace p105 := eq_true p105; replace q105 := eq_true q105; have p106 : 0 ≤ (1 : Int) := (by omega); have q106 : 1 < ((rd_L5 l1 x31_2).length : Int) := of_decide_eq_true (by first | (with_reducible assumption) | assumption); obtain ⟨ad106, e106, hx106_0⟩ := Kd.at_int HR102_0.out 1 p106 q106; have hw106_0 := hx106_0; (try rw [show ((1 : Int)).toNat = 1 from rfl] at hw106_0); (try rw [show 1 * 1 = 1 from rfl] at hw106_0); (try simp only [Nat.reduceMul, Nat.reduceEqDiff, Go.Addr.add, ↓reduceIte] at hw106_0); obtain rfl : ad103 = ad106 := (by injection e106); (try simp only [show (1 : Int).toNat = 1 from rfl, Nat.reduceMul, Nat.reduceEqDiff, Go.Addr.add, ↓reduceIte] at hx106_0); have qi106 : (1 < (rd_L5 l1 x31_2).length) = True := eq_true (by omega); (try rw [show ((1 : Int)).toNat = 1 from rfl] at hx106_0); replace hx106_0 := cB HB.out hx106_0; replace p106 := eq_true p106; replace q106 := eq_true q106; have p107 : 0 ≤ (2 : Int) := (by omega); have q107 : 2 < ((rd_L5 l1 x31_2).length : Int) := of_decide_eq_true (by first | (with_reducible assumption) | assumption); obtain ⟨ad107, e107, hx107_0⟩ := Kd.at_int HR102_0.out 2 p107 q107; have hw107_0 := hx107_0; (try rw [show ((2 : Int)).toNat = 2 from rfl] at hw107_0); (try rw [show 2 * 1 = 2 from rfl] at hw107_0); (try simp only [Nat.reduceMul, Nat.reduceEqDiff, Go.Addr.add, ↓reduceIte] at hw107_0); obtain rfl : ad103 = ad107 := (by injection e107); (try simp only [show (2 : Int).toNat = 2 from rfl, Nat.reduceMul, Nat.reduceEqDiff, Go.Addr.add, ↓reduceIte] at hx107_0); have qi107 : (2 < (rd_L5 l1 x31_2).length) = True := eq_true (by omega); (try rw [show ((2 : Int)).toNat = 2 from rfl] at hx107_0); replace hx107_0 := cB HB.out hx107_0; replace p107 := eq_true p107; replace q107 := eq_true q107; refine start_ (n := 34) (S := fun w' => w'.cell? ad103 = some (.int .i64 (rd (rd_L5 l1 x31_2) 0)) ∧ w'.cell? ad103 = some (.int .i64 (rd (rd_L5 l1 x31_2) 0)) ∧ w'.cell? ⟨ad103.block, ad103.off + 1, none⟩ = some (.int .i64 (rd (rd_L5 l1 x31_2) 1)) ∧ w'.cell? ⟨ad103.block, ad103.off + 1, none⟩ = some (.int .i64 (rd (rd_L5 l1 x31_2) 1)) ∧ w'.cell? ⟨ad103.block, ad103.off + 2, none⟩ = some (.int .i64 (rd (rd_L5 l1 x31_2) 2))) (ds := []) #[F,F,F,F,F,F,F,F,F,F,F,F,F,F,F,F,F,F,F,F,F,F,F,F,F,F,F,F,F,F,F,F,F,F] (by kernel_rfl) rfl rfl ⟨((HB.out.cell (World.block_lt_of_cell? w _ hw103_0)).trans hw103_0), ((HB.out.cell (World.block_lt_of_cell? w _ hw104_0)).trans hw104_0), ((HB.out.cell (World.block_lt_of_cell? w _ hw105_0)).trans hw105_0), ((HB.out.cell (World.block_lt_of_cell? w _ hw106_0)).trans hw106_0), ((HB.out.cell (World.block_lt_of_cell? w _ hw107_0)).trans hw107_0)⟩ (fun hHeld => ?_); refine with_tabW impl_IsTriangulation.tab8 impl_IsTriangulation.bits8 (fun HT_ HW_ => ?_); generalize wr.drew = w22 at HB HM hx103_0 hx104_0 hx105_0 hx106_0 hx107_0 hHeld ⊢; refine pure_ (i := 0) (N := some 35) (v := ?_) (a' := ?_) #[T,F,F,F,F,F,F,F,F,F,F,F,F,F,F,F,F,F,F,F,F,F,F,F,F,F,F,F,F,F,F,F,F,F] rfl rfl (any_of HT_.out (by kernel_rfl)) (fun _ _ _ h => h) (Or.inl ⟨by rfl, ?_⟩) ?_ ?_; rotate_left
                 ·intro w'; go_simp; with_reducible rfl
                 rotate_left
                 ·simp only [Act.put, sA, sB, sC, sD, sE]; rfl
                 refine pure_ (i := 1) (N := some 36) (v := ?_) (a' := ?_) #[T,T,F,F,F,F,F,F,F,F,F,F,F,F,F,F,F,F,F,F,F,F,F,F,F,F,F,F,F,F,F,F,F,F] rfl rfl (any_of HT_.out (by kernel_rfl)) (fun _ _ _ h => h) (Or.inl ⟨by rfl, ?_⟩) ?_ ?_; rotate_left
                 ·intro w'; go_simp; with_reducible rfl
                 rotate_left
                 ·simp only [Act.put, sA, sB, sC, sD, sE]; rfl
                 refine pure_ (i := 2) (N := some 37) (v := ?_) (a' := ?_) #[T,T,T,F,F,F,F,F,F,F,F,F,F,F,F,F,F,F,F,F,F,F,F,F,F,F,F,F,F,F,F,F,F,F] rfl rfl (any_of HT_.out (by kernel_rfl)) (fun _ _ _ h => h) (Or.inl ⟨by rfl, ?_⟩) ?_ ?_; rotate_left
                 ·intro w'; go_simp; with_reducible rfl
                 rotate_left
                 ·simp only [Act.put, sA, sB, sC, sD, sE]; rfl
                 refine pure_ (i := 3) (N := some 38) (v := ?_) (a' := ?_) #[T,T,T,T,F,F,F,F,F,F,F,F,F,F,F,F,F,F,F,F,F,F,F,F,F,F,F,F,F,F,F,F,F,F] rfl rfl (any_of HT_.out (by kernel_rfl)) (fun _ _ _ h => h) (Or.inl ⟨by rfl, ?_⟩) ?_ ?_; rotate_left
                 ·intro w'; go_simp; with_reducible rfl
                 rotate_left
                 ·simp only [Act.put, sA, sB, sC, sD, sE]; rfl
                 refine pure_ (i := 4) (N := some 39) (v := ?_) (a' := ?_) #[T,T,T,T,T,F,F,F,F,F,F,F,F,F,F,F,F,F,F,F,F,F,F,F,F,F,F,F,F,F,F,F,F,F] rfl rfl (any_of HT_.out (by kernel_rfl)) (fun _ _ _ h => h) (Or.inl ⟨by rfl, ?_⟩) ?_ ?_; rotate_left
                 ·intro w'; go_simp; with_reducible rfl
                 rotate_left
                 ·simp only [Act.put, sA, sB, sC, sD, sE]; rfl
                 refine pure_ (i := 5) (N := some 40) (v := ?_) (a' := ?_) #[T,T,T,T,T,T,F,F,F,F,F,F,F,F,F,F,F,F,F,F,F,F,F,F,F,F,F,F,F,F,F,F,F,F] rfl rfl (any_of HT_.out (by kernel_rfl)) (fun _ _ _ h => h) (Or.inl ⟨by rfl, ?_⟩) ?_ ?_; rotate_left
                 ·intro w'; go_simp; with_reducible rfl
                 rotate_left
                 ·simp only [Act.put, sA, sB, sC, sD, sE]; rfl
                 refine take_ (i := 6) (N := some 41) (v := ?_) (a' := ?_) #[T,T,T,T,T,T,T,F,F,F,F,F,F,F,F,F,F,F,F,F,F,F,F,F,F,F,F,F,F,F,F,F,F,F] rfl rfl (take_ofW HT_.out HW_.out (by kernel_rfl)) (fun _ _ _ h => h) (Or.inl ⟨by rfl, ?_⟩) hHeld ?_ ?_; rotate_left
                 ·rintro w' ⟨s0, s1, s2, s3, s4⟩; go_simp; with_reducible rfl
                 rotate_left
                 ·simp only [Act.put, sA, sB, sC, sD, sE]; rfl
                 refine pure_ (i := 7) (N := some 42) (v := ?_) (a' := ?_) #[T,T,T,T,T,T,T,T,F,F,F,F,F,F,F,F,F,F,F,F,F,F,F,F,F,F,F,F,F,F,F,F,F,F] rfl rfl (any_of HT_.out (by kernel_rfl)) (fun _ _ _ h => h) (Or.inl ⟨by rfl, ?_⟩) ?_ ?_; rotate_left
                 ·intro w'; go_simp; with_reducible rfl
                 rotate_left
                 ·simp only [Act.put, sA, sB, sC, sD, sE]; rfl
                 refine pure_ (i := 8) (N := some 43) (v := ?_) (a' := ?_) #[T,T,T,T,T,T,T,T,T,F,F,F,F,F,F,F,F,F,F,F,F,F,F,F,F,F,F,F,F,F,F,F,F,F] rfl rfl (any_of HT_.out (by kernel_rfl)) (fun _ _ _ h => h) (Or.inl ⟨by rfl, ?_⟩) ?_ ?_; rotate_left
                 ·intro w'; go_simp; with_reducible rfl
                 rotate_left
                 ·simp only [Act.put, sA, sB, sC, sD, sE]; rfl
                 refine pure_ (i := 9) (N := some 44) (v := ?_) (a' := ?_) #[T,T,T,T,T,T,T,T,T,T,F,F,F,F,F,F,F,F,F,F,F,F,F,F,F,F,F,F,F,F,F,F,F,F] rfl rfl (any_of HT_.out (by kernel_rfl)) (fun _ _ _ h => h) (Or.inl ⟨by rfl, ?_⟩) ?_ ?_; rotate_left
                 ·intro w'; go_simp; with_reducible rfl
                 rotate_left
                 ·simp only [Act.put, sA, sB, sC, sD, sE]; rfl
                 refine pure_ (i := 10) (N := some 45) (v := ?_) (a' := ?_) #[T,T,T,T,T,T,T,T,T,T,T,F,F,F,F,F,F,F,F,F,F,F,F,F,F,F,F,F,F,F,F,F,F,F] rfl rfl (any_of HT_.out (by kernel_rfl)) (fun _ _ _ h => h) (Or.inl ⟨by rfl, ?_⟩) ?_ ?_; rotate_left
                 ·intro w'; go_simp; with_reducible rfl
                 rotate_left
                 ·simp only [Act.put, sA, sB, sC, sD, sE]; rfl
                 refine pure_ (i := 11) (N := some 46) (v := ?_) (a' := ?_) #[T,T,T,T,T,T,T,T,T,T,T,T,F,F,F,F,F,F,F,F,F,F,F,F,F,F,F,F,F,F,F,F,F,F] rfl rfl (any_of HT_.out (by kernel_rfl)) (fun _ _ _ h => h) (Or.inl ⟨by rfl, ?_⟩) ?_ ?_; rotate_left
                 ·intro w'; go_simp; with_reducible rfl
                 rotate_left
                 ·simp only [Act.put, sA, sB, sC, sD, sE]; rfl
                 refine pure_ (i := 13) (N := some 48) (v := ?_) (a' := ?_) #[T,T,T,T,T,T,T,T,T,T,T,T,F,T,F,F,F,F,F,F,F,F,F,F,F,F,F,F,F,F,F,F,F,F] rfl rfl (any_of HT_.out (by kernel_rfl)) (fun _ _ _ h => h) (Or.inl ⟨by rfl, ?_⟩) ?_ ?_; rotate_left
                 ·intro w'; go_simp; with_reducible rfl
                 rotate_left
                 ·simp only [Act.put, sA, sB, sC, sD, sE]; rfl
                 refine pure_ (i := 14) (N := some 49) (v := ?_) (a' := ?_) #[T,T,T,T,T,T,T,T,T,T,T,T,F,T,T,F,F,F,F,F,F,F,F,F,F,F,F,F,F,F,F,F,F,F] rfl rfl (any_of HT_.out (by kernel_rfl)) (fun _ _ _ h => h) (Or.inl ⟨by rfl, ?_⟩) ?_ ?_; rotate_left
                 ·intro w'; go_simp; with_reducible rfl
                 rotate_left
                 ·simp only [Act.put, sA, sB, sC, sD, sE]; rfl
                 refine take_ (i := 12) (N := some 47) (v := ?_) (a' := ?_) #[T,T,T,T,T,T,T,T,T,T,T,T,T,T,T,F,F,F,F,F,F,F,F,F,F,F,F,F,F,F,F,F,F,F] rfl rfl (take_ofW HT_.out HW_.out (by kernel_rfl)) (fun _ _ _ h => h) (Or.inl ⟨by rfl, ?_⟩) hHeld ?_ ?_; rotate_left
                 ·rintro w' ⟨s0, s1, s2, s3, s4⟩; go_simp; with_reducible rfl
                 rotate_left
                 ·simp only [Act.put, sA, sB, sC, sD, sE]; rfl
                 refine take_ (i := 15) (N := some 50) (v := ?_) (a' := ?_) #[T,T,T,T,T,T,T,T,T,T,T,T,T,T,T,T,F,F,F,F,F,F,F,F,F,F,F,F,F,F,F,F,F,F] rfl rfl (take_ofW HT_.out HW_.out (by kernel_rfl)) (fun _ _ _ h => h) (Or.inl ⟨by rfl, ?_⟩) hHeld ?_ ?_; rotate_left
                 ·rintro w' ⟨s0, s1, s2, s3, s4⟩; go_simp; with_reducible rfl
                 rotate_left
                 ·simp only [Act.put, sA, sB, sC, sD, sE]; rfl
                 refine pure_ (i := 16) (N := some 51) (v := ?_) (a' := ?_) #[T,T,T,T,T,T,T,T,T,T,T,T,T,T,T,T,T,F,F,F,F,F,F,F,F,F,F,F,F,F,F,F,F,F] rfl rfl (any_of HT_.out (by kernel_rfl)) (fun _ _ _ h => h) (Or.inl ⟨by rfl, ?_⟩) ?_ ?_; rotate_left
                 ·intro w'; go_simp; with_reducible rfl
                 rotate_left
                 ·simp only [Act.put, sA, sB, sC, sD, sE]; rfl
                 refine pure_ (i := 17) (N := some 52) (v := ?_) (a' := ?_) #[T,T,T,T,T,T,T,T,T,T,T,T,T,T,T,T,T,T,F,F,F,F,F,F,F,F,F,F,F,F,F,F,F,F] rfl rfl (any_of HT_.out (by kernel_rfl)) (fun _ _ _ h => h) (Or.inl ⟨by rfl, ?_⟩) ?_ ?_; rotate_left
                 ·intro w'; go_simp; with_reducible rfl
                 rotate_left
                 ·simp only [Act.put, sA, sB, sC, sD, sE]; rfl
                 refine pure_ (i := 18) (N := some 53) (v := ?_) (a' := ?_) #[T,T,T,T,T,T,T,T,T,T,T,T,T,T,T,T,T,T,T,F,F,F,F,F,F,F,F,F,F,F,F,F,F,F] rfl rfl (any_of HT_.out (by kernel_rfl)) (fun _ _ _ h => h) (Or.inl ⟨by rfl, ?_⟩) ?_ ?_; rotate_left
                 ·intro w'; go_simp; with_reducible rfl
                 rotate_left
                 ·simp only [Act.put, sA, sB, sC, sD, sE]; rfl
                 refine pure_ (i := 19) (N := some 54) (v := ?_) (a' := ?_) #[T,T,T,T,T,T,T,T,T,T,T,T,T,T,T,T,T,T,T,T,F,F,F,F,F,F,F,F,F,F,F,F,F,F] rfl rfl (any_of HT_.out (by kernel_rfl)) (fun _ _ _ h => h) (Or.inl ⟨by rfl, ?_⟩) ?_ ?_; rotate_left
                 ·intro w'; go_simp; with_reducible rfl
                 rotate_left
                 ·simp only [Act.put, sA, sB, sC, sD, sE]; rfl
                 refine pure_ (i := 20) (N := some 55) (v := ?_) (a' := ?_) #[T,T,T,T,T,T,T,T,T,T,T,T,T,T,T,T,T,T,T,T,T,F,F,F,F,F,F,F,F,F,F,F,F,F] rfl rfl (any_of HT_.out (by kernel_rfl)) (fun _ _ _ h => h) (Or.inl ⟨by rfl, ?_⟩) ?_ ?_; rotate_left
                 ·intro w'; go_simp; with_reducible rfl
                 rotate_left
                 ·simp only [Act.put, sA, sB, sC, sD, sE]; rfl
                 refine pure_ (i := 22) (N := some 57) (v := ?_) (a' := ?_) #[T,T,T,T,T,T,T,T,T,T,T,T,T,T,T,T,T,T,T,T,T,F,T,F,F,F,F,F,F,F,F,F,F,F] rfl rfl (any_of HT_.out (by kernel_rfl)) (fun _ _ _ h => h) (Or.inl ⟨by rfl, ?_⟩) ?_ ?_; rotate_left
                 ·intro w'; go_simp; with_reducible rfl
                 rotate_left
                 ·simp only [Act.put, sA, sB, sC, sD, sE]; rfl
                 refine pure_ (i := 23) (N := some 58) (v := ?_) (a' := ?_) #[T,T,T,T,T,T,T,T,T,T,T,T,T,T,T,T,T,T,T,T,T,F,T,T,F,F,F,F,F,F,F,F,F,F] rfl rfl (any_of HT_.out (by kernel_rfl)) (fun _ _ _ h => h) (Or.inl ⟨by rfl, ?_⟩) ?_ ?_; rotate_left
                 ·intro w'; go_simp; with_reducible rfl
                 rotate_left
                 ·simp only [Act.put, sA, sB, sC, sD, sE]; rfl
                 refine take_ (i := 21) (N := some 56) (v := ?_) (a' := ?_) #[T,T,T,T,T,T,T,T,T,T,T,T,T,T,T,T,T,T,T,T,T,T,T,T,F,F,F,F,F,F,F,F,F,F] rfl rfl (take_ofW HT_.out HW_.out (by kernel_rfl)) (fun _ _ _ h => h) (Or.inl ⟨by rfl, ?_⟩) hHeld ?_ ?_; rotate_left
                 ·rintro w' ⟨s0, s1, s2, s3, s4⟩; go_simp; with_reducible rfl
                 rotate_left
                 ·simp only [Act.put, sA, sB, sC, sD, sE]; rfl
                 refine take_ (i := 24) (N := some 59) (v := ?_) (a' := ?_) #[T,T,T,T,T,T,T,T,T,T,T,T,T,T,T,T,T,T,T,T,T,T,T,T,T,F,F,F,F,F,F,F,F,F] rfl rfl (take_ofW HT_.out HW_.out (by kernel_rfl)) (fun _ _ _ h => h) (Or.inl ⟨by rfl, ?_⟩) hHeld ?_ ?_; rotate_left
                 ·rintro w' ⟨s0, s1, s2, s3, s4⟩; go_simp; with_reducible rfl
                 rotate_left
                 ·simp only [Act.put, sA, sB, sC, sD, sE]; rfl
                 refine pure_ (i := 25) (N := some 60) (v := ?_) (a' := ?_) #[T,T,T,T,T,T,T,T,T,T,T,T,T,T,T,T,T,T,T,T,T,T,T,T,T,T,F,F,F,F,F,F,F,F] rfl rfl (any_of HT_.out (by kernel_rfl)) (fun _ _ _ h => h) (Or.inl ⟨by rfl, ?_⟩) ?_ ?_; rotate_left
                 ·intro w'; go_simp; with_reducible rfl
                 rotate_left
                 ·simp only [Act.put, sA, sB, sC, sD, sE]; rfl
                 refine pure_ (i := 26) (N := some 61) (v := ?_) (a' := ?_) #[T,T,T,T,T,T,T,T,T,T,T,T,T,T,T,T,T,T,T,T,T,T,T,T,T,T,T,F,F,F,F,F,F,F] rfl rfl (any_of HT_.out (by kernel_rfl)) (fun _ _ _ h => h) (Or.inl ⟨by rfl, ?_⟩) ?_ ?_; rotate_left
                 ·intro w'; go_simp; with_reducible rfl
                 rotate_left
                 ·simp only [Act.put, sA, sB, sC, sD, sE]; rfl
                 refine pure_ (i := 27) (N := some 62) (v := ?_) (a' := ?_) #[T,T,T,T,T,T,T,T,T,T,T,T,T,T,T,T,T,T,T,T,T,T,T,T,T,T,T,T,F,F,F,F,F,F] rfl rfl (any_of HT_.out (by kernel_rfl)) (fun _ _ _ h => h) (Or.inl ⟨by rfl, ?_⟩) ?_ ?_; rotate_left
                 ·intro w'; go_simp; with_reducible rfl
                 rotate_left
                 ·simp only [Act.put, sA, sB, sC, sD, sE]; rfl
                 refine pure_ (i := 28) (N := some 63) (v := undef) (a' := ?_) #[T,T,T,T,T,T,T,T,T,T,T,T,T,T,T,T,T,T,T,T,T,T,T,T,T,T,T,T,T,F,F,F,F,F] rfl rfl (any_of HT_.out (by kernel_rfl)) (fun _ _ _ h => h) (Or.inr ⟨by rfl, rfl⟩) ?_ ?_; rotate_left
                 ·simp only [Act.put, sA, sB, sC, sD, sE]; rfl
                 refine pure_ (i := 29) (N := some 64) (v := undef) (a' := ?_) #[T,T,T,T,T,T,T,T,T,T,T,T,T,T,T,T,T,T,T,T,T,T,T,T,T,T,T,T,T,T,F,F,F,F] rfl rfl (any_of HT_.out (by kernel_rfl)) (fun _ _ _ h => h) (Or.inr ⟨by rfl, rfl⟩) ?_ ?_; rotate_left
                 ·simp only [Act.put, sA, sB, sC, sD, sE]; rfl
                 refine pure_ (i := 30) (N := some 65) (v := undef) (a' := ?_) #[T,T,T,T,T,T,T,T,T,T,T,T,T,T,T,T,T,T,T,T,T,T,T,T,T,T,T,T,T,T,T,F,F,F] rfl rfl (any_of HT_.out (by kernel_rfl)) (fun _ _ _ h => h) (Or.inr ⟨by rfl, rfl⟩) ?_ ?_; rotate_left
                 ·simp only [Act.put, sA, sB, sC, sD, sE]; rfl
                 refine pure_ (i := 31) (N := some 66) (v := undef) (a' := ?_) #[T,T,T,T,T,T,T,T,T,T,T,T,T,T,T,T,T,T,T,T,T,T,T,T,T,T,T,T,T,T,T,T,F,F] rfl rfl (any_of HT_.out (by kernel_rfl)) (fun _ _ _ h => h) (Or.inr ⟨by rfl, rfl⟩) ?_ ?_; rotate_left
                 ·simp only [Act.put, sA, sB, sC, sD, sE]; rfl
                 refine pure_ (i := 32) (N := some 67) (v := undef) (a' := ?_) #[T,T,T,T,T,T,T,T,T,T,T,T,T,T,T,T,T,T,T,T,T,T,T,T,T,T,T,T,T,T,T,T,T,F] rfl rfl (any_of HT_.out (by kernel_rfl)) (fun _ _ _ h => h) (Or.inr ⟨by rfl, rfl⟩) ?_ ?_; rotate_left
                 ·simp only [Act.put, sA, sB, sC, sD, sE]; rfl
                 refine pure_ (i := 33) (N := some 68) (v := ?_) (a' := ?_) #[T,T,T,T,T,T,T,T,T,T,T,T,T,T,T,T,T,T,T,T,T,T,T,T,T,T,T,T,T,T,T,T,T,T] rfl rfl (any_of HT_.out (by kernel_rfl)) (fun _ _ _ h => h) (Or.inl ⟨by rfl, ?_⟩) ?_ ?_; rotate_left
                 ·intro w'; go_simp; with_reducible rfl
                 rotate_left
                 ·simp only [Act.put, sA, sB, sC, sD, sE]; rfl
                 refine done_ (done_of HT_.out (by kernel_rfl)) ?_
                 try go_wp2
                 go_meet
                 case rel => exact ⟨_, (true), (by first | rfl | (simp; done) | (simp [*]; done)), H', ⟨by have := HJ2.out; have := HK2.out; first | omega | exact Nat.le_refl _⟩, ⟨by (with_reducible repeat (first | apply Cts.alloc | apply Cts.drewN | apply Cts.drew)); exact HM.out⟩, ⟨by repeat (first | (with_reducible first | exact HB.out | apply bA | apply bD | apply bE) | exact HB.out)⟩⟩
                ·rw [if_neg c21] at H; have c21b0 : decide ((rd (rd_L5 l1 x31_2) 2) ≤ (rd (rd_L5 l1 x31_2) 1)) = false := decide_eq_false c21; clear c21; have H' := Ak H; clear H
                 try go_wp2
                 have n0_ := Ak (below_drew1 HB.out); have n1_ := Ak (Cts.drew HM.out); clear HB HM; have HB := n0_; have HM := n1_; clear n0_ n1_; have p103 : 0 ≤ (0 : Int) := (by omega); have q103 : 0 < ((rd_L5 l1 x31_2).length : Int) := of_decide_eq_true (by first | (with_reducible assumption) | assumption); obtain ⟨ad103, e103, hx103_0⟩ := Kd.at_int HR102_0.out 0 p103 q103; have hw103_0 := hx103_0; (try rw [show ((0 : Int)).toNat = 0 from rfl] at hw103_0); (try rw [show 0 * 1 = 0 from rfl] at hw103_0); (try rw [Addr.add_zero'] at hw103_0); cases e103; have qi103 : (0 < (rd_L5 l1 x31_2).length) = True := eq_true (by omega); (try rw [show ((0 : Int)).toNat = 0 from rfl] at hx103_0); (try rw [Addr.add_zero'] at hx103_0); replace hx103_0 := cB HB.out hx103_0; replace p103 := eq_true p103; replace q103 := eq_true q103; have p104 : 0 ≤ (0 : Int) := (by omega); have q104 : 0 < ((rd_L5 l1 x31_2).length : Int) := of_decide_eq_true (by first | (with_reducible assumption) | assumption); obtain ⟨ad104, e104, hx104_0⟩ := Kd.at_int HR102_0.out 0 p104 q104; have hw104_0 := hx104_0; (try rw [show ((0 : Int)).toNat = 0 from rfl] at hw104_0); (try rw [show 0 * 1 = 0 from rfl] at hw104_0); (try rw [Addr.add_zero'] at hw104_0); obtain rfl : ad103 = ad104 := (by injection e104); have qi104 : (0 < (rd_L5 l1 x31_2).length) = True := eq_true (by omega); (try rw [show ((0 : Int)).toNat = 0 from rfl] at hx104_0); (try rw [Addr.add_zero'] at hx104_0); replace hx104_0 := cB HB.out hx104_0; replace p104 := eq_true p104; replace q104 := eq_true q104; have p105 : 0 ≤ (1 : Int) := (by omega); have q105 : 1 < ((rd_L5 l1 x31_2).length : Int) := of_decide_eq_true (by first | (with_reducible assumption) | assumption); obtain ⟨ad105, e105, hx105_0⟩ := Kd.at_int HR102_0.out 1 p105 q105; have hw105_0 := hx105_0; (try rw [show ((1 : Int)).toNat = 1 from rfl] at hw105_0); (try rw [show 1 * 1 = 1 from rfl] at hw105_0); (try simp only [Nat.reduceMul, Nat.reduceEqDiff, Go.Addr.add, ↓reduceIte] at hw105_0); obtain rfl : ad103 = ad105 := (by injection e105); (try simp only [show (1 : Int).toNat = 1 from rfl, Nat.reduceMul, Nat.reduceEqDiff, Go.Addr.add, ↓reduceIte] at hx105_0); have qi105 : (1 < (rd_L5 l1 x31_2).length) = True := eq_true (by omega); (try rw [show ((1 : Int)).toNat = 1 from rfl] at hx105_0); replace hx105_0 := cB HB.out hx105_0; replace p105 := eq_true p105; replace q105 := eq_true q105; have p106 : 0 ≤ (1 : Int) := (by omega); have q106 : 1 < ((rd_L5 l1 x31_2).length : Int) := of_decide_eq_true (by first | (with_reducible assumption) | assumption); obtain ⟨ad106, e106, hx106_0⟩ := Kd.at_int HR102_0.out 1 p106 q106; have hw106_0 := hx106_0; (try rw [show ((1 : Int)).toNat = 1 from rfl] at hw106_0); (try rw [show 1 * 1 = 1 from rfl] at hw106_0); (try simp only [Nat.reduceMul, Nat.reduceEqDiff, Go.Addr.add, ↓reduceIte] at hw106_0); obtain rfl : ad103 = ad106 := (by injection e106); (try simp only [show (1 : Int).toNat = 1 from rfl, Nat.reduceMul, Nat.reduceEqDiff, Go.Addr.add, ↓reduceIte] at hx106_0); have qi106 : (1 < (rd_L5 l1 x31_2).length) = True := eq_true (by omega); (try rw [show ((1 : Int)).toNat = 1 from rfl] at hx106_0); replace hx106_0 := cB HB.out hx106_0; replace p106 := eq_true p106; replace q106 := eq_true q106; have p107 : 0 ≤ (2 : Int) := (by omega); have q107 : 2 < ((rd_L5 l1 x31_2).length : Int) := of_decide_eq_true (by first | (with_reducible assumption) | assumption); obtain ⟨ad107, e107, hx107_0⟩ := Kd.at_int HR102_0.out 2 p107 q107; have hw107_0 := hx107_0; (try rw [show ((2 : Int)).toNat = 2 from rfl] at hw107_0); (try rw [show 2 * 1 = 2 from rfl] at hw107_0); (try simp only [Nat.reduceMul, Nat.reduceEqDiff, Go.Addr.add, ↓reduceIte] at hw107_0); obtain rfl : ad103 = ad107 := (by injection e107); (try simp only [show (2 : Int).toNat = 2 from rfl, Nat.reduceMul, Nat.reduceEqDiff, Go.Addr.add, ↓reduceIte] at hx107_0); have qi107 : (2 < (rd_L5 l1 x31_2).length) = True := eq_true (by omega); (try rw [show ((2 : Int)).toNat = 2 from rfl] at hx107_0); replace hx107_0 := cB HB.out hx107_0; replace p107 := eq_true p107; replace q107 := eq_true q107; have p108 : 0 ≤ (2 : Int) := (by omega); have q108 : 2 < ((rd_L5 l1 x31_2).length : Int) := of_decide_eq_true (by first | (with_reducible assumption) | assumption); obtain ⟨ad108, e108, hx108_0⟩ := Kd.at_int HR102_0.out 2 p108 q108; have hw108_0 := hx108_0; (try rw [show ((2 : Int)).toNat = 2 from rfl] at hw108_0); (try rw [show 2 * 1 = 2 from rfl] at hw108_0); (try simp only [Nat.reduceMul, Nat.reduceEqDiff, Go.Addr.add, ↓reduceIte] at hw108_0); obtain rfl : ad103 = ad108 := (by injection e108); (try simp only [show (2 : Int).toNat = 2 from rfl, Nat.reduceMul, Nat.reduceEqDiff, Go.Addr.add, ↓reduceIte] at hx108_0); have qi108 : (2 < (rd_L5 l1 x31_2).length) = True := eq_true (by omega); (try rw [show ((2 : Int)).toNat = 2 from rfl] at hx108_0); replace hx108_0 := cB HB.out hx108_0; replace p108 := eq_true p108; replace q108 := eq_true q108; refine start_ (n := 34) (S := fun w' => w'.cell? ad103 = some (.int .i64 (rd (rd_L5 l1 x31_2) 0)) ∧ w'.cell? ad103 = some (.int .i64 (rd (rd_L5 l1 x31_2) 0)) ∧ w'.cell? ⟨ad103.block, ad103.off + 1, none⟩ = some (.int .i64 (rd (rd_L5 l1 x31_2) 1)) ∧ w'.cell? ⟨ad103.block, ad103.off + 1, none⟩ = some (.int .i64 (rd (rd_L5 l1 x31_2) 1)) ∧ w'.cell? ⟨ad103.block, ad103.off + 2, none⟩ = some (.int .i64 (rd (rd_L5 l1 x31_2) 2)) ∧ w'.cell? ⟨ad103.block, ad103.off + 2, none⟩ = some (.int .i64 (rd (rd_L5 l1 x31_2) 2))) (ds := []) #[F,F,F,F,F,F,F,F,F,F,F,F,F,F,F,F,F,F,F,F,F,F,F,F,F,F,F,F,F,F,F,F,F,F] (by kernel_rfl) rfl rfl ⟨((HB.out.cell (World.block_lt_of_cell? w _ hw103_0)).trans hw103_0), ((HB.out.cell (World.block_lt_of_cell? w _ hw104_0)).trans hw104_0), ((HB.out.cell (World.block_lt_of_cell? w _ hw105_0)).trans hw105_0), ((HB.out.cell (World.block_lt_of_cell? w _ hw106_0)).trans hw106_0), ((HB.out.cell (World.block_lt_of_cell? w _ hw107_0)).trans hw107_0), ((HB.out.cell (World.block_lt_of_cell? w _ hw108_0)).trans hw108_0)⟩ (fun hHeld => ?_); refine with_tabW impl_IsTriangulation.tab8 impl_IsTriangulation.bits8 (fun HT_ HW_ => ?_); generalize wr.drew = w23 at HB HM hx103_0 hx104_0 hx105_0 hx106_0 hx107_0 hx108_0 hHeld ⊢; refine pure_ (i := 0) (N := some 35) (v := ?_) (a' := ?_) #[T,F,F,F,F,F,F,F,F,F,F,F,F,F,F,F,F,F,F,F,F,F,F,F,F,F,F,F,F,F,F,F,F,F] rfl rfl (any_of HT_.out (by kernel_rfl)) (fun _ _ _ h => h) (Or.inl ⟨by rfl, ?_⟩) ?_ ?_; rotate_left
                 ·intro w'; go_simp; with_reducible rfl
                 rotate_left
                 ·simp only [Act.put, sA, sB, sC, sD, sE]; rfl
                 refine pure_ (i := 1) (N := some 36) (v := ?_) (a' := ?_) #[T,T,F,F,F,F,F,F,F,F,F,F,F,F,F,F,F,F,F,F,F,F,F,F,F,F,F,F,F,F,F,F,F,F] rfl rfl (any_of HT_.out (by kernel_rfl)) (fun _ _ _ h => h) (Or.inl ⟨by rfl, ?_⟩) ?_ ?_; rotate_left
                 ·intro w'; go_simp; with_reducible rfl
                 rotate_left
                 ·simp only [Act.put, sA, sB, sC, sD, sE]; rfl
                 refine pure_ (i := 2) (N := some 37) (v := ?_) (a' := ?_) #[T,T,T,F,F,F,F,F,F,F,F,F,F,F,F,F,F,F,F,F,F,F,F,F,F,F,F,F,F,F,F,F,F,F] rfl rfl (any_of HT_.out (by kernel_rfl)) (fun _ _ _ h => h) (Or.inl ⟨by rfl, ?_⟩) ?_ ?_; rotate_left
                 ·intro w'; go_simp; with_reducible rfl
                 rotate_left
                 ·simp only [Act.put, sA, sB, sC, sD, sE]; rfl
                 refine pure_ (i := 3) (N := some 38) (v := ?_) (a' := ?_) #[T,T,T,T,F,F,F,F,F,F,F,F,F,F,F,F,F,F,F,F,F,F,F,F,F,F,F,F,F,F,F,F,F,F] rfl rfl (any_of HT_.out (by kernel_rfl)) (fun _ _ _ h => h) (Or.inl ⟨by rfl, ?_⟩) ?_ ?_; rotate_left
                 ·intro w'; go_simp; with_reducible rfl
                 rotate_left
                 ·simp only [Act.put, sA, sB, sC, sD, sE]; rfl
                 refine pure_ (i := 4) (N := some 39) (v := ?_) (a' := ?_) #[T,T,T,T,T,F,F,F,F,F,F,F,F,F,F,F,F,F,F,F,F,F,F,F,F,F,F,F,F,F,F,F,F,F] rfl rfl (any_of HT_.out (by kernel_rfl)) (fun _ _ _ h => h) (Or.inl ⟨by rfl, ?_⟩) ?_ ?_; rotate_left
                 ·intro w'; go_simp; with_reducible rfl
                 rotate_left
                 ·simp only [Act.put, sA, sB, sC, sD, sE]; rfl
                 refine pure_ (i := 5) (N := some 40) (v := ?_) (a' := ?_) #[T,T,T,T,T,T,F,F,F,F,F,F,F,F,F,F,F,F,F,F,F,F,F,F,F,F,F,F,F,F,F,F,F,F] rfl rfl (any_of HT_.out (by kernel_rfl)) (fun _ _ _ h => h) (Or.inl ⟨by rfl, ?_⟩) ?_ ?_; rotate_left
                 ·intro w'; go_simp; with_reducible rfl
                 rotate_left
                 ·simp only [Act.put, sA, sB, sC, sD, sE]; rfl
                 refine take_ (i := 6) (N := some 41) (v := ?_) (a' := ?_) #[T,T,T,T,T,T,T,F,F,F,F,F,F,F,F,F,F,F,F,F,F,F,F,F,F,F,F,F,F,F,F,F,F,F] rfl rfl (take_ofW HT_.out HW_.out (by kernel_rfl)) (fun _ _ _ h => h) (Or.inl ⟨by rfl, ?_⟩) hHeld ?_ ?_; rotate_left
                 ·rintro w' ⟨s0, s1, s2, s3, s4, s5⟩; go_simp; with_reducible rfl
                 rotate_left
                 ·simp only [Act.put, sA, sB, sC, sD, sE]; rfl
                 refine pure_ (i := 7) (N := some 42) (v := ?_) (a' := ?_) #[T,T,T,T,T,T,T,T,F,F,F,F,F,F,F,F,F,F,F,F,F,F,F,F,F,F,F,F,F,F,F,F,F,F] rfl rfl (any_of HT_.out (by kernel_rfl)) (fun _ _ _ h => h) (Or.inl ⟨by rfl, ?_⟩) ?_ ?_; rotate_left
                 ·intro w'; go_simp; with_reducible rfl
                 rotate_left
                 ·simp only [Act.put, sA, sB, sC, sD, sE]; rfl
                 refine pure_ (i := 8) (N := some 43) (v := ?_) (a' := ?_) #[T,T,T,T,T,T,T,T,T,F,F,F,F,F,F,F,F,F,F,F,F,F,F,F,F,F,F,F,F,F,F,F,F,F] rfl rfl (any_of HT_.out (by kernel_rfl)) (fun _ _ _ h => h) (Or.inl ⟨by rfl, ?_⟩) ?_ ?_; rotate_left
                 ·intro w'; go_simp; with_reducible rfl
                 rotate_left
                 ·simp only [Act.put, sA, sB, sC, sD, sE]; rfl
                 refine pure_ (i := 9) (N := some 44) (v := ?_) (a' := ?_) #[T,T,T,T,T,T,T,T,T,T,F,F,F,F,F,F,F,F,F,F,F,F,F,F,F,F,F,F,F,F,F,F,F,F] rfl rfl (any_of HT_.out (by kernel_rfl)) (fun _ _ _ h => h) (Or.inl ⟨by rfl, ?_⟩) ?_ ?_; rotate_left
                 ·intro w'; go_simp; with_reducible rfl
                 rotate_left
                 ·simp only [Act.put, sA, sB, sC, sD, sE]; rfl
                 refine pure_ (i := 10) (N := some 45) (v := ?_) (a' := ?_) #[T,T,T,T,T,T,T,T,T,T,T,F,F,F,F,F,F,F,F,F,F,F,F,F,F,F,F,F,F,F,F,F,F,F] rfl rfl (any_of HT_.out (by kernel_rfl)) (fun _ _ _ h => h) (Or.inl ⟨by rfl, ?_⟩) ?_ ?_; rotate_left
                 ·intro w'; go_simp; with_reducible rfl
                 rotate_left
                 ·simp only [Act.put, sA, sB, sC, sD, sE]; rfl
                 refine pure_ (i := 11) (N := some 46) (v := ?_) (a' := ?_) #[T,T,T,T,T,T,T,T,T,T,T,T,F,F,F,F,F,F,F,F,F,F,F,F,F,F,F,F,F,F,F,F,F,F] rfl rfl (any_of HT_.out (by kernel_rfl)) (fun _ _ _ h => h) (Or.inl ⟨by rfl, ?_⟩) ?_ ?_; rotate_left
                 ·intro w'; go_simp; with_reducible rfl
                 rotate_left
                 ·simp only [Act.put, sA, sB, sC, sD, sE]; rfl
                 refine pure_ (i := 13) (N := some 48) (v := ?_) (a' := ?_) #[T,T,T,T,T,T,T,T,T,T,T,T,F,T,F,F,F,F,F,F,F,F,F,F,F,F,F,F,F,F,F,F,F,F] rfl rfl (any_of HT_.out (by kernel_rfl)) (fun _ _ _ h => h) (Or.inl ⟨by rfl, ?_⟩) ?_ ?_; rotate_left
                 ·intro w'; go_simp; with_reducible rfl
                 rotate_left
                 ·simp only [Act.put, sA, sB, sC, sD, sE]; rfl
                 refine pure_ (i := 14) (N := some 49) (v := ?_) (a' := ?_) #[T,T,T,T,T,T,T,T,T,T,T,T,F,T,T,F,F,F,F,F,F,F,F,F,F,F,F,F,F,F,F,F,F,F] rfl rfl (any_of HT_.out (by kernel_rfl)) (fun _ _ _ h => h) (Or.inl ⟨by rfl, ?_⟩) ?_ ?_; rotate_left
                 ·intro w'; go_simp; with_reducible rfl
                 rotate_left
                 ·simp only [Act.put, sA, sB, sC, sD, sE]; rfl
                 refine take_ (i := 12) (N := some 47) (v := ?_) (a' := ?_) #[T,T,T,T,T,T,T,T,T,T,T,T,T,T,T,F,F,F,F,F,F,F,F,F,F,F,F,F,F,F,F,F,F,F] rfl rfl (take_ofW HT_.out HW_.out (by kernel_rfl)) (fun _ _ _ h => h) (Or.inl ⟨by rfl, ?_⟩) hHeld ?_ ?_; rotate_left
                 ·rintro w' ⟨s0, s1, s2, s3, s4, s5⟩; go_simp; with_reducible rfl
                 rotate_left
                 ·simp only [Act.put, sA, sB, sC, sD, sE]; rfl
                 refine take_ (i := 15) (N := some 50) (v := ?_) (a' := ?_) #[T,T,T,T,T,T,T,T,T,T,T,T,T,T,T,T,F,F,F,F,F,F,F,F,F,F,F,F,F,F,F,F,F,F] rfl rfl (take_ofW HT_.out HW_.out (by kernel_rfl)) (fun _ _ _ h => h) (Or.inl ⟨by rfl, ?_⟩) hHeld ?_ ?_; rotate_left
                 ·rintro w' ⟨s0, s1, s2, s3, s4, s5⟩; go_simp; with_reducible rfl
                 rotate_left
                 ·simp only [Act.put, sA, sB, sC, sD, sE]; rfl
                 refine pure_ (i := 16) (N := some 51) (v := ?_) (a' := ?_) #[T,T,T,T,T,T,T,T,T,T,T,T,T,T,T,T,T,F,F,F,F,F,F,F,F,F,F,F,F,F,F,F,F,F] rfl rfl (any_of HT_.out (by kernel_rfl)) (fun _ _ _ h => h) (Or.inl ⟨by rfl, ?_⟩) ?_ ?_; rotate_left
                 ·intro w'; go_simp; with_reducible rfl
                 rotate_left
                 ·simp only [Act.put, sA, sB, sC, sD, sE]; rfl
                 refine pure_ (i := 17) (N := some 52) (v := ?_) (a' := ?_) #[T,T,T,T,T,T,T,T,T,T,T,T,T,T,T,T,T,T,F,F,F,F,F,F,F,F,F,F,F,F,F,F,F,F] rfl rfl (any_of HT_.out (by kernel_rfl)) (fun _ _ _ h => h) (Or.inl ⟨by rfl, ?_⟩) ?_ ?_; rotate_left
                 ·intro w'; go_simp; with_reducible rfl
                 rotate_left
                 ·simp only [Act.put, sA, sB, sC, sD, sE]; rfl
                 refine pure_ (i := 18) (N := some 53) (v := ?_) (a' := ?_) #[T,T,T,T,T,T,T,T,T,T,T,T,T,T,T,T,T,T,T,F,F,F,F,F,F,F,F,F,F,F,F,F,F,F] rfl rfl (any_of HT_.out (by kernel_rfl)) (fun _ _ _ h => h) (Or.inl ⟨by rfl, ?_⟩) ?_ ?_; rotate_left
                 ·intro w'; go_simp; with_reducible rfl
                 rotate_left
                 ·simp only [Act.put, sA, sB, sC, sD, sE]; rfl
                 refine pure_ (i := 19) (N := some 54) (v := ?_) (a' := ?_) #[T,T,T,T,T,T,T,T,T,T,T,T,T,T,T,T,T,T,T,T,F,F,F,F,F,F,F,F,F,F,F,F,F,F] rfl rfl (any_of HT_.out (by kernel_rfl)) (fun _ _ _ h => h) (Or.inl ⟨by rfl, ?_⟩) ?_ ?_; rotate_left
                 ·intro w'; go_simp; with_reducible rfl
                 rotate_left
                 ·simp only [Act.put, sA, sB, sC, sD, sE]; rfl
                 refine pure_ (i := 20) (N := some 55) (v := ?_) (a' := ?_) #[T,T,T,T,T,T,T,T,T,T,T,T,T,T,T,T,T,T,T,T,T,F,F,F,F,F,F,F,F,F,F,F,F,F] rfl rfl (any_of HT_.out (by kernel_rfl)) (fun _ _ _ h => h) (Or.inl ⟨by rfl, ?_⟩) ?_ ?_; rotate_left
                 ·intro w'; go_simp; with_reducible rfl
                 rotate_left
                 ·simp only [Act.put, sA, sB, sC, sD, sE]; rfl
                 refine pure_ (i := 22) (N := some 57) (v := ?_) (a' := ?_) #[T,T,T,T,T,T,T,T,T,T,T,T,T,T,T,T,T,T,T,T,T,F,T,F,F,F,F,F,F,F,F,F,F,F] rfl rfl (any_of HT_.out (by kernel_rfl)) (fun _ _ _ h => h) (Or.inl ⟨by rfl, ?_⟩) ?_ ?_; rotate_left
                 ·intro w'; go_simp; with_reducible rfl
                 rotate_left
                 ·simp only [Act.put, sA, sB, sC, sD, sE]; rfl
                 refine pure_ (i := 23) (N := some 58) (v := ?_) (a' := ?_) #[T,T,T,T,T,T,T,T,T,T,T,T,T,T,T,T,T,T,T,T,T,F,T,T,F,F,F,F,F,F,F,F,F,F] rfl rfl (any_of HT_.out (by kernel_rfl)) (fun _ _ _ h => h) (Or.inl ⟨by rfl, ?_⟩) ?_ ?_; rotate_left
                 ·intro w'; go_simp; with_reducible rfl
                 rotate_left
                 ·simp only [Act.put, sA, sB, sC, sD, sE]; rfl
                 refine take_ (i := 21) (N := some 56) (v := ?_) (a' := ?_) #[T,T,T,T,T,T,T,T,T,T,T,T,T,T,T,T,T,T,T,T,T,T,T,T,F,F,F,F,F,F,F,F,F,F] rfl rfl (take_ofW HT_.out HW_.out (by kernel_rfl)) (fun _ _ _ h => h) (Or.inl ⟨by rfl, ?_⟩) hHeld ?_ ?_; rotate_left
                 ·rintro w' ⟨s0, s1, s2, s3, s4, s5⟩; go_simp; with_reducible rfl
                 rotate_left
                 ·simp only [Act.put, sA, sB, sC, sD, sE]; rfl
                 refine take_ (i := 24) (N := some 59) (v := ?_) (a' := ?_) #[T,T,T,T,T,T,T,T,T,T,T,T,T,T,T,T,T,T,T,T,T,T,T,T,T,F,F,F,F,F,F,F,F,F] rfl rfl (take_ofW HT_.out HW_.out (by kernel_rfl)) (fun _ _ _ h => h) (Or.inl ⟨by rfl, ?_⟩) hHeld ?_ ?_; rotate_left
                 ·rintro w' ⟨s0, s1, s2, s3, s4, s5⟩; go_simp; with_reducible rfl
                 rotate_left
                 ·simp only [Act.put, sA, sB, sC, sD, sE]; rfl
                 refine pure_ (i := 25) (N := some 60) (v := ?_) (a' := ?_) #[T,T,T,T,T,T,T,T,T,T,T,T,T,T,T,T,T,T,T,T,T,T,T,T,T,T,F,F,F,F,F,F,F,F] rfl rfl (any_of HT_.out (by kernel_rfl)) (fun _ _ _ h => h) (Or.inl ⟨by rfl, ?_⟩) ?_ ?_; rotate_left
                 ·intro w'; go_simp; with_reducible rfl
                 rotate_left
                 ·simp only [Act.put, sA, sB, sC, sD, sE]; rfl
                 refine pure_ (i := 26) (N := some 61) (v := ?_) (a' := ?_) #[T,T,T,T,T,T,T,T,T,T,T,T,T,T,T,T,T,T,T,T,T,T,T,T,T,T,T,F,F,F,F,F,F,F] rfl rfl (any_of HT_.out (by kernel_rfl)) (fun _ _ _ h => h) (Or.inl ⟨by rfl, ?_⟩) ?_ ?_; rotate_left
                 ·intro w'; go_simp; with_reducible rfl
                 rotate_left
                 ·simp only [Act.put, sA, sB, sC, sD, sE]; rfl
                 refine pure_ (i := 27) (N := some 62) (v := ?_) (a' := ?_) #[T,T,T,T,T,T,T,T,T,T,T,T,T,T,T,T,T,T,T,T,T,T,T,T,T,T,T,T,F,F,F,F,F,F] rfl rfl (any_of HT_.out (by kernel_rfl)) (fun _ _ _ h => h) (Or.inl ⟨by rfl, ?_⟩) ?_ ?_; rotate_left
                 ·intro w'; go_simp; with_reducible rfl
                 rotate_left
                 ·simp only [Act.put, sA, sB, sC, sD, sE]; rfl
                 refine pure_ (i := 28) (N := some 63) (v := ?_) (a' := ?_) #[T,T,T,T,T,T,T,T,T,T,T,T,T,T,T,T,T,T,T,T,T,T,T,T,T,T,T,T,T,F,F,F,F,F] rfl rfl (any_of HT_.out (by kernel_rfl)) (fun _ _ _ h => h) (Or.inl ⟨by rfl, ?_⟩) ?_ ?_; rotate_left
                 ·intro w'; go_simp; with_reducible rfl
                 rotate_left
                 ·simp only [Act.put, sA, sB, sC, sD, sE]; rfl
                 refine pure_ (i := 29) (N := some 64) (v := ?_) (a' := ?_) #[T,T,T,T,T,T,T,T,T,T,T,T,T,T,T,T,T,T,T,T,T,T,T,T,T,T,T,T,T,T,F,F,F,F] rfl rfl (any_of HT_.out (by kernel_rfl)) (fun _ _ _ h => h) (Or.inl ⟨by rfl, ?_⟩) ?_ ?_; rotate_left
                 ·intro w'; go_simp; with_reducible rfl
                 rotate_left
                 ·simp only [Act.put, sA, sB, sC, sD, sE]; rfl
                 refine pure_ (i := 31) (N := some 66) (v := ?_) (a' := ?_) #[T,T,T,T,T,T,T,T,T,T,T,T,T,T,T,T,T,T,T,T,T,T,T,T,T,T,T,T,T,T,F,T,F,F] rfl rfl (any_of HT_.out (by kernel_rfl)) (fun _ _ _ h => h) (Or.inl ⟨by rfl, ?_⟩) ?_ ?_; rotate_left
                 ·intro w'; go_simp; with_reducible rfl
                 rotate_left
                 ·simp only [Act.put, sA, sB, sC, sD, sE]; rfl
                 refine take_ (i := 30) (N := some 65) (v := ?_) (a' := ?_) #[T,T,T,T,T,T,T,T,T,T,T,T,T,T,T,T,T,T,T,T,T,T,T,T,T,T,T,T,T,T,T,T,F,F] rfl rfl (take_ofW HT_.out HW_.out (by kernel_rfl)) (fun _ _ _ h => h) (Or.inl ⟨by rfl, ?_⟩) hHeld ?_ ?_; rotate_left
                 ·rintro w' ⟨s0, s1, s2, s3, s4, s5⟩; go_simp; with_reducible rfl
                 rotate_left
                 ·simp only [Act.put, sA, sB, sC, sD, sE]; rfl
                 refine pure_ (i := 32) (N := some 67) (v := ?_) (a' := ?_) #[T,T,T,T,T,T,T,T,T,T,T,T,T,T,T,T,T,T,T,T,T,T,T,T,T,T,T,T,T,T,T,T,T,F] rfl rfl (any_of HT_.out (by kernel_rfl)) (fun _ _ _ h => h) (Or.inl ⟨by rfl, ?_⟩) ?_ ?_; rotate_left
                 ·intro w'; go_simp; with_reducible rfl
                 rotate_left
                 ·simp only [Act.put, sA, sB, sC, sD, sE]; rfl
                 refine pure_ (i := 33) (N := some 68) (v := ?_) (a' := ?_) #[T,T,T,T,T,T,T,T,T,T,T,T,T,T,T,T,T,T,T,T,T,T,T,T,T,T,T,T,T,T,T,T,T,T] rfl rfl (any_of HT_.out (by kernel_rfl)) (fun _ _ _ h => h) (Or.inl ⟨by rfl, ?_⟩) ?_ ?_; rotate_left
                 ·intro w'; go_simp; with_reducible rfl
                 rotate_left
                 ·simp only [Act.put, sA, sB, sC, sD, sE]; rfl
                 refine done_ (done_of HT_.out (by kernel_rfl)) ?_
                 try go_wp2
                 go_meet
                 case rel => exact ⟨_, (decide ((rd (rd_L5 l1 x31_2) 2) ≥ (l0.length : Int))), (by first | rfl | (simp; done) | (simp [*]; done)), H', ⟨by have := HJ2.out; have := HK2.out; first | omega | exact Nat.le_refl _⟩, ⟨by (with_reducible repeat (first | apply Cts.alloc | apply Cts.drewN | apply Cts.drew)); exact HM.out⟩, ⟨by repeat (first | (with_reducible first | exact HB.out | apply bA | apply bD | apply bE) | exact HB.out)⟩⟩
               ·rw [if_neg c20] at H; exact absurd H (by simp)
             ·rw [if_neg c17] at H; exact absurd H (by simp)
           ·rw [if_neg c14] at H; exact absurd H (by simp)
          ·rw [if_neg c13] at H; have c13b0 : (((rd_L5 l1 x31_2).length : Int) == 3) = false := beq_eq_false_iff_ne.mpr c13; have c13b1 : (((rd_L5 l1 x31_2).length : Int) != 3) = true := bne_iff_ne.mpr c13
           (first | rw [c13b0] | (simp only [i64_w, i32_w]; rw [c13b0]) | skip)
           have H' := Ak H; clear H
           try go_wp2
           have n0_ := Ak (below_drew1 HB.out); have n1_ := Ak (Cts.drew HM.out); clear HB HM; have HB := n0_; have HM := n1_; clear n0_ n1_; refine start_ (n := 34) (S := fun w' => True) (ds := []) #[F,F,F,F,F,F,F,F,F,F,F,F,F,F,F,F,F,F,F,F,F,F,F,F,F,F,F,F,F,F,F,F,F,F] (by kernel_rfl) rfl rfl trivial (fun hHeld => ?_); refine with_tabW impl_IsTriangulation.tab8 impl_IsTriangulation.bits8 (fun HT_ HW_ => ?_); generalize wr.drew = w24 at HB HM hHeld ⊢; refine pure_ (i := 0) (N := some 35) (v := ?_) (a' := ?_) #[T,F,F,F,F,F,F,F,F,F,F,F,F,F,F,F,F,F,F,F,F,F,F,F,F,F,F,F,F,F,F,F,F,F] rfl rfl (any_of HT_.out (by kernel_rfl)) (fun _ _ _ h => h) (Or.inl ⟨by rfl, ?_⟩) ?_ ?_; rotate_left
           ·intro w'; go_simp; with_reducible rfl
           rotate_left
           ·simp only [Act.put, sA, sB, sC, sD, sE]; rfl
           refine pure_ (i := 1) (N := some 36) (v := ?_) (a' := ?_) #[T,T,F,F,F,F,F,F,F,F,F,F,F,F,F,F,F,F,F,F,F,F,F,F,F,F,F,F,F,F,F,F,F,F] rfl rfl (any_of HT_.out (by kernel_rfl)) (fun _ _ _ h => h) (Or.inl ⟨by rfl, ?_⟩) ?_ ?_; rotate_left
           ·intro w'; go_simp; with_reducible rfl
           rotate_left
           ·simp only [Act.put, sA, sB, sC, sD, sE]; rfl
           refine pure_ (i := 2) (N := some 37) (v := ?_) (a' := ?_) #[T,T,T,F,F,F,F,F,F,F,F,F,F,F,F,F,F,F,F,F,F,F,F,F,F,F,F,F,F,F,F,F,F,F] rfl rfl (any_of HT_.out (by kernel_rfl)) (fun _ _ _ h => h) (Or.inl ⟨by rfl, ?_⟩) ?_ ?_; rotate_left
           ·intro w'; go_simp; with_reducible rfl
           rotate_left
           ·simp only [Act.put, sA, sB, sC, sD, sE]; rfl
           refine pure_ (i := 3) (N := some 38) (v := ?_) (a' := ?_) #[T,T,T,T,F,F,F,F,F,F,F,F,F,F,F,F,F,F,F,F,F,F,F,F,F,F,F,F,F,F,F,F,F,F] rfl rfl (any_of HT_.out (by kernel_rfl)) (fun _ _ _ h => h) (Or.inl ⟨by rfl, ?_⟩) ?_ ?_; rotate_left
           ·intro w'; go_simp; with_reducible rfl
           rotate_left
           ·simp only [Act.put, sA, sB, sC, sD, sE]; rfl
           refine pure_ (i := 4) (N := some 39) (v := undef) (a' := ?_) #[T,T,T,T,T,F,F,F,F,F,F,F,F,F,F,F,F,F,F,F,F,F,F,F,F,F,F,F,F,F,F,F,F,F] rfl rfl (any_of HT_.out (by kernel_rfl)) (fun _ _ _ h => h) (Or.inr ⟨by rfl, rfl⟩) ?_ ?_; rotate_left
           ·simp only [Act.put, sA, sB, sC, sD, sE]; rfl
           refine pure_ (i := 5) (N := some 40) (v := undef) (a' := ?_) #[T,T,T,T,T,T,F,F,F,F,F,F,F,F,F,F,F,F,F,F,F,F,F,F,F,F,F,F,F,F,F,F,F,F] rfl rfl (any_of HT_.out (by kernel_rfl)) (fun _ _ _ h => h) (Or.inr ⟨by rfl, rfl⟩) ?_ ?_; rotate_left
           ·simp only [Act.put, sA, sB, sC, sD, sE]; rfl
           refine pure_ (i := 6) (N := some 41) (v := undef) (a' := ?_) #[T,T,T,T,T,T,T,F,F,F,F,F,F,F,F,F,F,F,F,F,F,F,F,F,F,F,F,F,F,F,F,F,F,F] rfl rfl (any_of HT_.out (by kernel_rfl)) (fun _ _ _ h => h) (Or.inr ⟨by rfl, rfl⟩) ?_ ?_; rotate_left
           ·simp only [Act.put, sA, sB, sC, sD, sE]; rfl
           refine pure_ (i := 7) (N := some 42) (v := undef) (a' := ?_) #[T,T,T,T,T,T,T,T,F,F,F,F,F,F,F,F,F,F,F,F,F,F,F,F,F,F,F,F,F,F,F,F,F,F] rfl rfl (any_of HT_.out (by kernel_rfl)) (fun _ _ _ h => h) (Or.inr ⟨by rfl, rfl⟩) ?_ ?_; rotate_left
           ·simp only [Act.put, sA, sB, sC, sD, sE]; rfl
           refine pure_ (i := 8) (N := some 43) (v := ?_) (a' := ?_) #[T,T,T,T,T,T,T,T,T,F,F,F,F,F,F,F,F,F,F,F,F,F,F,F,F,F,F,F,F,F,F,F,F,F] rfl rfl (any_of HT_.out (by kernel_rfl)) (fun _ _ _ h => h) (Or.inl ⟨by rfl, ?_⟩) ?_ ?_; rotate_left
           ·intro w'; go_simp; with_reducible rfl
           rotate_left
           ·simp only [Act.put, sA, sB, sC, sD, sE]; rfl
           refine pure_ (i := 9) (N := some 44) (v := ?_) (a' := ?_) #[T,T,T,T,T,T,T,T,T,T,F,F,F,F,F,F,F,F,F,F,F,F,F,F,F,F,F,F,F,F,F,F,F,F] rfl rfl (any_of HT_.out (by kernel_rfl)) (fun _ _ _ h => h) (Or.inl ⟨by rfl, ?_⟩) ?_ ?_; rotate_left
           ·intro w'; go_simp; with_reducible rfl
           rotate_left
           ·simp only [Act.put, sA, sB, sC, sD, sE]; rfl
           refine pure_ (i := 10) (N := some 45) (v := undef) (a' := ?_) #[T,T,T,T,T,T,T,T,T,T,T,F,F,F,F,F,F,F,F,F,F,F,F,F,F,F,F,F,F,F,F,F,F,F] rfl rfl (any_of HT_.out (by kernel_rfl)) (fun _ _ _ h => h) (Or.inr ⟨by rfl, rfl⟩) ?_ ?_; rotate_left
           ·simp only [Act.put, sA, sB, sC, sD, sE]; rfl
           refine pure_ (i := 11) (N := some 46) (v := undef) (a' := ?_) #[T,T,T,T,T,T,T,T,T,T,T,T,F,F,F,F,F,F,F,F,F,F,F,F,F,F,F,F,F,F,F,F,F,F] rfl rfl (any_of HT_.out (by kernel_rfl)) (fun _ _ _ h => h) (Or.inr ⟨by rfl, rfl⟩) ?_ ?_; rotate_left
           ·simp only [Act.put, sA, sB, sC, sD, sE]; rfl
           refine pure_ (i := 12) (N := some 47) (v := undef) (a' := ?_) #[T,T,T,T,T,T,T,T,T,T,T,T,T,F,F,F,F,F,F,F,F,F,F,F,F,F,F,F,F,F,F,F,F,F] rfl rfl (any_of HT_.out (by kernel_rfl)) (fun _ _ _ h => h) (Or.inr ⟨by rfl, rfl⟩) ?_ ?_; rotate_left
           ·simp only [Act.put, sA, sB, sC, sD, sE]; rfl
           refine pure_ (i := 13) (N := some 48) (v := undef) (a' := ?_) #[T,T,T,T,T,T,T,T,T,T,T,T,T,T,F,F,F,F,F,F,F,F,F,F,F,F,F,F,F,F,F,F,F,F] rfl rfl (any_of HT_.out (by kernel_rfl)) (fun _ _ _ h => h) (Or.inr ⟨by rfl, rfl⟩) ?_ ?_; rotate_left
           ·simp only [Act.put, sA, sB, sC, sD, sE]; rfl
           refine pure_ (i := 14) (N := some 49) (v := undef) (a' := ?_) #[T,T,T,T,T,T,T,T,T,T,T,T,T,T,T,F,F,F,F,F,F,F,F,F,F,F,F,F,F,F,F,F,F,F] rfl rfl (any_of HT_.out (by kernel_rfl)) (fun _ _ _ h => h) (Or.inr ⟨by rfl, rfl⟩) ?_ ?_; rotate_left
           ·simp only [Act.put, sA, sB, sC, sD, sE]; rfl
           refine pure_ (i := 15) (N := some 50) (v := undef) (a' := ?_) #[T,T,T,T,T,T,T,T,T,T,T,T,T,T,T,T,F,F,F,F,F,F,F,F,F,F,F,F,F,F,F,F,F,F] rfl rfl (any_of HT_.out (by kernel_rfl)) (fun _ _ _ h => h) (Or.inr ⟨by rfl, rfl⟩) ?_ ?_; rotate_left
           ·simp only [Act.put, sA, sB, sC, sD, sE]; rfl
           refine pure_ (i := 16) (N := some 51) (v := undef) (a' := ?_) #[T,T,T,T,T,T,T,T,T,T,T,T,T,T,T,T,T,F,F,F,F,F,F,F,F,F,F,F,F,F,F,F,F,F] rfl rfl (any_of HT_.out (by kernel_rfl)) (fun _ _ _ h => h) (Or.inr ⟨by rfl, rfl⟩) ?_ ?_; rotate_left
           ·simp only [Act.put, sA, sB, sC, sD, sE]; rfl
           refine pure_ (i := 17) (N := some 52) (v := ?_) (a' := ?_) #[T,T,T,T,T,T,T,T,T,T,T,T,T,T,T,T,T,T,F,F,F,F,F,F,F,F,F,F,F,F,F,F,F,F] rfl rfl (any_of HT_.out (by kernel_rfl)) (fun _ _ _ h => h) (Or.inl ⟨by rfl, ?_⟩) ?_ ?_; rotate_left
           ·intro w'; go_simp; with_reducible rfl
           rotate_left
           ·simp only [Act.put, sA, sB, sC, sD, sE]; rfl
           refine pure_ (i := 18) (N := some 53) (v := ?_) (a' := ?_) #[T,T,T,T,T,T,T,T,T,T,T,T,T,T,T,T,T,T,T,F,F,F,F,F,F,F,F,F,F,F,F,F,F,F] rfl rfl (any_of HT_.out (by kernel_rfl)) (fun _ _ _ h => h) (Or.inl ⟨by rfl, ?_⟩) ?_ ?_; rotate_left
           ·intro w'; go_simp; with_reducible rfl
           rotate_left
           ·simp only [Act.put, sA, sB, sC, sD, sE]; rfl
           refine pure_ (i := 19) (N := some 54) (v := undef) (a' := ?_) #[T,T,T,T,T,T,T,T,T,T,T,T,T,T,T,T,T,T,T,T,F,F,F,F,F,F,F,F,F,F,F,F,F,F] rfl rfl (any_of HT_.out (by kernel_rfl)) (fun _ _ _ h => h) (Or.inr ⟨by rfl, rfl⟩) ?_ ?_; rotate_left
           ·simp only [Act.put, sA, sB, sC, sD, sE]; rfl
           refine pure_ (i := 20) (N := some 55) (v := undef) (a' := ?_) #[T,T,T,T,T,T,T,T,T,T,T,T,T,T,T,T,T,T,T,T,T,F,F,F,F,F,F,F,F,F,F,F,F,F] rfl rfl (any_of HT_.out (by kernel_rfl)) (fun _ _ _ h => h) (Or.inr ⟨by rfl, rfl⟩) ?_ ?_; rotate_left
           ·simp only [Act.put, sA, sB, sC, sD, sE]; rfl
           refine pure_ (i := 21) (N := some 56) (v := undef) (a' := ?_) #[T,T,T,T,T,T,T,T,T,T,T,T,T,T,T,T,T,T,T,T,T,T,F,F,F,F,F,F,F,F,F,F,F,F] rfl rfl (any_of HT_.out (by kernel_rfl)) (fun _ _ _ h => h) (Or.inr ⟨by rfl, rfl⟩) ?_ ?_; rotate_left
           ·simp only [Act.put, sA, sB, sC, sD, sE]; rfl
           refine pure_ (i := 22) (N := some 57) (v := undef) (a' := ?_) #[T,T,T,T,T,T,T,T,T,T,T,T,T,T,T,T,T,T,T,T,T,T,T,F,F,F,F,F,F,F,F,F,F,F] rfl rfl (any_of HT_.out (by kernel_rfl)) (fun _ _ _ h => h) (Or.inr ⟨by rfl, rfl⟩) ?_ ?_; rotate_left
           ·simp only [Act.put, sA, sB, sC, sD, sE]; rfl
           refine pure_ (i := 23) (N := some 58) (v := undef) (a' := ?_) #[T,T,T,T,T,T,T,T,T,T,T,T,T,T,T,T,T,T,T,T,T,T,T,T,F,F,F,F,F,F,F,F,F,F] rfl rfl (any_of HT_.out (by kernel_rfl)) (fun _ _ _ h => h) (Or.inr ⟨by rfl, rfl⟩) ?_ ?_; rotate_left
           ·simp only [Act.put, sA, sB, sC, sD, sE]; rfl
           refine pure_ (i := 24) (N := some 59) (v := undef) (a' := ?_) #[T,T,T,T,T,T,T,T,T,T,T,T,T,T,T,T,T,T,T,T,T,T,T,T,T,F,F,F,F,F,F,F,F,F] rfl rfl (any_of HT_.out (by kernel_rfl)) (fun _ _ _ h => h) (Or.inr ⟨by rfl, rfl⟩) ?_ ?_; rotate_left
           ·simp only [Act.put, sA, sB, sC, sD, sE]; rfl
           refine pure_ (i := 25) (N := some 60) (v := undef) (a' := ?_) #[T,T,T,T,T,T,T,T,T,T,T,T,T,T,T,T,T,T,T,T,T,T,T,T,T,T,F,F,F,F,F,F,F,F] rfl rfl (any_of HT_.out (by kernel_rfl)) (fun _ _ _ h => h) (Or.inr ⟨by rfl, rfl⟩) ?_ ?_; rotate_left
           ·simp only [Act.put, sA, sB, sC, sD, sE]; rfl
           refine pure_ (i := 26) (N := some 61) (v := ?_) (a' := ?_) #[T,T,T,T,T,T,T,T,T,T,T,T,T,T,T,T,T,T,T,T,T,T,T,T,T,T,T,F,F,F,F,F,F,F] rfl rfl (any_of HT_.out (by kernel_rfl)) (fun _ _ _ h => h) (Or.inl ⟨by rfl, ?_⟩) ?_ ?_; rotate_left
           ·intro w'; go_simp; with_reducible rfl
           rotate_left
           ·simp only [Act.put, sA, sB, sC, sD, sE]; rfl
           refine pure_ (i := 27) (N := some 62) (v := ?_) (a' := ?_) #[T,T,T,T,T,T,T,T,T,T,T,T,T,T,T,T,T,T,T,T,T,T,T,T,T,T,T,T,F,F,F,F,F,F] rfl rfl (any_of HT_.out (by kernel_rfl)) (fun _ _ _ h => h) (Or.inl ⟨by rfl, ?_⟩) ?_ ?_; rotate_left
           ·intro w'; go_simp; with_reducible rfl
           rotate_left
           ·simp only [Act.put, sA, sB, sC, sD, sE]; rfl
           refine pure_ (i := 28) (N := some 63) (v := undef) (a' := ?_) #[T,T,T,T,T,T,T,T,T,T,T,T,T,T,T,T,T,T,T,T,T,T,T,T,T,T,T,T,T,F,F,F,F,F] rfl rfl (any_of HT_.out (by kernel_rfl)) (fun _ _ _ h => h) (Or.inr ⟨by rfl, rfl⟩) ?_ ?_; rotate_left
           ·simp only [Act.put, sA, sB, sC, sD, sE]; rfl
           refine pure_ (i := 29) (N := some 64) (v := undef) (a' := ?_) #[T,T,T,T,T,T,T,T,T,T,T,T,T,T,T,T,T,T,T,T,T,T,T,T,T,T,T,T,T,T,F,F,F,F] rfl rfl (any_of HT_.out (by kernel_rfl)) (fun _ _ _ h => h) (Or.inr ⟨by rfl, rfl⟩) ?_ ?_; rotate_left
           ·simp only [Act.put, sA, sB, sC, sD, sE]; rfl
           refine pure_ (i := 30) (N := some 65) (v := undef) (a' := ?_) #[T,T,T,T,T,T,T,T,T,T,T,T,T,T,T,T,T,T,T,T,T,T,T,T,T,T,T,T,T,T,T,F,F,F] rfl rfl (any_of HT_.out (by kernel_rfl)) (fun _ _ _ h => h) (Or.inr ⟨by rfl, rfl⟩) ?_ ?_; rotate_left
           ·simp only [Act.put, sA, sB, sC, sD, sE]; rfl
           refine pure_ (i := 31) (N := some 66) (v := undef) (a' := ?_) #[T,T,T,T,T,T,T,T,T,T,T,T,T,T,T,T,T,T,T,T,T,T,T,T,T,T,T,T,T,T,T,T,F,F] rfl rfl (any_of HT_.out (by kernel_rfl)) (fun _ _ _ h => h) (Or.inr ⟨by rfl, rfl⟩) ?_ ?_; rotate_left
           ·simp only [Act.put, sA, sB, sC, sD, sE]; rfl
           refine pure_ (i := 32) (N := some 67) (v := undef) (a' := ?_) #[T,T,T,T,T,T,T,T,T,T,T,T,T,T,T,T,T,T,T,T,T,T,T,T,T,T,T,T,T,T,T,T,T,F] rfl rfl (any_of HT_.out (by kernel_rfl)) (fun _ _ _ h => h) (Or.inr ⟨by rfl, rfl⟩) ?_ ?_; rotate_left
           ·simp only [Act.put, sA, sB, sC, sD, sE]; rfl
           refine pure_ (i := 33) (N := some 68) (v := ?_) (a' := ?_) #[T,T,T,T,T,T,T,T,T,T,T,T,T,T,T,T,T,T,T,T,T,T,T,T,T,T,T,T,T,T,T,T,T,T] rfl rfl (any_of HT_.out (by kernel_rfl)) (fun _ _ _ h => h) (Or.inl ⟨by rfl, ?_⟩) ?_ ?_; rotate_left
           ·intro w'; go_simp; with_reducible rfl
           rotate_left
           ·simp only [Act.put, sA, sB, sC, sD, sE]; rfl
           refine done_ (done_of HT_.out (by kernel_rfl)) ?_
           try go_wp2
           go_meet
           case rel => exact ⟨_, (true), (by first | rfl | (simp; done) | (simp [*]; done)), H', ⟨by have := HJ2.out; have := HK2.out; first | omega | exact Nat.le_refl _⟩, ⟨by (with_reducible repeat (first | apply Cts.alloc | apply Cts.drewN | apply Cts.drew)); exact HM.out⟩, ⟨by repeat (first | (with_reducible first | exact HB.out | apply bA | apply bD | apply bE) | exact HB.out)⟩⟩
         case rest =>
          clear HC12
          try clear c1
          try clear p1
          try clear q1
          try clear hx1
          try clear qi1
          try clear c2
          try clear p2
          try clear p10
          try clear q10
          try clear hx10
          try clear qi10
          try clear c13
          try clear c13b0
          try clear c13b1
          try clear c14
          try clear c17
          try clear c20
          try clear c21
          try clear c21b0
          try clear hx103_0
          try clear hx104_0
          try clear hx105_0
          try clear hx106_0
          try clear hx107_0
          try clear hx108_0
          try clear p103
          try clear p104
          try clear p105
          try clear p106
          try clear p107
          try clear p108
          try clear q103
          try clear q104
          try clear q105
          try clear q106
          try clear q107
          try clear q108
          obtain ⟨kq, x68_11, rfl, HA, HJ11, HM, HB⟩ := hcut
          cases kq with
          | zero => exact absurd HA.out (by simp [impl_IsTriangulation.j2])
          | succ kj11 =>
           have H := HA.out; clear HA; simp only [impl_IsTriangulation.j2] at H
           by_cases c25 : x68_11 = true
           ·subst c25; have H1 : (some false) = some r := by rw [if_pos rfl] at H; exact H
            clear H; have H := H1; clear H1; obtain rfl := Option.some.inj H
            go_wp2
            go_ret
            exact ⟨by first | rfl | (simp [*, errW_none, errW_some] <;> rfl), by repeat (first | (with_reducible first | exact HB.out | apply bA | apply bD | apply bE) | exact HB.out)⟩
           ·replace c25 := Bool.eq_false_iff.mpr c25; subst c25; have H1 : (if 0 < ((rd_L5 l1 x31_2).length : Int) then (if 0 ≤ (rd (rd_L5 l1 x31_2) 0) then (if (rd (rd_L5 l1 x31_2) 0) < (l0.length : Int) then (if 1 < ((rd_L5 l1 x31_2).length : Int) then (if 0 ≤ (rd (rd_L5 l1 x31_2) 1) then (if (rd (rd_L5 l1 x31_2) 1) < (l0.length : Int) then (if 2 < ((rd_L5 l1 x31_2).length : Int) then (if 0 ≤ (rd (rd_L5 l1 x31_2) 2) then (if (rd (rd_L5 l1 x31_2) 2) < (l0.length : Int) then ((impl_cross.f ((rd_T27 l0 (rd (rd_L5 l1 x31_2) 0)).f0) ((rd_T27 l0 (rd (rd_L5 l1 x31_2) 0)).f1) ((rd_T27 l0 (rd (rd_L5 l1 x31_2) 1)).f0) ((rd_T27 l0 (rd (rd_L5 l1 x31_2) 1)).f1) ((rd_T27 l0 (rd (rd_L5 l1 x31_2) 2)).f0) ((rd_T27 l0 (rd (rd_L5 l1 x31_2) 2)).f1)).bind fun t115 => (if t115 = 0 then (some false) else ((impl_size.f t115).bind fun t116 => (if (kOk (rd (rd_L5 l1 x31_2) 0) (rd (rd_L5 l1 x31_2) 1) && kOk (rd (rd_L5 l1 x31_2) 1) (rd (rd_L5 l1 x31_2) 2)) = true then (impl_IsTriangulation.l0 kj11 l0 (l0.length : Int) (wrap64 (x6_2 + t116)) (bump (bump (bump x7_2 ((rd (rd_L5 l1 x31_2) 0), (rd (rd_L5 l1 x31_2) 1))) ((rd (rd_L5 l1 x31_2) 1), (rd (rd_L5 l1 x31_2) 2))) ((rd (rd_L5 l1 x31_2) 0), (rd (rd_L5 l1 x31_2) 2))) l1 (l1.length : Int) (wrap64 (x31_2 + 1))) else (none))))) else (none)) else (none)) else (none)) else (none)) else (none)) else (none)) else (none)) else (none)) else (none)) = some r := by rw [if_neg (show ¬ (false = true) by decide)] at H; exact H
            clear H; have H := H1; clear H1
            by_cases c26 : 0 < ((rd_L5 l1 x31_2).length : Int)
            ·rw [if_pos c26] at H; have c26b0 : decide (0 < ((rd_L5 l1 x31_2).length : Int)) = true := decide_eq_true c26; have c26b1 : decide (0 < (rd_L5 l1 x31_2).length) = true := decide_eq_true (by omega); clear c26
             by_cases c27 : 0 ≤ (rd (rd_L5 l1 x31_2) 0)
             ·rw [if_pos c27] at H; have c27b0 : decide (0 ≤ (rd (rd_L5 l1 x31_2) 0)) = true := decide_eq_true c27; clear c27
              by_cases c28 : (rd (rd_L5 l1 x31_2) 0) < (l0.length : Int)
              ·rw [if_pos c28] at H; have c28b0 : decide ((rd (rd_L5 l1 x31_2) 0) < (l0.length : Int)) = true := decide_eq_true c28; clear c28
               by_cases c29 : 1 < ((rd_L5 l1 x31_2).length : Int)
               ·rw [if_pos c29] at H; have c29b0 : decide (1 < ((rd_L5 l1 x31_2).length : Int)) = true := decide_eq_true c29; have c29b1 : decide (1 < (rd_L5 l1 x31_2).length) = true := decide_eq_true (by omega); clear c29
                by_cases c30 : 0 ≤ (rd (rd_L5 l1 x31_2) 1)
                ·rw [if_pos c30] at H; have c30b0 : decide (0 ≤ (rd (rd_L5 l1 x31_2) 1)) = true := decide_eq_true c30; clear c30
                 by_cases c31 : (rd (rd_L5 l1 x31_2) 1) < (l0.length : Int)
                 ·rw [if_pos c31] at H; have c31b0 : decide ((rd (rd_L5 l1 x31_2) 1) < (l0.length : Int)) = true := decide_eq_true c31; clear c31
                  by_cases c32 : 2 < ((rd_L5 l1 x31_2).length : Int)
                  ·rw [if_pos c32] at H; have c32b0 : decide (2 < ((rd_L5 l1 x31_2).length : Int)) = true := decide_eq_true c32; have c32b1 : decide (2 < (rd_L5 l1 x31_2).length) = true := decide_eq_true (by omega); clear c32
                   by_cases c33 : 0 ≤ (rd (rd_L5 l1 x31_2) 2)
                   ·rw [if_pos c33] at H; have c33b0 : decide (0 ≤ (rd (rd_L5 l1 x31_2) 2)) = true := decide_eq_true c33; clear c33
                    by_cases c34 : (rd (rd_L5 l1 x31_2) 2) < (l0.length : Int)
                    ·rw [if_pos c34] at H; have c34b0 : decide ((rd (rd_L5 l1 x31_2) 2) < (l0.length : Int)) = true := decide_eq_true c34; clear c34; replace H := Option.bind_eq_some_iff.mp H; obtain ⟨t115, A350, H⟩ := H; replace H : (if t115 = 0 then (some false) else ((impl_size.f t115).bind fun t116 => (if (kOk (rd (rd_L5 l1 x31_2) 0) (rd (rd_L5 l1 x31_2) 1) && kOk (rd (rd_L5 l1 x31_2) 1) (rd (rd_L5 l1 x31_2) 2)) = true then (impl_IsTriangulation.l0 kj11 l0 (l0.length : Int) (wrap64 (x6_2 + t116)) (bump (bump (bump x7_2 ((rd (rd_L5 l1 x31_2) 0), (rd (rd_L5 l1 x31_2) 1))) ((rd (rd_L5 l1 x31_2) 1), (rd (rd_L5 l1 x31_2) 2))) ((rd (rd_L5 l1 x31_2) 0), (rd (rd_L5 l1 x31_2) 2))) l1 (l1.length : Int) (wrap64 (x31_2 + 1))) else (none)))) = some r := H; have A35 := Ak A350; clear A350
                     by_cases c36 : t115 = 0
                     ·rw [if_pos c36] at H; have c36b0 : (t115 == 0) = true := beq_iff_eq.mpr c36; have c36b1 : (t115 != 0) = false := bne_eq_false_iff_eq.mpr c36; clear c36; obtain rfl := Option.some.inj H
                      try go_wp2
                      have n0_ := Ak (below_drew1 HB.out); have n1_ := Ak (Cts.drew HM.out); clear HB HM; have HB := n0_; have HM := n1_; clear n0_ n1_; have p109 : 0 ≤ (0 : Int) := (by omega); have q109 : 0 < ((rd_L5 l1 x31_2).length : Int) := of_decide_eq_true (by first | (with_reducible assumption) | assumption); obtain ⟨ad109, e109, hx109_0⟩ := Kd.at_int HR102_0.out 0 p109 q109; have hw109_0 := hx109_0; (try rw [show ((0 : Int)).toNat = 0 from rfl] at hw109_0); (try rw [show 0 * 1 = 0 from rfl] at hw109_0); (try rw [Addr.add_zero'] at hw109_0); cases e109; have qi109 : (0 < (rd_L5 l1 x31_2).length) = True := eq_true (by omega); (try rw [show ((0 : Int)).toNat = 0 from rfl] at hx109_0); (try rw [Addr.add_zero'] at hx109_0); replace hx109_0 := cB HB.out hx109_0; replace p109 := eq_true p109; replace q109 := eq_true q109; have p110 : 0 ≤ ((rd (rd_L5 l1 x31_2) 0) : Int) := of_decide_eq_true (by first | (with_reducible assumption) | assumption); have q110 : (rd (rd_L5 l1 x31_2) 0) < (l0.length : Int) := of_decide_eq_true (by first | (with_reducible assumption) | assumption); obtain ⟨ad110, e110, hx110_0, hx110_1⟩ := at_T27 HR0.out (rd (rd_L5 l1 x31_2) 0) p110 q110; have hw110_1 := hx110_1; have hw110_0 := hx110_0; cases e110; replace hx110_0 := cB HB.out hx110_0; replace hx110_1 := cB HB.out hx110_1; replace p110 := eq_true p110; replace q110 := eq_true q110; have p111 : 0 ≤ (1 : Int) := (by omega); have q111 : 1 < ((rd_L5 l1 x31_2).length : Int) := of_decide_eq_true (by first | (with_reducible assumption) | assumption); obtain ⟨ad111, e111, hx111_0⟩ := Kd.at_int HR102_0.out 1 p111 q111; have hw111_0 := hx111_0; (try rw [show ((1 : Int)).toNat = 1 from rfl] at hw111_0); (try rw [show 1 * 1 = 1 from rfl] at hw111_0); (try simp only [Nat.reduceMul, Nat.reduceEqDiff, Go.Addr.add, ↓reduceIte] at hw111_0); obtain rfl : ad109 = ad111 := (by injection e111); (try simp only [show (1 : Int).toNat = 1 from rfl, Nat.reduceMul, Nat.reduceEqDiff, Go.Addr.add, ↓reduceIte] at hx111_0); have qi111 : (1 < (rd_L5 l1 x31_2).length) = True := eq_true (by omega); (try rw [show ((1 : Int)).toNat = 1 from rfl] at hx111_0); replace hx111_0 := cB HB.out hx111_0; replace p111 := eq_true p111; replace q111 := eq_true q111; have p112 : 0 ≤ ((rd (rd_L5 l1 x31_2) 1) : Int) := of_decide_eq_true (by first | (with_reducible assumption) | assumption); have q112 : (rd (rd_L5 l1 x31_2) 1) < (l0.length : Int) := of_decide_eq_true (by first | (with_reducible assumption) | assumption); obtain ⟨ad112, e112, hx112_0, hx112_1⟩ := at_T27 HR0.out (rd (rd_L5 l1 x31_2) 1) p112 q112; have hw112_1 := hx112_1; have hw112_0 := hx112_0; obtain rfl : ad110 = ad112 := (by injection e112); replace hx112_0 := cB HB.out hx112_0; replace hx112_1 := cB HB.out hx112_1; replace p112 := eq_true p112; replace q112 := eq_true q112; have p113 : 0 ≤ (2 : Int) := (by omega); have q113 : 2 < ((rd_L5 l1 x31_2).length : Int) := of_decide_eq_true (by first | (with_reducible assumption) | assumption); obtain ⟨ad113, e113, hx113_0⟩ := Kd.at_int HR102_0.out 2 p113 q113; have hw113_0 := hx113_0; (try rw [show ((2 : Int)).toNat = 2 from rfl] at hw113_0); (try rw [show 2 * 1 = 2 from rfl] at hw113_0); (try simp only [Nat.reduceMul, Nat.reduceEqDiff, Go.Addr.add, ↓reduceIte] at hw113_0); obtain rfl : ad109 = ad113 := (by injection e113); (try simp only [show (2 : Int).toNat = 2 from rfl, Nat.reduceMul, Nat.reduceEqDiff, Go.Addr.add, ↓reduceIte] at hx113_0); have qi113 : (2 < (rd_L5 l1 x31_2).length) = True := eq_true (by omega); (try rw [show ((2 : Int)).toNat = 2 from rfl] at hx113_0); replace hx113_0 := cB HB.out hx113_0; replace p113 := eq_true p113; replace q113 := eq_true q113; have p114 : 0 ≤ ((rd (rd_L5 l1 x31_2) 2) : Int) := of_decide_eq_true (by first | (with_reducible assumption) | assumption); have q114 : (rd (rd_L5 l1 x31_2) 2) < (l0.length : Int) := of_decide_eq_true (by first | (with_reducible assumption) | assumption); obtain ⟨ad114, e114, hx114_0, hx114_1⟩ := at_T27 HR0.out (rd (rd_L5 l1 x31_2) 2) p114 q114; have hw114_1 := hx114_1; have hw114_0 := hx114_0; obtain rfl : ad110 = ad114 := (by injection e114); replace hx114_0 := cB HB.out hx114_0; replace hx114_1 := cB HB.out hx114_1; replace p114 := eq_true p114; replace q114 := eq_true q114; refine start_ (n := 20) (S := fun w' => w'.cell? ad109 = some (.int .i64 (rd (rd_L5 l1 x31_2) 0)) ∧ w'.cell? (ad110.add (((rd (rd_L5 l1 x31_2) 0)).toNat * 2)) = some (.int .i64 ((rd_T27 l0 (rd (rd_L5 l1 x31_2) 0)).f0)) ∧ w'.cell? ⟨(ad110.add (((rd (rd_L5 l1 x31_2) 0)).toNat * 2)).block, (ad110.add (((rd (rd_L5 l1 x31_2) 0)).toNat * 2)).off + 1, none⟩ = some (.int .i64 ((rd_T27 l0 (rd (rd_L5 l1 x31_2) 0)).f1)) ∧ w'.cell? ⟨ad109.block, ad109.off + 1, none⟩ = some (.int .i64 (rd (rd_L5 l1 x31_2) 1)) ∧ w'.cell? (ad110.add (((rd (rd_L5 l1 x31_2) 1)).toNat * 2)) = some (.int .i64 ((rd_T27 l0 (rd (rd_L5 l1 x31_2) 1)).f0)) ∧ w'.cell? ⟨(ad110.add (((rd (rd_L5 l1 x31_2) 1)).toNat * 2)).block, (ad110.add (((rd (rd_L5 l1 x31_2) 1)).toNat * 2)).off + 1, none⟩ = some (.int .i64 ((rd_T27 l0 (rd (rd_L5 l1 x31_2) 1)).f1)) ∧ w'.cell? ⟨ad109.block, ad109.off + 2, none⟩ = some (.int .i64 (rd (rd_L5 l1 x31_2) 2)) ∧ w'.cell? (ad110.add (((rd (rd_L5 l1 x31_2) 2)).toNat * 2)) = some (.int .i64 ((rd_T27 l0 (rd (rd_L5 l1 x31_2) 2)).f0)) ∧ w'.cell? ⟨(ad110.add (((rd (rd_L5 l1 x31_2) 2)).toNat * 2)).block, (ad110.add (((rd (rd_L5 l1 x31_2) 2)).toNat * 2)).off + 1, none⟩ = some (.int .i64 ((rd_T27 l0 (rd (rd_L5 l1 x31_2) 2)).f1))) (ds := []) #[F,F,F,F,F,F,F,F,F,F,F,F,F,F,F,F,F,F,F,F] (by kernel_rfl) rfl rfl ⟨((HB.out.cell (World.block_lt_of_cell? w _ hw109_0)).trans hw109_0), ((HB.out.cell (World.block_lt_of_cell? w _ hw110_0)).trans hw110_0), ((HB.out.cell (World.block_lt_of_cell? w _ hw110_1)).trans hw110_1), ((HB.out.cell (World.block_lt_of_cell? w _ hw111_0)).trans hw111_0), ((HB.out.cell (World.block_lt_of_cell? w _ hw112_0)).trans hw112_0), ((HB.out.cell (World.block_lt_of_cell? w _ hw112_1)).trans hw112_1), ((HB.out.cell (World.block_lt_of_cell? w _ hw113_0)).trans hw113_0), ((HB.out.cell (World.block_lt_of_cell? w _ hw114_0)).trans hw114_0), ((HB.out.cell (World.block_lt_of_cell? w _ hw114_1)).trans hw114_1)⟩ (fun hHeld => ?_); refine with_tabW impl_IsTriangulation.tab10 impl_IsTriangulation.bits10 (fun HT_ HW_ => ?_); generalize wc.drew = w37 at HB HM hx109_0 hx110_0 hx110_1 hx111_0 hx112_0 hx112_1 hx113_0 hx114_0 hx114_1 hHeld ⊢; refine pure_ (i := 0) (N := some 69) (v := ?_) (a' := ?_) #[T,F,F,F,F,F,F,F,F,F,F,F,F,F,F,F,F,F,F,F] rfl rfl (any_of HT_.out (by kernel_rfl)) (fun _ _ _ h => h) (Or.inl ⟨by rfl, ?_⟩) ?_ ?_; rotate_left
                      ·intro w'; go_simp; with_reducible rfl
                      rotate_left
                      ·simp only [Act.put, sA, sB, sC, sD, sE]; rfl
                      refine pure_ (i := 1) (N := some 70) (v := ?_) (a' := ?_) #[T,T,F,F,F,F,F,F,F,F,F,F,F,F,F,F,F,F,F,F] rfl rfl (any_of HT_.out (by kernel_rfl)) (fun _ _ _ h => h) (Or.inl ⟨by rfl, ?_⟩) ?_ ?_; rotate_left
                      ·intro w'; go_simp; with_reducible rfl
                      rotate_left
                      ·simp only [Act.put, sA, sB, sC, sD, sE]; rfl
                      refine pure_ (i := 2) (N := some 71) (v := ?_) (a' := ?_) #[T,T,T,F,F,F,F,F,F,F,F,F,F,F,F,F,F,F,F,F] rfl rfl (any_of HT_.out (by kernel_rfl)) (fun _ _ _ h => h) (Or.inl ⟨by rfl, ?_⟩) ?_ ?_; rotate_left
                      ·intro w'; go_simp; with_reducible rfl
                      rotate_left
                      ·simp only [Act.put, sA, sB, sC, sD, sE]; rfl
                      refine pure_ (i := 6) (N := some 75) (v := ?_) (a' := ?_) #[T,T,T,F,F,F,T,F,F,F,F,F,F,F,F,F,F,F,F,F] rfl rfl (any_of HT_.out (by kernel_rfl)) (fun _ _ _ h => h) (Or.inl ⟨by rfl, ?_⟩) ?_ ?_; rotate_left
                      ·intro w'; go_simp; with_reducible rfl
                      rotate_left
                      ·simp only [Act.put, sA, sB, sC, sD, sE]; rfl
                      refine pure_ (i := 7) (N := some 76) (v := ?_) (a' := ?_) #[T,T,T,F,F,F,T,T,F,F,F,F,F,F,F,F,F,F,F,F] rfl rfl (any_of HT_.out (by kernel_rfl)) (fun _ _ _ h => h) (Or.inl ⟨by rfl, ?_⟩) ?_ ?_; rotate_left
                      ·intro w'; go_simp; with_reducible rfl
                      rotate_left
                      ·simp only [Act.put, sA, sB, sC, sD, sE]; rfl
                      refine pure_ (i := 8) (N := some 77) (v := ?_) (a' := ?_) #[T,T,T,F,F,F,T,T,T,F,F,F,F,F,F,F,F,F,F,F] rfl rfl (any_of HT_.out (by kernel_rfl)) (fun _ _ _ h => h) (Or.inl ⟨by rfl, ?_⟩) ?_ ?_; rotate_left
                      ·intro w'; go_simp; with_reducible rfl
                      rotate_left
                      ·simp only [Act.put, sA, sB, sC, sD, sE]; rfl
                      refine pure_ (i := 12) (N := some 81) (v := ?_) (a' := ?_) #[T,T,T,F,F,F,T,T,T,F,F,F,T,F,F,F,F,F,F,F] rfl rfl (any_of HT_.out (by kernel_rfl)) (fun _ _ _ h => h) (Or.inl ⟨by rfl, ?_⟩) ?_ ?_; rotate_left
                      ·intro w'; go_simp; with_reducible rfl
                      rotate_left
                      ·simp only [Act.put, sA, sB, sC, sD, sE]; rfl
                      refine pure_ (i := 13) (N := some 82) (v := ?_) (a' := ?_) #[T,T,T,F,F,F,T,T,T,F,F,F,T,T,F,F,F,F,F,F] rfl rfl (any_of HT_.out (by kernel_rfl)) (fun _ _ _ h => h) (Or.inl ⟨by rfl, ?_⟩) ?_ ?_; rotate_left
                      ·intro w'; go_simp; with_reducible rfl
                      rotate_left
                      ·simp only [Act.put, sA, sB, sC, sD, sE]; rfl
                      refine pure_ (i := 14) (N := some 83) (v := ?_) (a' := ?_) #[T,T,T,F,F,F,T,T,T,F,F,F,T,T,T,F,F,F,F,F] rfl rfl (any_of HT_.out (by kernel_rfl)) (fun _ _ _ h => h) (Or.inl ⟨by rfl, ?_⟩) ?_ ?_; rotate_left
                      ·intro w'; go_simp; with_reducible rfl
                      rotate_left
                      ·simp only [Act.put, sA, sB, sC, sD, sE]; rfl
                      refine take_ (i := 3) (N := some 72) (v := ?_) (a' := ?_) #[T,T,T,T,F,F,T,T,T,F,F,F,T,T,T,F,F,F,F,F] rfl rfl (take_ofW HT_.out HW_.out (by kernel_rfl)) (fun _ _ _ h => h) (Or.inl ⟨by rfl, ?_⟩) hHeld ?_ ?_; rotate_left
                      ·rintro w' ⟨s0, s1, s2, s3, s4, s5, s6, s7, s8⟩; go_simp; with_reducible rfl
                      rotate_left
                      ·simp only [Act.put, sA, sB, sC, sD, sE]; rfl
                      refine pure_ (i := 4) (N := some 73) (v := ?_) (a' := ?_) #[T,T,T,T,T,F,T,T,T,F,F,F,T,T,T,F,F,F,F,F] rfl rfl (any_of HT_.out (by kernel_rfl)) (fun _ _ _ h => h) (Or.inl ⟨by rfl, ?_⟩) ?_ ?_; rotate_left
                      ·intro w'; go_simp; with_reducible rfl
                      rotate_left
                      ·simp only [Act.put, sA, sB, sC, sD, sE]; rfl
                      refine take_ (i := 5) (N := some 74) (v := ?_) (a' := ?_) #[T,T,T,T,T,T,T,T,T,F,F,F,T,T,T,F,F,F,F,F] rfl rfl (take_ofW HT_.out HW_.out (by kernel_rfl)) (fun _ _ _ h => h) (Or.inl ⟨by rfl, ?_⟩) hHeld ?_ ?_; rotate_left
                      ·rintro w' ⟨s0, s1, s2, s3, s4, s5, s6, s7, s8⟩; go_simp; with_reducible rfl
                      rotate_left
                      ·simp only [Act.put, sA, sB, sC, sD, sE]; rfl
                      refine take_ (i := 9) (N := some 78) (v := ?_) (a' := ?_) #[T,T,T,T,T,T,T,T,T,T,F,F,T,T,T,F,F,F,F,F] rfl rfl (take_ofW HT_.out HW_.out (by kernel_rfl)) (fun _ _ _ h => h) (Or.inl ⟨by rfl, ?_⟩) hHeld ?_ ?_; rotate_left
                      ·rintro w' ⟨s0, s1, s2, s3, s4, s5, s6, s7, s8⟩; go_simp; with_reducible rfl
                      rotate_left
                      ·simp only [Act.put, sA, sB, sC, sD, sE]; rfl
                      refine pure_ (i := 10) (N := some 79) (v := ?_) (a' := ?_) #[T,T,T,T,T,T,T,T,T,T,T,F,T,T,T,F,F,F,F,F] rfl rfl (any_of HT_.out (by kernel_rfl)) (fun _ _ _ h => h) (Or.inl ⟨by rfl, ?_⟩) ?_ ?_; rotate_left
                      ·intro w'; go_simp; with_reducible rfl
                      rotate_left
                      ·simp only [Act.put, sA, sB, sC, sD, sE]; rfl
                      refine take_ (i := 11) (N := some 80) (v := ?_) (a' := ?_) #[T,T,T,T,T,T,T,T,T,T,T,T,T,T,T,F,F,F,F,F] rfl rfl (take_ofW HT_.out HW_.out (by kernel_rfl)) (fun _ _ _ h => h) (Or.inl ⟨by rfl, ?_⟩) hHeld ?_ ?_; rotate_left
                      ·rintro w' ⟨s0, s1, s2, s3, s4, s5, s6, s7, s8⟩; go_simp; with_reducible rfl
                      rotate_left
                      ·simp only [Act.put, sA, sB, sC, sD, sE]; rfl
                      refine take_ (i := 15) (N := some 84) (v := ?_) (a' := ?_) #[T,T,T,T,T,T,T,T,T,T,T,T,T,T,T,T,F,F,F,F] rfl rfl (take_ofW HT_.out HW_.out (by kernel_rfl)) (fun _ _ _ h => h) (Or.inl ⟨by rfl, ?_⟩) hHeld ?_ ?_; rotate_left
                      ·rintro w' ⟨s0, s1, s2, s3, s4, s5, s6, s7, s8⟩; go_simp; with_reducible rfl
                      rotate_left
                      ·simp only [Act.put, sA, sB, sC, sD, sE]; rfl
                      refine pure_ (i := 16) (N := some 85) (v := ?_) (a' := ?_) #[T,T,T,T,T,T,T,T,T,T,T,T,T,T,T,T,T,F,F,F] rfl rfl (any_of HT_.out (by kernel_rfl)) (fun _ _ _ h => h) (Or.inl ⟨by rfl, ?_⟩) ?_ ?_; rotate_left
                      ·intro w'; go_simp; with_reducible rfl
                      rotate_left
                      ·simp only [Act.put, sA, sB, sC, sD, sE]; rfl
                      refine take_ (i := 17) (N := some 86) (v := ?_) (a' := ?_) #[T,T,T,T,T,T,T,T,T,T,T,T,T,T,T,T,T,T,F,F] rfl rfl (take_ofW HT_.out HW_.out (by kernel_rfl)) (fun _ _ _ h => h) (Or.inl ⟨by rfl, ?_⟩) hHeld ?_ ?_; rotate_left
                      ·rintro w' ⟨s0, s1, s2, s3, s4, s5, s6, s7, s8⟩; go_simp; with_reducible rfl
                      rotate_left
                      ·simp only [Act.put, sA, sB, sC, sD, sE]; rfl
                      refine one_ (i := 18) (N := some 87) #[T,T,T,T,T,T,T,T,T,T,T,T,T,T,T,T,T,T,T,F] rfl rfl (one_of HT_.out (by kernel_rfl)) (by decide) (fun K hK => ?_); refine goes_ Try.func66 (by kernel_rfl) rfl #[.agg #[.int .i64 ((rd_T27 l0 (rd (rd_L5 l1 x31_2) 0)).f0), .int .i64 ((rd_T27 l0 (rd (rd_L5 l1 x31_2) 0)).f1)], .agg #[.int .i64 ((rd_T27 l0 (rd (rd_L5 l1 x31_2) 1)).f0), .int .i64 ((rd_T27 l0 (rd (rd_L5 l1 x31_2) 1)).f1)], .agg #[.int .i64 ((rd_T27 l0 (rd (rd_L5 l1 x31_2) 2)).f0), .int .i64 ((rd_T27 l0 (rd (rd_L5 l1 x31_2) 2)).f1)]] (by rfl) rfl rfl (by (try simp only [List.map_toArray, List.map_cons, List.map_nil]); first | done | rfl | (simp only [List.length_drop, List.length_take]; rfl)) ?_
                      with_reducible refine (impl_cross.calls ((rd_T27 l0 (rd (rd_L5 l1 x31_2) 0)).f0) ((rd_T27 l0 (rd (rd_L5 l1 x31_2) 0)).f1) ((rd_T27 l0 (rd (rd_L5 l1 x31_2) 1)).f0) ((rd_T27 l0 (rd (rd_L5 l1 x31_2) 1)).f1) ((rd_T27 l0 (rd (rd_L5 l1 x31_2) 2)).f0) ((rd_T27 l0 (rd (rd_L5 l1 x31_2) 2)).f1) t115 _ A35.out).mono ?_
                      rintro e w38 ⟨rfl, hb⟩; refine ⟨_, rfl, ?_⟩; have n0_ := Ak (below_step (by repeat (first | exact HB.out | apply bA | apply bD | apply bE)) hb); have n1_ := Ak (Cts.below (by (with_reducible repeat (first | apply Cts.alloc | apply Cts.drewN | apply Cts.drew)); exact HM.out) hb); clear HB HM; have HB := n0_; have HM := n1_; clear n0_ n1_; (try clear hb); (try clear hb2); (try clear hk); (try clear hi); refine hK.out _ _ ⟨((HB.out.cell (World.block_lt_of_cell? w _ hw109_0)).trans hw109_0), ((HB.out.cell (World.block_lt_of_cell? w _ hw110_0)).trans hw110_0), ((HB.out.cell (World.block_lt_of_cell? w _ hw110_1)).trans hw110_1), ((HB.out.cell (World.block_lt_of_cell? w _ hw111_0)).trans hw111_0), ((HB.out.cell (World.block_lt_of_cell? w _ hw112_0)).trans hw112_0), ((HB.out.cell (World.block_lt_of_cell? w _ hw112_1)).trans hw112_1), ((HB.out.cell (World.block_lt_of_cell? w _ hw113_0)).trans hw113_0), ((HB.out.cell (World.block_lt_of_cell? w _ hw114_0)).trans hw114_0), ((HB.out.cell (World.block_lt_of_cell? w _ hw114_1)).trans hw114_1)⟩ (fun hHeld => ?_); clear hK K; refine norm_ (a' := ?_) ?_ ?_; rotate_left
                      ·show Act.put _ (some 87) _ = _; simp only [Act.put, sA, sB, sC, sD, sE]; rfl
                      refine pure_ (i := 19) (N := some 10) (v := ?_) (a' := ?_) #[T,T,T,T,T,T,T,T,T,T,T,T,T,T,T,T,T,T,T,T] rfl rfl (any_of HT_.out (by kernel_rfl)) (fun _ _ _ h => h) (Or.inl ⟨by rfl, ?_⟩) ?_ ?_; rotate_left
                      ·intro w'; go_simp; with_reducible rfl
                      rotate_left
                      ·simp only [Act.put, sA, sB, sC, sD, sE]; rfl
                      refine done_ (done_of HT_.out (by kernel_rfl)) ?_
                      try go_wp2
                      go_ret
                      exact ⟨by first | rfl | (simp [*, errW_none, errW_some] <;> rfl), by repeat (first | (with_reducible first | exact HB.out | apply bA | apply bD | apply bE) | exact HB.out)⟩
                     ·rw [if_neg c36] at H; have c36b0 : (t115 == 0) = false := beq_eq_false_iff_ne.mpr c36; have c36b1 : (t115 != 0) = true := bne_iff_ne.mpr c36; replace H := Option.bind_eq_some_iff.mp H; obtain ⟨t116, A390, H⟩ := H; replace H : (if (kOk (rd (rd_L5 l1 x31_2) 0) (rd (rd_L5 l1 x31_2) 1) && kOk (rd (rd_L5 l1 x31_2) 1) (rd (rd_L5 l1 x31_2) 2)) = true then (impl_IsTriangulation.l0 kj11 l0 (l0.length : Int) (wrap64 (x6_2 + t116)) (bump (bump (bump x7_2 ((rd (rd_L5 l1 x31_2) 0), (rd (rd_L5 l1 x31_2) 1))) ((rd (rd_L5 l1 x31_2) 1), (rd (rd_L5 l1 x31_2) 2))) ((rd (rd_L5 l1 x31_2) 0), (rd (rd_L5 l1 x31_2) 2))) l1 (l1.length : Int) (wrap64 (x31_2 + 1))) else (none)) = some r := H; have A39 := Ak A390; clear A390; have HKO := Ak (show (kOk (rd (rd_L5 l1 x31_2) 0) (rd (rd_L5 l1 x31_2) 1) && kOk (rd (rd_L5 l1 x31_2) 1) (rd (rd_L5 l1 x31_2) 2)) = true from Decidable.byContradiction fun hn_ => by rw [if_neg hn_] at H; exact absurd H (by simp)); rw [if_pos HKO.out] at H; have H' := Ak H; clear H
                      try go_wp2
                      have n0_ := Ak (below_drew1 HB.out); have n1_ := Ak (Cts.drew HM.out); clear HB HM; have HB := n0_; have HM := n1_; clear n0_ n1_; have p109 : 0 ≤ (0 : Int) := (by omega); have q109 : 0 < ((rd_L5 l1 x31_2).length : Int) := of_decide_eq_true (by first | (with_reducible assumption) | assumption); obtain ⟨ad109, e109, hx109_0⟩ := Kd.at_int HR102_0.out 0 p109 q109; have hw109_0 := hx109_0; (try rw [show ((0 : Int)).toNat = 0 from rfl] at hw109_0); (try rw [show 0 * 1 = 0 from rfl] at hw109_0); (try rw [Addr.add_zero'] at hw109_0); cases e109; have qi109 : (0 < (rd_L5 l1 x31_2).length) = True := eq_true (by omega); (try rw [show ((0 : Int)).toNat = 0 from rfl] at hx109_0); (try rw [Addr.add_zero'] at hx109_0); replace hx109_0 := cB HB.out hx109_0; replace p109 := eq_true p109; replace q109 := eq_true q109; have p110 : 0 ≤ ((rd (rd_L5 l1 x31_2) 0) : Int) := of_decide_eq_true (by first | (with_reducible assumption) | assumption); have q110 : (rd (rd_L5 l1 x31_2) 0) < (l0.length : Int) := of_decide_eq_true (by first | (with_reducible assumption) | assumption); obtain ⟨ad110, e110, hx110_0, hx110_1⟩ := at_T27 HR0.out (rd (rd_L5 l1 x31_2) 0) p110 q110; have hw110_1 := hx110_1; have hw110_0 := hx110_0; cases e110; replace hx110_0 := cB HB.out hx110_0; replace hx110_1 := cB HB.out hx110_1; replace p110 := eq_true p110; replace q110 := eq_true q110; have p111 : 0 ≤ (1 : Int) := (by omega); have q111 : 1 < ((rd_L5 l1 x31_2).length : Int) := of_decide_eq_true (by first | (with_reducible assumption) | assumption); obtain ⟨ad111, e111, hx111_0⟩ := Kd.at_int HR102_0.out 1 p111 q111; have hw111_0 := hx111_0; (try rw [show ((1 : Int)).toNat = 1 from rfl] at hw111_0); (try rw [show 1 * 1 = 1 from rfl] at hw111_0); (try simp only [Nat.reduceMul, Nat.reduceEqDiff, Go.Addr.add, ↓reduceIte] at hw111_0); obtain rfl : ad109 = ad111 := (by injection e111); (try simp only [show (1 : Int).toNat = 1 from rfl, Nat.reduceMul, Nat.reduceEqDiff, Go.Addr.add, ↓reduceIte] at hx111_0); have qi111 : (1 < (rd_L5 l1 x31_2).length) = True := eq_true (by omega); (try rw [show ((1 : Int)).toNat = 1 from rfl] at hx111_0); replace hx111_0 := cB HB.out hx111_0; replace p111 := eq_true p111; replace q111 := eq_true q111; have p112 : 0 ≤ ((rd (rd_L5 l1 x31_2) 1) : Int) := of_decide_eq_true (by first | (with_reducible assumption) | assumption); have q112 : (rd (rd_L5 l1 x31_2) 1) < (l0.length : Int) := of_decide_eq_true (by first | (with_reducible assumption) | assumption); obtain ⟨ad112, e112, hx112_0, hx112_1⟩ := at_T27 HR0.out (rd (rd_L5 l1 x31_2) 1) p112 q112; have hw112_1 := hx112_1; have hw112_0 := hx112_0; obtain rfl : ad110 = ad112 := (by injection e112); replace hx112_0 := cB HB.out hx112_0; replace hx112_1 := cB HB.out hx112_1; replace p112 := eq_true p112; replace q112 := eq_true q112; have p113 : 0 ≤ (2 : Int) := (by omega); have q113 : 2 < ((rd_L5 l1 x31_2).length : Int) := of_decide_eq_true (by first | (with_reducible assumption) | assumption); obtain ⟨ad113, e113, hx113_0⟩ := Kd.at_int HR102_0.out 2 p113 q113; have hw113_0 := hx113_0; (try rw [show ((2 : Int)).toNat = 2 from rfl] at hw113_0); (try rw [show 2 * 1 = 2 from rfl] at hw113_0); (try simp only [Nat.reduceMul, Nat.reduceEqDiff, Go.Addr.add, ↓reduceIte] at hw113_0); obtain rfl : ad109 = ad113 := (by injection e113); (try simp only [show (2 : Int).toNat = 2 from rfl, Nat.reduceMul, Nat.reduceEqDiff, Go.Addr.add, ↓reduceIte] at hx113_0); have qi113 : (2 < (rd_L5 l1 x31_2).length) = True := eq_true (by omega); (try rw [show ((2 : Int)).toNat = 2 from rfl] at hx113_0); replace hx113_0 := cB HB.out hx113_0; replace p113 := eq_true p113; replace q113 := eq_true q113; have p114 : 0 ≤ ((rd (rd_L5 l1 x31_2) 2) : Int) := of_decide_eq_true (by first | (with_reducible assumption) | assumption); have q114 : (rd (rd_L5 l1 x31_2) 2) < (l0.length : Int) := of_decide_eq_true (by first | (with_reducible assumption) | assumption); obtain ⟨ad114, e114, hx114_0, hx114_1⟩ := at_T27 HR0.out (rd (rd_L5 l1 x31_2) 2) p114 q114; have hw114_1 := hx114_1; have hw114_0 := hx114_0; obtain rfl : ad110 = ad114 := (by injection e114); replace hx114_0 := cB HB.out hx114_0; replace hx114_1 := cB HB.out hx114_1; replace p114 := eq_true p114; replace q114 := eq_true q114; refine start_ (n := 20) (S := fun w' => w'.cell? ad109 = some (.int .i64 (rd (rd_L5 l1 x31_2) 0)) ∧ w'.cell? (ad110.add (((rd (rd_L5 l1 x31_2) 0)).toNat * 2)) = some (.int .i64 ((rd_T27 l0 (rd (rd_L5 l1 x31_2) 0)).f0)) ∧ w'.cell? ⟨(ad110.add (((rd (rd_L5 l1 x31_2) 0)).toNat * 2)).block, (ad110.add (((rd (rd_L5 l1 x31_2) 0)).toNat * 2)).off + 1, none⟩ = some (.int .i64 ((rd_T27 l0 (rd (rd_L5 l1 x31_2) 0)).f1)) ∧ w'.cell? ⟨ad109.block, ad109.off + 1, none⟩ = some (.int .i64 (rd (rd_L5 l1 x31_2) 1)) ∧ w'.cell? (ad110.add (((rd (rd_L5 l1 x31_2) 1)).toNat * 2)) = some (.int .i64 ((rd_T27 l0 (rd (rd_L5 l1 x31_2) 1)).f0)) ∧ w'.cell? ⟨(ad110.add (((rd (rd_L5 l1 x31_2) 1)).toNat * 2)).block, (ad110.add (((rd (rd_L5 l1 x31_2) 1)).toNat * 2)).off + 1, none⟩ = some (.int .i64 ((rd_T27 l0 (rd (rd_L5 l1 x31_2) 1)).f1)) ∧ w'.cell? ⟨ad109.block, ad109.off + 2, none⟩ = some (.int .i64 (rd (rd_L5 l1 x31_2) 2)) ∧ w'.cell? (ad110.add (((rd (rd_L5 l1 x31_2) 2)).toNat * 2)) = some (.int .i64 ((rd_T27 l0 (rd (rd_L5 l1 x31_2) 2)).f0)) ∧ w'.cell? ⟨(ad110.add (((rd (rd_L5 l1 x31_2) 2)).toNat * 2)).block, (ad110.add (((rd (rd_L5 l1 x31_2) 2)).toNat * 2)).off + 1, none⟩ = some (.int .i64 ((rd_T27 l0 (rd (rd_L5 l1 x31_2) 2)).f1))) (ds := []) #[F,F,F,F,F,F,F,F,F,F,F,F,F,F,F,F,F,F,F,F] (by kernel_rfl) rfl rfl ⟨((HB.out.cell (World.block_lt_of_cell? w _ hw109_0)).trans hw109_0), ((HB.out.cell (World.block_lt_of_cell? w _ hw110_0)).trans hw110_0), ((HB.out.cell (World.block_lt_of_cell? w _ hw110_1)).trans hw110_1), ((HB.out.cell (World.block_lt_of_cell? w _ hw111_0)).trans hw111_0), ((HB.out.cell (World.block_lt_of_cell? w _ hw112_0)).trans hw112_0), ((HB.out.cell (World.block_lt_of_cell? w _ hw112_1)).trans hw112_1), ((HB.out.cell (World.block_lt_of_cell? w _ hw113_0)).trans hw113_0), ((HB.out.cell (World.block_lt_of_cell? w _ hw114_0)).trans hw114_0), ((HB.out.cell (World.block_lt_of_cell? w _ hw114_1)).trans hw114_1)⟩ (fun hHeld => ?_); refine with_tabW impl_IsTriangulation.tab10 impl_IsTriangulation.bits10 (fun HT_ HW_ => ?_); generalize wc.drew = w40 at HB HM hx109_0 hx110_0 hx110_1 hx111_0 hx112_0 hx112_1 hx113_0 hx114_0 hx114_1 hHeld ⊢; refine pure_ (i := 0) (N := some 69) (v := ?_) (a' := ?_) #[T,F,F,F,F,F,F,F,F,F,F,F,F,F,F,F,F,F,F,F] rfl rfl (any_of HT_.out (by kernel_rfl)) (fun _ _ _ h => h) (Or.inl ⟨by rfl, ?_⟩) ?_ ?_; rotate_left
                      ·intro w'; go_simp; with_reducible rfl
                      rotate_left
                      ·simp only [Act.put, sA, sB, sC, sD, sE]; rfl
                      refine pure_ (i := 1) (N := some 70) (v := ?_) (a' := ?_) #[T,T,F,F,F,F,F,F,F,F,F,F,F,F,F,F,F,F,F,F] rfl rfl (any_of HT_.out (by kernel_rfl)) (fun _ _ _ h => h) (Or.inl ⟨by rfl, ?_⟩) ?_ ?_; rotate_left
                      ·intro w'; go_simp; with_reducible rfl
                      rotate_left
                      ·simp only [Act.put, sA, sB, sC, sD, sE]; rfl
                      refine pure_ (i := 2) (N := some 71) (v := ?_) (a' := ?_) #[T,T,T,F,F,F,F,F,F,F,F,F,F,F,F,F,F,F,F,F] rfl rfl (any_of HT_.out (by kernel_rfl)) (fun _ _ _ h => h) (Or.inl ⟨by rfl, ?_⟩) ?_ ?_; rotate_left
                      ·intro w'; go_simp; with_reducible rfl
                      rotate_left
                      ·simp only [Act.put, sA, sB, sC, sD, sE]; rfl
                      refine pure_ (i := 6) (N := some 75) (v := ?_) (a' := ?_) #[T,T,T,F,F,F,T,F,F,F,F,F,F,F,F,F,F,F,F,F] rfl rfl (any_of HT_.out (by kernel_rfl)) (fun _ _ _ h => h) (Or.inl ⟨by rfl, ?_⟩) ?_ ?_; rotate_left
                      ·intro w'; go_simp; with_reducible rfl
                      rotate_left
                      ·simp only [Act.put, sA, sB, sC, sD, sE]; rfl
                      refine pure_ (i := 7) (N := some 76) (v := ?_) (a' := ?_) #[T,T,T,F,F,F,T,T,F,F,F,F,F,F,F,F,F,F,F,F] rfl rfl (any_of HT_.out (by kernel_rfl)) (fun _ _ _ h => h) (Or.inl ⟨by rfl, ?_⟩) ?_ ?_; rotate_left
                      ·intro w'; go_simp; with_reducible rfl
                      rotate_left
                      ·simp only [Act.put, sA, sB, sC, sD, sE]; rfl
                      refine pure_ (i := 8) (N := some 77) (v := ?_) (a' := ?_) #[T,T,T,F,F,F,T,T,T,F,F,F,F,F,F,F,F,F,F,F] rfl rfl (any_of HT_.out (by kernel_rfl)) (fun _ _ _ h => h) (Or.inl ⟨by rfl, ?_⟩) ?_ ?_; rotate_left
                      ·intro w'; go_simp; with_reducible rfl
                      rotate_left
                      ·simp only [Act.put, sA, sB, sC, sD, sE]; rfl
                      refine pure_ (i := 12) (N := some 81) (v := ?_) (a' := ?_) #[T,T,T,F,F,F,T,T,T,F,F,F,T,F,F,F,F,F,F,F] rfl rfl (any_of HT_.out (by kernel_rfl)) (fun _ _ _ h => h) (Or.inl ⟨by rfl, ?_⟩) ?_ ?_; rotate_left
                      ·intro w'; go_simp; with_reducible rfl
                      rotate_left
                      ·simp only [Act.put, sA, sB, sC, sD, sE]; rfl
                      refine pure_ (i := 13) (N := some 82) (v := ?_) (a' := ?_) #[T,T,T,F,F,F,T,T,T,F,F,F,T,T,F,F,F,F,F,F] rfl rfl (any_of HT_.out (by kernel_rfl)) (fun _ _ _ h => h) (Or.inl ⟨by rfl, ?_⟩) ?_ ?_; rotate_left
                      ·intro w'; go_simp; with_reducible rfl
                      rotate_left
                      ·simp only [Act.put, sA, sB, sC, sD, sE]; rfl
                      refine pure_ (i := 14) (N := some 83) (v := ?_) (a' := ?_) #[T,T,T,F,F,F,T,T,T,F,F,F,T,T,T,F,F,F,F,F] rfl rfl (any_of HT_.out (by kernel_rfl)) (fun _ _ _ h => h) (Or.inl ⟨by rfl, ?_⟩) ?_ ?_; rotate_left
                      ·intro w'; go_simp; with_reducible rfl
                      rotate_left
                      ·simp only [Act.put, sA, sB, sC, sD, sE]; rfl
                      refine take_ (i := 3) (N := some 72) (v := ?_) (a' := ?_) #[T,T,T,T,F,F,T,T,T,F,F,F,T,T,T,F,F,F,F,F] rfl rfl (take_ofW HT_.out HW_.out (by kernel_rfl)) (fun _ _ _ h => h) (Or.inl ⟨by rfl, ?_⟩) hHeld ?_ ?_; rotate_left
                      ·rintro w' ⟨s0, s1, s2, s3, s4, s5, s6, s7, s8⟩; go_simp; with_reducible rfl
                      rotate_left
                      ·simp only [Act.put, sA, sB, sC, sD, sE]; rfl
                      refine pure_ (i := 4) (N := some 73) (v := ?_) (a' := ?_) #[T,T,T,T,T,F,T,T,T,F,F,F,T,T,T,F,F,F,F,F] rfl rfl (any_of HT_.out (by kernel_rfl)) (fun _ _ _ h => h) (Or.inl ⟨by rfl, ?_⟩) ?_ ?_; rotate_left
                      ·intro w'; go_simp; with_reducible rfl
                      rotate_left
                      ·simp only [Act.put, sA, sB, sC, sD, sE]; rfl
                      refine take_ (i := 5) (N := some 74) (v := ?_) (a' := ?_) #[T,T,T,T,T,T,T,T,T,F,F,F,T,T,T,F,F,F,F,F] rfl rfl (take_ofW HT_.out HW_.out (by kernel_rfl)) (fun _ _ _ h => h) (Or.inl ⟨by rfl, ?_⟩) hHeld ?_ ?_; rotate_left
                      ·rintro w' ⟨s0, s1, s2, s3, s4, s5, s6, s7, s8⟩; go_simp; with_reducible rfl
                      rotate_left
                      ·simp only [Act.put, sA, sB, sC, sD, sE]; rfl
                      refine take_ (i := 9) (N := some 78) (v := ?_) (a' := ?_) #[T,T,T,T,T,T,T,T,T,T,F,F,T,T,T,F,F,F,F,F] rfl rfl (take_ofW HT_.out HW_.out (by kernel_rfl)) (fun _ _ _ h => h) (Or.inl ⟨by rfl, ?_⟩) hHeld ?_ ?_; rotate_left
                      ·rintro w' ⟨s0, s1, s2, s3, s4, s5, s6, s7, s8⟩; go_simp; with_reducible rfl
                      rotate_left
                      ·simp only [Act.put, sA, sB, sC, sD, sE]; rfl
                      refine pure_ (i := 10) (N := some 79) (v := ?_) (a' := ?_) #[T,T,T,T,T,T,T,T,T,T,T,F,T,T,T,F,F,F,F,F] rfl rfl (any_of HT_.out (by kernel_rfl)) (fun _ _ _ h => h) (Or.inl ⟨by rfl, ?_⟩) ?_ ?_; rotate_left
                      ·intro w'; go_simp; with_reducible rfl
                      rotate_left
                      ·simp only [Act.put, sA, sB, sC, sD, sE]; rfl
                      refine take_ (i := 11) (N := some 80) (v := ?_) (a' := ?_) #[T,T,T,T,T,T,T,T,T,T,T,T,T,T,T,F,F,F,F,F] rfl rfl (take_ofW HT_.out HW_.out (by kernel_rfl)) (fun _ _ _ h => h) (Or.inl ⟨by rfl, ?_⟩) hHeld ?_ ?_; rotate_left
                      ·rintro w' ⟨s0, s1, s2, s3, s4, s5, s6, s7, s8⟩; go_simp; with_reducible rfl
                      rotate_left
                      ·simp only [Act.put, sA, sB, sC, sD, sE]; rfl
                      refine take_ (i := 15) (N := some 84) (v := ?_) (a' := ?_) #[T,T,T,T,T,T,T,T,T,T,T,T,T,T,T,T,F,F,F,F] rfl rfl (take_ofW HT_.out HW_.out (by kernel_rfl)) (fun _ _ _ h => h) (Or.inl ⟨by rfl, ?_⟩) hHeld ?_ ?_; rotate_left
                      ·rintro w' ⟨s0, s1, s2, s3, s4, s5, s6, s7, s8⟩; go_simp; with_reducible rfl
                      rotate_left
                      ·simp only [Act.put, sA, sB, sC, sD, sE]; rfl
                      refine pure_ (i := 16) (N := some 85) (v := ?_) (a' := ?_) #[T,T,T,T,T,T,T,T,T,T,T,T,T,T,T,T,T,F,F,F] rfl rfl (any_of HT_.out (by kernel_rfl)) (fun _ _ _ h => h) (Or.inl ⟨by rfl, ?_⟩) ?_ ?_; rotate_left
                      ·intro w'; go_simp; with_reducible rfl
                      rotate_left
                      ·simp only [Act.put, sA, sB, sC, sD, sE]; rfl
                      refine take_ (i := 17) (N := some 86) (v := ?_) (a' := ?_) #[T,T,T,T,T,T,T,T,T,T,T,T,T,T,T,T,T,T,F,F] rfl rfl (take_ofW HT_.out HW_.out (by kernel_rfl)) (fun _ _ _ h => h) (Or.inl ⟨by rfl, ?_⟩) hHeld ?_ ?_; rotate_left
                      ·rintro w' ⟨s0, s1, s2, s3, s4, s5, s6, s7, s8⟩; go_simp; with_reducible rfl
                      rotate_left
                      ·simp only [Act.put, sA, sB, sC, sD, sE]; rfl
                      refine one_ (i := 18) (N := some 87) #[T,T,T,T,T,T,T,T,T,T,T,T,T,T,T,T,T,T,T,F] rfl rfl (one_of HT_.out (by kernel_rfl)) (by decide) (fun K hK => ?_); refine goes_ Try.func66 (by kernel_rfl) rfl #[.agg #[.int .i64 ((rd_T27 l0 (rd (rd_L5 l1 x31_2) 0)).f0), .int .i64 ((rd_T27 l0 (rd (rd_L5 l1 x31_2) 0)).f1)], .agg #[.int .i64 ((rd_T27 l0 (rd (rd_L5 l1 x31_2) 1)).f0), .int .i64 ((rd_T27 l0 (rd (rd_L5 l1 x31_2) 1)).f1)], .agg #[.int .i64 ((rd_T27 l0 (rd (rd_L5 l1 x31_2) 2)).f0), .int .i64 ((rd_T27 l0 (rd (rd_L5 l1 x31_2) 2)).f1)]] (by rfl) rfl rfl (by (try simp only [List.map_toArray, List.map_cons, List.map_nil]); first | done | rfl | (simp only [List.length_drop, List.length_take]; rfl)) ?_
                      with_reducible refine (impl_cross.calls ((rd_T27 l0 (rd (rd_L5 l1 x31_2) 0)).f0) ((rd_T27 l0 (rd (rd_L5 l1 x31_2) 0)).f1) ((rd_T27 l0 (rd (rd_L5 l1 x31_2) 1)).f0) ((rd_T27 l0 (rd (rd_L5 l1 x31_2) 1)).f1) ((rd_T27 l0 (rd (rd_L5 l1 x31_2) 2)).f0) ((rd_T27 l0 (rd (rd_L5 l1 x31_2) 2)).f1) t115 _ A35.out).mono ?_
                      rintro e w41 ⟨rfl, hb⟩; refine ⟨_, rfl, ?_⟩; have n0_ := Ak (below_step (by repeat (first | exact HB.out | apply bA | apply bD | apply bE)) hb); have n1_ := Ak (Cts.below (by (with_reducible repeat (first | apply Cts.alloc | apply Cts.drewN | apply Cts.drew)); exact HM.out) hb); clear HB HM; have HB := n0_; have HM := n1_; clear n0_ n1_; (try clear hb); (try clear hb2); (try clear hk); (try clear hi); refine hK.out _ _ ⟨((HB.out.cell (World.block_lt_of_cell? w _ hw109_0)).trans hw109_0), ((HB.out.cell (World.block_lt_of_cell? w _ hw110_0)).trans hw110_0), ((HB.out.cell (World.block_lt_of_cell? w _ hw110_1)).trans hw110_1), ((HB.out.cell (World.block_lt_of_cell? w _ hw111_0)).trans hw111_0), ((HB.out.cell (World.block_lt_of_cell? w _ hw112_0)).trans hw112_0), ((HB.out.cell (World.block_lt_of_cell? w _ hw112_1)).trans hw112_1), ((HB.out.cell (World.block_lt_of_cell? w _ hw113_0)).trans hw113_0), ((HB.out.cell (World.block_lt_of_cell? w _ hw114_0)).trans hw114_0), ((HB.out.cell (World.block_lt_of_cell? w _ hw114_1)).trans hw114_1)⟩ (fun hHeld => ?_); clear hK K; refine norm_ (a' := ?_) ?_ ?_; rotate_left
                      ·show Act.put _ (some 87) _ = _; simp only [Act.put, sA, sB, sC, sD, sE]; rfl
                      refine pure_ (i := 19) (N := some 10) (v := ?_) (a' := ?_) #[T,T,T,T,T,T,T,T,T,T,T,T,T,T,T,T,T,T,T,T] rfl rfl (any_of HT_.out (by kernel_rfl)) (fun _ _ _ h => h) (Or.inl ⟨by rfl, ?_⟩) ?_ ?_; rotate_left
                      ·intro w'; go_simp; with_reducible rfl
                      rotate_left
                      ·simp only [Act.put, sA, sB, sC, sD, sE]; rfl
                      refine done_ (done_of HT_.out (by kernel_rfl)) ?_
                      try go_wp2_with (first | ((with_reducible refine gate_callee (f := 63) rfl ?_); refine goesL_ (some 92) rfl rfl Try.func63 (by kernel_rfl) rfl #[.int .i64 t115] rfl (by (try simp only [List.map_toArray, List.map_cons, List.map_nil]); first | done | rfl | (simp only [List.length_drop, List.length_take]; rfl)) ?_; (with_reducible refine (impl_size.calls t115 t116 _ A39.out).mono ?_); rintro e w42 ⟨rfl, hb⟩; refine ⟨_, rfl, ?_⟩; have n0_ := Ak (below_step (by repeat (first | exact HB.out | apply bA | apply bD | apply bE)) hb); have n1_ := Ak (Cts.below (by (with_reducible repeat (first | apply Cts.alloc | apply Cts.drewN | apply Cts.drew)); exact HM.out) hb); clear HB HM; have HB := n0_; have HM := n1_; clear n0_ n1_; (try clear hb); (try clear hb2); (try clear hk); (try clear hi)))
                      have n0_ := Ak (below_drew1 HB.out); have n1_ := Ak (Cts.drew HM.out); clear HB HM; have HB := n0_; have HM := n1_; clear n0_ n1_; have p117 : 0 ≤ (0 : Int) := (by omega); have q117 : 0 < ((rd_L5 l1 x31_2).length : Int) := of_decide_eq_true (by first | (with_reducible assumption) | assumption); obtain ⟨ad117, e117, hx117_0⟩ := Kd.at_int HR102_0.out 0 p117 q117; have hw117_0 := hx117_0; (try rw [show ((0 : Int)).toNat = 0 from rfl] at hw117_0); (try rw [show 0 * 1 = 0 from rfl] at hw117_0); (try rw [Addr.add_zero'] at hw117_0); obtain rfl : ad109 = ad117 := (by injection e117); have qi117 : (0 < (rd_L5 l1 x31_2).length) = True := eq_true (by omega); (try rw [show ((0 : Int)).toNat = 0 from rfl] at hx117_0); (try rw [Addr.add_zero'] at hx117_0); replace hx117_0 := cB HB.out hx117_0; replace p117 := eq_true p117; replace q117 := eq_true q117; have p118 : 0 ≤ (1 : Int) := (by omega); have q118 : 1 < ((rd_L5 l1 x31_2).length : Int) := of_decide_eq_true (by first | (with_reducible assumption) | assumption); obtain ⟨ad118, e118, hx118_0⟩ := Kd.at_int HR102_0.out 1 p118 q118; have hw118_0 := hx118_0; (try rw [show ((1 : Int)).toNat = 1 from rfl] at hw118_0); (try rw [show 1 * 1 = 1 from rfl] at hw118_0); (try simp only [Nat.reduceMul, Nat.reduceEqDiff, Go.Addr.add, ↓reduceIte] at hw118_0); obtain rfl : ad109 = ad118 := (by injection e118); (try simp only [show (1 : Int).toNat = 1 from rfl, Nat.reduceMul, Nat.reduceEqDiff, Go.Addr.add, ↓reduceIte] at hx118_0); have qi118 : (1 < (rd_L5 l1 x31_2).length) = True := eq_true (by omega); (try rw [show ((1 : Int)).toNat = 1 from rfl] at hx118_0); replace hx118_0 := cB HB.out hx118_0; replace p118 := eq_true p118; replace q118 := eq_true q118; refine start_ (n := 13) (S := fun w' => w'.cell? ad109 = some (.int .i64 (rd (rd_L5 l1 x31_2) 0)) ∧ w'.cell? ⟨ad109.block, ad109.off + 1, none⟩ = some (.int .i64 (rd (rd_L5 l1 x31_2) 1)) ∧ Has gm w' ((rd (rd_L5 l1 x31_2) 0), (rd (rd_L5 l1 x31_2) 1)) (look x7_2 ((rd (rd_L5 l1 x31_2) 0), (rd (rd_L5 l1 x31_2) 1)))) (ds := [12]) #[F,F,F,F,F,F,F,F,F,F,F,F,F] (by kernel_rfl) rfl rfl ⟨((HB.out.cell (World.block_lt_of_cell? w _ hw117_0)).trans hw117_0), ((HB.out.cell (World.block_lt_of_cell? w _ hw118_0)).trans hw118_0), HM.out.has _⟩ (fun hHeld => ?_); refine with_tabW impl_IsTriangulation.tab14 impl_IsTriangulation.bits14 (fun HT_ HW_ => ?_); generalize w42.drew = w43 at HB HM hx117_0 hx118_0 hHeld ⊢; refine pure_ (i := 0) (N := some 94) (v := ?_) (a' := ?_) #[T,F,F,F,F,F,F,F,F,F,F,F,F] rfl rfl (any_of HT_.out (by kernel_rfl)) (fun _ _ _ h => h) (Or.inl ⟨by rfl, ?_⟩) ?_ ?_; rotate_left
                      ·intro w'; go_simp; with_reducible rfl
                      rotate_left
                      ·simp only [Act.put, sA, sB, sC, sD, sE]; rfl
                      refine pure_ (i := 1) (N := some 95) (v := ?_) (a' := ?_) #[T,T,F,F,F,F,F,F,F,F,F,F,F] rfl rfl (any_of HT_.out (by kernel_rfl)) (fun _ _ _ h => h) (Or.inl ⟨by rfl, ?_⟩) ?_ ?_; rotate_left
                      ·intro w'; go_simp; with_reducible rfl
                      rotate_left
                      ·simp only [Act.put, sA, sB, sC, sD, sE]; rfl
                      refine pure_ (i := 2) (N := some 96) (v := ?_) (a' := ?_) #[T,T,T,F,F,F,F,F,F,F,F,F,F] rfl rfl (any_of HT_.out (by kernel_rfl)) (fun _ _ _ h => h) (Or.inl ⟨by rfl, ?_⟩) ?_ ?_; rotate_left
                      ·intro w'; go_simp; with_reducible rfl
                      rotate_left
                      ·simp only [Act.put, sA, sB, sC, sD, sE]; rfl
                      refine pure_ (i := 4) (N := some 98) (v := ?_) (a' := ?_) #[T,T,T,F,T,F,F,F,F,F,F,F,F] rfl rfl (any_of HT_.out (by kernel_rfl)) (fun _ _ _ h => h) (Or.inl ⟨by rfl, ?_⟩) ?_ ?_; rotate_left
                      ·intro w'; go_simp; with_reducible rfl
                      rotate_left
                      ·simp only [Act.put, sA, sB, sC, sD, sE]; rfl
                      refine pure_ (i := 5) (N := some 99) (v := ?_) (a' := ?_) #[T,T,T,F,T,T,F,F,F,F,F,F,F] rfl rfl (any_of HT_.out (by kernel_rfl)) (fun _ _ _ h => h) (Or.inl ⟨by rfl, ?_⟩) ?_ ?_; rotate_left
                      ·intro w'; go_simp; with_reducible rfl
                      rotate_left
                      ·simp only [Act.put, sA, sB, sC, sD, sE]; rfl
                      refine take_ (i := 3) (N := some 97) (v := ?_) (a' := ?_) #[T,T,T,T,T,T,F,F,F,F,F,F,F] rfl rfl (take_ofW HT_.out HW_.out (by kernel_rfl)) (fun _ _ _ h => h) (Or.inl ⟨by rfl, ?_⟩) hHeld ?_ ?_; rotate_left
                      ·rintro w' ⟨s0, s1, s2⟩; go_simp; with_reducible rfl
                      rotate_left
                      ·simp only [Act.put, sA, sB, sC, sD, sE]; rfl
                      refine take_ (i := 6) (N := some 100) (v := ?_) (a' := ?_) #[T,T,T,T,T,T,T,F,F,F,F,F,F] rfl rfl (take_ofW HT_.out HW_.out (by kernel_rfl)) (fun _ _ _ h => h) (Or.inl ⟨by rfl, ?_⟩) hHeld ?_ ?_; rotate_left
                      ·rintro w' ⟨s0, s1, s2⟩; go_simp; with_reducible rfl
                      rotate_left
                      ·simp only [Act.put, sA, sB, sC, sD, sE]; rfl
                      refine pure_ (i := 7) (N := some 101) (v := keyV ((rd (rd_L5 l1 x31_2) 0), (rd (rd_L5 l1 x31_2) 1))) (a' := ?_) #[T,T,T,T,T,T,T,T,F,F,F,F,F] rfl rfl (any_of HT_.out (by kernel_rfl)) (fun _ _ _ h => h) (Or.inl ⟨by rfl, ?_⟩) ?_ ?_
                      ·intro w'; exact op_build (vx := .int .i64 (rd (rd_L5 l1 x31_2) 0)) (vy := .int .i64 (rd (rd_L5 l1 x31_2) 1)) rfl rfl rfl (run_build82 _ _ w')
                      rotate_left
                      ·simp only [Act.put, sA, sB, sC, sD, sE]; rfl
                      refine take_ (i := 8) (N := some 102) (v := .int .i64 (look x7_2 ((rd (rd_L5 l1 x31_2) 0), (rd (rd_L5 l1 x31_2) 1)))) (a' := ?_) #[T,T,T,T,T,T,T,T,T,F,F,F,F] rfl rfl (take_ofW HT_.out HW_.out (by kernel_rfl)) (fun _ _ _ h => h) (Or.inl ⟨by rfl, ?_⟩) hHeld ?_ ?_
                      ·rintro w' ⟨s0, s1, s2⟩; exact op_lookup rfl rfl rfl (s2.lookup (k01 HKO.out))
                      rotate_left
                      ·simp only [Act.put, sA, sB, sC, sD, sE]; rfl
                      refine pure_ (i := 9) (N := some 103) (v := ?_) (a' := ?_) #[T,T,T,T,T,T,T,T,T,T,F,F,F] rfl rfl (any_of HT_.out (by kernel_rfl)) (fun _ _ _ h => h) (Or.inl ⟨by rfl, ?_⟩) ?_ ?_; rotate_left
                      ·intro w'; go_simp; with_reducible rfl
                      rotate_left
                      ·simp only [Act.put, sA, sB, sC, sD, sE]; rfl
                      refine one_ (i := 10) (N := some 104) #[T,T,T,T,T,T,T,T,T,T,T,F,F] rfl rfl (one_of HT_.out (by kernel_rfl)) (by decide) (fun K hK => ?_); obtain ⟨m14, w43a, hr1_, hg1_, hs1_, hh1_, w43b, hr2_, hg2_, hs2_, hm2_⟩ := HM.out.bumps (k := ((rd (rd_L5 l1 x31_2) 0), (rd (rd_L5 l1 x31_2) 1))) (k01 HKO.out); refine value_ (by rfl) rfl (op_mapEntry rfl rfl rfl hr1_) ?_; have n0_ := Ak (below_map HB.out hg1_ HGM.out (below_size HB.out)); clear HB; have HB := n0_; clear n0_; refine hK.out _ _ ⟨((HB.out.cell (World.block_lt_of_cell? w _ hw117_0)).trans hw117_0), ((HB.out.cell (World.block_lt_of_cell? w _ hw118_0)).trans hw118_0), hh1_⟩ (fun hHeld => ?_); clear hK K; refine norm_ (a' := ?_) ?_ ?_; rotate_left
                      ·show Act.put _ (some 104) _ = _; simp only [Act.put, sA, sB, sC, sD, sE]; rfl
                      refine pure_ (i := 11) (N := some 105) (v := goInt m14) (a' := ?_) #[T,T,T,T,T,T,T,T,T,T,T,T,F] rfl rfl (any_of HT_.out (by kernel_rfl)) (fun _ _ _ h => h) (Or.inl ⟨by rfl, ?_⟩) ?_ ?_
                      ·intro w'; exact op_extract rfl rfl rfl
                      rotate_left
                      ·simp only [Act.put, sA, sB, sC, sD, sE]; rfl
                      refine last_ (i := 12) (N := none) #[T,T,T,T,T,T,T,T,T,T,T,T,T] rfl rfl (one_of HT_.out (by kernel_rfl)) (by decide) (fun K hK => ?_); refine skip_ (by rfl) rfl (op_entryStore rfl rfl rfl rfl hr2_) ?_; have n0_ := Ak (below_map HB.out hg2_ HGM.out (below_size HB.out)); have n1_ := Ak hm2_; clear HB HM; have HB := n0_; have HM := n1_; clear n0_ n1_ hr1_ hg1_ hs1_ hh1_ hr2_ hg2_ hs2_ hm2_; refine hK.out _ _ ?_; clear hK K; refine done_ (done_of HT_.out (by kernel_rfl)) ?_
                      try go_wp2
                      have n0_ := Ak (below_drew1 HB.out); have n1_ := Ak (Cts.drew HM.out); clear HB HM; have HB := n0_; have HM := n1_; clear n0_ n1_; have p119 : 0 ≤ (1 : Int) := (by omega); have q119 : 1 < ((rd_L5 l1 x31_2).length : Int) := of_decide_eq_true (by first | (with_reducible assumption) | assumption); obtain ⟨ad119, e119, hx119_0⟩ := Kd.at_int HR102_0.out 1 p119 q119; have hw119_0 := hx119_0; (try rw [show ((1 : Int)).toNat = 1 from rfl] at hw119_0); (try rw [show 1 * 1 = 1 from rfl] at hw119_0); (try simp only [Nat.reduceMul, Nat.reduceEqDiff, Go.Addr.add, ↓reduceIte] at hw119_0); obtain rfl : ad109 = ad119 := (by injection e119); (try simp only [show (1 : Int).toNat = 1 from rfl, Nat.reduceMul, Nat.reduceEqDiff, Go.Addr.add, ↓reduceIte] at hx119_0); have qi119 : (1 < (rd_L5 l1 x31_2).length) = True := eq_true (by omega); (try rw [show ((1 : Int)).toNat = 1 from rfl] at hx119_0); replace hx119_0 := cB HB.out hx119_0; replace p119 := eq_true p119; replace q119 := eq_true q119; have p120 : 0 ≤ (2 : Int) := (by omega); have q120 : 2 < ((rd_L5 l1 x31_2).length : Int) := of_decide_eq_true (by first | (with_reducible assumption) | assumption); obtain ⟨ad120, e120, hx120_0⟩ := Kd.at_int HR102_0.out 2 p120 q120; have hw120_0 := hx120_0; (try rw [show ((2 : Int)).toNat = 2 from rfl] at hw120_0); (try rw [show 2 * 1 = 2 from rfl] at hw120_0); (try simp only [Nat.reduceMul, Nat.reduceEqDiff, Go.Addr.add, ↓reduceIte] at hw120_0); obtain rfl : ad109 = ad120 := (by injection e120); (try simp only [show (2 : Int).toNat = 2 from rfl, Nat.reduceMul, Nat.reduceEqDiff, Go.Addr.add, ↓reduceIte] at hx120_0); have qi120 : (2 < (rd_L5 l1 x31_2).length) = True := eq_true (by omega); (try rw [show ((2 : Int)).toNat = 2 from rfl] at hx120_0); replace hx120_0 := cB HB.out hx120_0; replace p120 := eq_true p120; replace q120 := eq_true q120; refine start_ (n := 13) (S := fun w' => w'.cell? ⟨ad109.block, ad109.off + 1, none⟩ = some (.int .i64 (rd (rd_L5 l1 x31_2) 1)) ∧ w'.cell? ⟨ad109.block, ad109.off + 2, none⟩ = some (.int .i64 (rd (rd_L5 l1 x31_2) 2)) ∧ Has gm w' ((rd (rd_L5 l1 x31_2) 1), (rd (rd_L5 l1 x31_2) 2)) (look (bump x7_2 ((rd (rd_L5 l1 x31_2) 0), (rd (rd_L5 l1 x31_2) 1))) ((rd (rd_L5 l1 x31_2) 1), (rd (rd_L5 l1 x31_2) 2)))) (ds := [12]) #[F,F,F,F,F,F,F,F,F,F,F,F,F] (by kernel_rfl) rfl rfl ⟨((HB.out.cell (World.block_lt_of_cell? w _ hw119_0)).trans hw119_0), ((HB.out.cell (World.block_lt_of_cell? w _ hw120_0)).trans hw120_0), HM.out.has _⟩ (fun hHeld => ?_); refine with_tabW impl_IsTriangulation.tab15 impl_IsTriangulation.bits15 (fun HT_ HW_ => ?_); generalize w43b.drew = w44 at HB HM hx119_0 hx120_0 hHeld ⊢; refine pure_ (i := 0) (N := some 106) (v := ?_) (a' := ?_) #[T,F,F,F,F,F,F,F,F,F,F,F,F] rfl rfl (any_of HT_.out (by kernel_rfl)) (fun _ _ _ h => h) (Or.inl ⟨by rfl, ?_⟩) ?_ ?_; rotate_left
                      ·intro w'; go_simp; with_reducible rfl
                      rotate_left
                      ·simp only [Act.put, sA, sB, sC, sD, sE]; rfl
                      refine pure_ (i := 1) (N := some 107) (v := ?_) (a' := ?_) #[T,T,F,F,F,F,F,F,F,F,F,F,F] rfl rfl (any_of HT_.out (by kernel_rfl)) (fun _ _ _ h => h) (Or.inl ⟨by rfl, ?_⟩) ?_ ?_; rotate_left
                      ·intro w'; go_simp; with_reducible rfl
                      rotate_left
                      ·simp only [Act.put, sA, sB, sC, sD, sE]; rfl
                      refine pure_ (i := 2) (N := some 108) (v := ?_) (a' := ?_) #[T,T,T,F,F,F,F,F,F,F,F,F,F] rfl rfl (any_of HT_.out (by kernel_rfl)) (fun _ _ _ h => h) (Or.inl ⟨by rfl, ?_⟩) ?_ ?_; rotate_left
                      ·intro w'; go_simp; with_reducible rfl
                      rotate_left
                      ·simp only [Act.put, sA, sB, sC, sD, sE]; rfl
                      refine pure_ (i := 4) (N := some 110) (v := ?_) (a' := ?_) #[T,T,T,F,T,F,F,F,F,F,F,F,F] rfl rfl (any_of HT_.out (by kernel_rfl)) (fun _ _ _ h => h) (Or.inl ⟨by rfl, ?_⟩) ?_ ?_; rotate_left
                      ·intro w'; go_simp; with_reducible rfl
                      rotate_left
                      ·simp only [Act.put, sA, sB, sC, sD, sE]; rfl
                      refine pure_ (i := 5) (N := some 111) (v := ?_) (a' := ?_) #[T,T,T,F,T,T,F,F,F,F,F,F,F] rfl rfl (any_of HT_.out (by kernel_rfl)) (fun _ _ _ h => h) (Or.inl ⟨by rfl, ?_⟩) ?_ ?_; rotate_left
                      ·intro w'; go_simp; with_reducible rfl
                      rotate_left
                      ·simp only [Act.put, sA, sB, sC, sD, sE]; rfl
                      refine take_ (i := 3) (N := some 109) (v := ?_) (a' := ?_) #[T,T,T,T,T,T,F,F,F,F,F,F,F] rfl rfl (take_ofW HT_.out HW_.out (by kernel_rfl)) (fun _ _ _ h => h) (Or.inl ⟨by rfl, ?_⟩) hHeld ?_ ?_; rotate_left
                      ·rintro w' ⟨s0, s1, s2⟩; go_simp; with_reducible rfl
                      rotate_left
                      ·simp only [Act.put, sA, sB, sC, sD, sE]; rfl
                      refine take_ (i := 6) (N := some 112) (v := ?_) (a' := ?_) #[T,T,T,T,T,T,T,F,F,F,F,F,F] rfl rfl (take_ofW HT_.out HW_.out (by kernel_rfl)) (fun _ _ _ h => h) (Or.inl ⟨by rfl, ?_⟩) hHeld ?_ ?_; rotate_left
                      ·rintro w' ⟨s0, s1, s2⟩; go_simp; with_reducible rfl
                      rotate_left
                      ·simp only [Act.put, sA, sB, sC, sD, sE]; rfl
                      refine pure_ (i := 7) (N := some 113) (v := keyV ((rd (rd_L5 l1 x31_2) 1), (rd (rd_L5 l1 x31_2) 2))) (a' := ?_) #[T,T,T,T,T,T,T,T,F,F,F,F,F] rfl rfl (any_of HT_.out (by kernel_rfl)) (fun _ _ _ h => h) (Or.inl ⟨by rfl, ?_⟩) ?_ ?_
                      ·intro w'; exact op_build (vx := .int .i64 (rd (rd_L5 l1 x31_2) 1)) (vy := .int .i64 (rd (rd_L5 l1 x31_2) 2)) rfl rfl rfl (run_build82 _ _ w')
                      rotate_left
                      ·simp only [Act.put, sA, sB, sC, sD, sE]; rfl
                      refine take_ (i := 8) (N := some 114) (v := .int .i64 (look (bump x7_2 ((rd (rd_L5 l1 x31_2) 0), (rd (rd_L5 l1 x31_2) 1))) ((rd (rd_L5 l1 x31_2) 1), (rd (rd_L5 l1 x31_2) 2)))) (a' := ?_) #[T,T,T,T,T,T,T,T,T,F,F,F,F] rfl rfl (take_ofW HT_.out HW_.out (by kernel_rfl)) (fun _ _ _ h => h) (Or.inl ⟨by rfl, ?_⟩) hHeld ?_ ?_
                      ·rintro w' ⟨s0, s1, s2⟩; exact op_lookup rfl rfl rfl (s2.lookup (k12 HKO.out))
                      rotate_left
                      ·simp only [Act.put, sA, sB, sC, sD, sE]; rfl
                      refine pure_ (i := 9) (N := some 115) (v := ?_) (a' := ?_) #[T,T,T,T,T,T,T,T,T,T,F,F,F] rfl rfl (any_of HT_.out (by kernel_rfl)) (fun _ _ _ h => h) (Or.inl ⟨by rfl, ?_⟩) ?_ ?_; rotate_left
                      ·intro w'; go_simp; with_reducible rfl
                      rotate_left
                      ·simp only [Act.put, sA, sB, sC, sD, sE]; rfl
                      refine one_ (i := 10) (N := some 116) #[T,T,T,T,T,T,T,T,T,T,T,F,F] rfl rfl (one_of HT_.out (by kernel_rfl)) (by decide) (fun K hK => ?_); obtain ⟨m15, w44a, hr1_, hg1_, hs1_, hh1_, w44b, hr2_, hg2_, hs2_, hm2_⟩ := HM.out.bumps (k := ((rd (rd_L5 l1 x31_2) 1), (rd (rd_L5 l1 x31_2) 2))) (k12 HKO.out); refine value_ (by rfl) rfl (op_mapEntry rfl rfl rfl hr1_) ?_; have n0_ := Ak (below_map HB.out hg1_ HGM.out (below_size HB.out)); clear HB; have HB := n0_; clear n0_; refine hK.out _ _ ⟨((HB.out.cell (World.block_lt_of_cell? w _ hw119_0)).trans hw119_0), ((HB.out.cell (World.block_lt_of_cell? w _ hw120_0)).trans hw120_0), hh1_⟩ (fun hHeld => ?_); clear hK K; refine norm_ (a' := ?_) ?_ ?_; rotate_left
                      ·show Act.put _ (some 116) _ = _; simp only [Act.put, sA, sB, sC, sD, sE]; rfl
                      refine pure_ (i := 11) (N := some 117) (v := goInt m15) (a' := ?_) #[T,T,T,T,T,T,T,T,T,T,T,T,F] rfl rfl (any_of HT_.out (by kernel_rfl)) (fun _ _ _ h => h) (Or.inl ⟨by rfl, ?_⟩) ?_ ?_
                      ·intro w'; exact op_extract rfl rfl rfl
                      rotate_left
                      ·simp only [Act.put, sA, sB, sC, sD, sE]; rfl
                      refine last_ (i := 12) (N := none) #[T,T,T,T,T,T,T,T,T,T,T,T,T] rfl rfl (one_of HT_.out (by kernel_rfl)) (by decide) (fun K hK => ?_); refine skip_ (by rfl) rfl (op_entryStore rfl rfl rfl rfl hr2_) ?_; have n0_ := Ak (below_map HB.out hg2_ HGM.out (below_size HB.out)); have n1_ := Ak hm2_; clear HB HM; have HB := n0_; have HM := n1_; clear n0_ n1_ hr1_ hg1_ hs1_ hh1_ hr2_ hg2_ hs2_ hm2_; refine hK.out _ _ ?_; clear hK K; refine done_ (done_of HT_.out (by kernel_rfl)) ?_
                      try go_wp2
                      have n0_ := Ak (below_drew1 HB.out); have n1_ := Ak (Cts.drew HM.out); clear HB HM; have HB := n0_; have HM := n1_; clear n0_ n1_; have p121 : 0 ≤ (0 : Int) := (by omega); have q121 : 0 < ((rd_L5 l1 x31_2).length : Int) := of_decide_eq_true (by first | (with_reducible assumption) | assumption); obtain ⟨ad121, e121, hx121_0⟩ := Kd.at_int HR102_0.out 0 p121 q121; have hw121_0 := hx121_0; (try rw [show ((0 : Int)).toNat = 0 from rfl] at hw121_0); (try rw [show 0 * 1 = 0 from rfl] at hw121_0); (try rw [Addr.add_zero'] at hw121_0); obtain rfl : ad109 = ad121 := (by injection e121); have qi121 : (0 < (rd_L5 l1 x31_2).length) = True := eq_true (by omega); (try rw [show ((0 : Int)).toNat = 0 from rfl] at hx121_0); (try rw [Addr.add_zero'] at hx121_0); replace hx121_0 := cB HB.out hx121_0; replace p121 := eq_true p121; replace q121 := eq_true q121; have p122 : 0 ≤ (2 : Int) := (by omega); have q122 : 2 < ((rd_L5 l1 x31_2).length : Int) := of_decide_eq_true (by first | (with_reducible assumption) | assumption); obtain ⟨ad122, e122, hx122_0⟩ := Kd.at_int HR102_0.out 2 p122 q122; have hw122_0 := hx122_0; (try rw [show ((2 : Int)).toNat = 2 from rfl] at hw122_0); (try rw [show 2 * 1 = 2 from rfl] at hw122_0); (try simp only [Nat.reduceMul, Nat.reduceEqDiff, Go.Addr.add, ↓reduceIte] at hw122_0); obtain rfl : ad109 = ad122 := (by injection e122); (try simp only [show (2 : Int).toNat = 2 from rfl, Nat.reduceMul, Nat.reduceEqDiff, Go.Addr.add, ↓reduceIte] at hx122_0); have qi122 : (2 < (rd_L5 l1 x31_2).length) = True := eq_true (by omega); (try rw [show ((2 : Int)).toNat = 2 from rfl] at hx122_0); replace hx122_0 := cB HB.out hx122_0; replace p122 := eq_true p122; replace q122 := eq_true q122; refine start_ (n := 13) (S := fun w' => w'.cell? ad109 = some (.int .i64 (rd (rd_L5 l1 x31_2) 0)) ∧ w'.cell? ⟨ad109.block, ad109.off + 2, none⟩ = some (.int .i64 (rd (rd_L5 l1 x31_2) 2)) ∧ Has gm w' ((rd (rd_L5 l1 x31_2) 0), (rd (rd_L5 l1 x31_2) 2)) (look (bump (bump x7_2 ((rd (rd_L5 l1 x31_2) 0), (rd (rd_L5 l1 x31_2) 1))) ((rd (rd_L5 l1 x31_2) 1), (rd (rd_L5 l1 x31_2) 2))) ((rd (rd_L5 l1 x31_2) 0), (rd (rd_L5 l1 x31_2) 2)))) (ds := [12]) #[F,F,F,F,F,F,F,F,F,F,F,F,F] (by kernel_rfl) rfl rfl ⟨((HB.out.cell (World.block_lt_of_cell? w _ hw121_0)).trans hw121_0), ((HB.out.cell (World.block_lt_of_cell? w _ hw122_0)).trans hw122_0), HM.out.has _⟩ (fun hHeld => ?_); refine with_tabW impl_IsTriangulation.tab16 impl_IsTriangulation.bits16 (fun HT_ HW_ => ?_); generalize w44b.drew = w45 at HB HM hx121_0 hx122_0 hHeld ⊢; refine pure_ (i := 0) (N := some 118) (v := ?_) (a' := ?_) #[T,F,F,F,F,F,F,F,F,F,F,F,F] rfl rfl (any_of HT_.out (by kernel_rfl)) (fun _ _ _ h => h) (Or.inl ⟨by rfl, ?_⟩) ?_ ?_; rotate_left
                      ·intro w'; go_simp; with_reducible rfl
                      rotate_left
                      ·simp only [Act.put, sA, sB, sC, sD, sE]; rfl
                      refine pure_ (i := 1) (N := some 119) (v := ?_) (a' := ?_) #[T,T,F,F,F,F,F,F,F,F,F,F,F] rfl rfl (any_of HT_.out (by kernel_rfl)) (fun _ _ _ h => h) (Or.inl ⟨by rfl, ?_⟩) ?_ ?_; rotate_left
                      ·intro w'; go_simp; with_reducible rfl
                      rotate_left
                      ·simp only [Act.put, sA, sB, sC, sD, sE]; rfl
                      refine pure_ (i := 2) (N := some 120) (v := ?_) (a' := ?_) #[T,T,T,F,F,F,F,F,F,F,F,F,F] rfl rfl (any_of HT_.out (by kernel_rfl)) (fun _ _ _ h => h) (Or.inl ⟨by rfl, ?_⟩) ?_ ?_; rotate_left
                      ·intro w'; go_simp; with_reducible rfl
                      rotate_left
                      ·simp only [Act.put, sA, sB, sC, sD, sE]; rfl
                      refine pure_ (i := 4) (N := some 122) (v := ?_) (a' := ?_) #[T,T,T,F,T,F,F,F,F,F,F,F,F] rfl rfl (any_of HT_.out (by kernel_rfl)) (fun _ _ _ h => h) (Or.inl ⟨by rfl, ?_⟩) ?_ ?_; rotate_left
                      ·intro w'; go_simp; with_reducible rfl
                      rotate_left
                      ·simp only [Act.put, sA, sB, sC, sD, sE]; rfl
                      refine pure_ (i := 5) (N := some 123) (v := ?_) (a' := ?_) #[T,T,T,F,T,T,F,F,F,F,F,F,F] rfl rfl (any_of HT_.out (by kernel_rfl)) (fun _ _ _ h => h) (Or.inl ⟨by rfl, ?_⟩) ?_ ?_; rotate_left
                      ·intro w'; go_simp; with_reducible rfl
                      rotate_left
                      ·simp only [Act.put, sA, sB, sC, sD, sE]; rfl
                      refine take_ (i := 3) (N := some 121) (v := ?_) (a' := ?_) #[T,T,T,T,T,T,F,F,F,F,F,F,F] rfl rfl (take_ofW HT_.out HW_.out (by kernel_rfl)) (fun _ _ _ h => h) (Or.inl ⟨by rfl, ?_⟩) hHeld ?_ ?_; rotate_left
                      ·rintro w' ⟨s0, s1, s2⟩; go_simp; with_reducible rfl
                      rotate_left
                      ·simp only [Act.put, sA, sB, sC, sD, sE]; rfl
                      refine take_ (i := 6) (N := some 124) (v := ?_) (a' := ?_) #[T,T,T,T,T,T,T,F,F,F,F,F,F] rfl rfl (take_ofW HT_.out HW_.out (by kernel_rfl)) (fun _ _ _ h => h) (Or.inl ⟨by rfl, ?_⟩) hHeld ?_ ?_; rotate_left
                      ·rintro w' ⟨s0, s1, s2⟩; go_simp; with_reducible rfl
                      rotate_left
                      ·simp only [Act.put, sA, sB, sC, sD, sE]; rfl
                      refine pure_ (i := 7) (N := some 125) (v := keyV ((rd (rd_L5 l1 x31_2) 0), (rd (rd_L5 l1 x31_2) 2))) (a' := ?_) #[T,T,T,T,T,T,T,T,F,F,F,F,F] rfl rfl (any_of HT_.out (by kernel_rfl)) (fun _ _ _ h => h) (Or.inl ⟨by rfl, ?_⟩) ?_ ?_
                      ·intro w'; exact op_build (vx := .int .i64 (rd (rd_L5 l1 x31_2) 0)) (vy := .int .i64 (rd (rd_L5 l1 x31_2) 2)) rfl rfl rfl (run_build82 _ _ w')
                      rotate_left
                      ·simp only [Act.put, sA, sB, sC, sD, sE]; rfl
                      refine take_ (i := 8) (N := some 126) (v := .int .i64 (look (bump (bump x7_2 ((rd (rd_L5 l1 x31_2) 0), (rd (rd_L5 l1 x31_2) 1))) ((rd (rd_L5 l1 x31_2) 1), (rd (rd_L5 l1 x31_2) 2))) ((rd (rd_L5 l1 x31_2) 0), (rd (rd_L5 l1 x31_2) 2)))) (a' := ?_) #[T,T,T,T,T,T,T,T,T,F,F,F,F] rfl rfl (take_ofW HT_.out HW_.out (by kernel_rfl)) (fun _ _ _ h => h) (Or.inl ⟨by rfl, ?_⟩) hHeld ?_ ?_
                      ·rintro w' ⟨s0, s1, s2⟩; exact op_lookup rfl rfl rfl (s2.lookup (k02 HKO.out))
                      rotate_left
                      ·simp only [Act.put, sA, sB, sC, sD, sE]; rfl
                      refine pure_ (i := 9) (N := some 127) (v := ?_) (a' := ?_) #[T,T,T,T,T,T,T,T,T,T,F,F,F] rfl rfl (any_of HT_.out (by kernel_rfl)) (fun _ _ _ h => h) (Or.inl ⟨by rfl, ?_⟩) ?_ ?_; rotate_left
                      ·intro w'; go_simp; with_reducible rfl
                      rotate_left
                      ·simp only [Act.put, sA, sB, sC, sD, sE]; rfl
                      refine one_ (i := 10) (N := some 128) #[T,T,T,T,T,T,T,T,T,T,T,F,F] rfl rfl (one_of HT_.out (by kernel_rfl)) (by decide) (fun K hK => ?_); obtain ⟨m16, w45a, hr1_, hg1_, hs1_, hh1_, w45b, hr2_, hg2_, hs2_, hm2_⟩ := HM.out.bumps (k := ((rd (rd_L5 l1 x31_2) 0), (rd (rd_L5 l1 x31_2) 2))) (k02 HKO.out); refine value_ (by rfl) rfl (op_mapEntry rfl rfl rfl hr1_) ?_; have n0_ := Ak (below_map HB.out hg1_ HGM.out (below_size HB.out)); clear HB; have HB := n0_; clear n0_; refine hK.out _ _ ⟨((HB.out.cell (World.block_lt_of_cell? w _ hw121_0)).trans hw121_0), ((HB.out.cell (World.block_lt_of_cell? w _ hw122_0)).trans hw122_0), hh1_⟩ (fun hHeld => ?_); clear hK K; refine norm_ (a' := ?_) ?_ ?_; rotate_left
                      ·show Act.put _ (some 128) _ = _; simp only [Act.put, sA, sB, sC, sD, sE]; rfl
                      refine pure_ (i := 11) (N := some 129) (v := goInt m16) (a' := ?_) #[T,T,T,T,T,T,T,T,T,T,T,T,F] rfl rfl (any_of HT_.out (by kernel_rfl)) (fun _ _ _ h => h) (Or.inl ⟨by rfl, ?_⟩) ?_ ?_
                      ·intro w'; exact op_extract rfl rfl rfl
                      rotate_left
                      ·simp only [Act.put, sA, sB, sC, sD, sE]; rfl
                      refine last_ (i := 12) (N := none) #[T,T,T,T,T,T,T,T,T,T,T,T,T] rfl rfl (one_of HT_.out (by kernel_rfl)) (by decide) (fun K hK => ?_); refine skip_ (by rfl) rfl (op_entryStore rfl rfl rfl rfl hr2_) ?_; have n0_ := Ak (below_map HB.out hg2_ HGM.out (below_size HB.out)); have n1_ := Ak hm2_; clear HB HM; have HB := n0_; have HM := n1_; clear n0_ n1_ hr1_ hg1_ hs1_ hh1_ hr2_ hg2_ hs2_ hm2_; refine hK.out _ _ ?_; clear hK K; refine done_ (done_of HT_.out (by kernel_rfl)) ?_
                      try go_wp2
                      go_roundg kj11
                      case measure => have := HJ2.out; have := HK2.out; have := HJ11.out; omega
                      case rel => exact ⟨(wrap64 (x6_2 + t116)), (bump (bump (bump x7_2 ((rd (rd_L5 l1 x31_2) 0), (rd (rd_L5 l1 x31_2) 1))) ((rd (rd_L5 l1 x31_2) 1), (rd (rd_L5 l1 x31_2) 2))) ((rd (rd_L5 l1 x31_2) 0), (rd (rd_L5 l1 x31_2) 2))), (wrap64 (x31_2 + 1)), (by first | rfl | (simp; done) | (simp [*]; done)), (by first | rfl | (simp; done) | (simp [*]; done)), H', ⟨by have := HJ2.out; have := HK2.out; have := HJ11.out; omega⟩, ⟨by (with_reducible repeat (first | apply Cts.alloc | apply Cts.drewN | apply Cts.drew)); exact HM.out⟩, ⟨by repeat (first | (with_reducible first | exact HB.out | apply bA | apply bD | apply bE) | exact HB.out)⟩⟩
                    ·rw [if_neg c34] at H; exact absurd H (by simp)
                   ·rw [if_neg c33] at H; exact absurd H (by simp)
                  ·rw [if_neg c32] at H; exact absurd H (by simp)
                 ·rw [if_neg c31] at H; exact absurd H (by simp)
                ·rw [if_neg c30] at H; exact absurd H (by simp)
               ·rw [if_neg c29] at H; exact absurd H (by simp)
              ·rw [if_neg c28] at H; exact absurd H (by simp)
             ·rw [if_neg c27] at H; exact absurd H (by simp)
            ·rw [if_neg c26] at H; exact absurd H (by simp)
        ·rw [if_neg c11] at H; exact absurd H (by simp)
       ·rw [if_neg c10] at H; exact absurd H (by simp)
      ·rw [if_neg c9] at H; have c9b0 : decide (x31_2 < (l1.length : Int)) = false := decide_eq_false c9; clear c9; have H' := Ak H; clear H
       go_wp2
       go_loopg [132] k2 (fun kq v132 w' => ∃ (x7_3 : List ((Int × Int) × Int)) (x132_3 : Int), v132 = .int .i64 x132_3 ∧ Aside0 (impl_IsTriangulation.l1 kq l0 (l0.length : Int) x6_2 x7_3 (l0.length : Int) x132_3 = some r) ∧ Aside0 (kq ≤ k2) ∧ Aside0 (Cts gm w' x7_3) ∧ Aside0 (Below w.heap.size w w'))
       case atStart => exact ⟨(x7_2), (0), (by first | rfl | (simp; done) | (simp [*]; done)), H', ⟨Nat.le_refl _⟩, ⟨by (with_reducible repeat (first | apply Cts.alloc | apply Cts.drewN | apply Cts.drew)); exact HM.out⟩, ⟨by repeat (first | (with_reducible first | exact HB.out | apply bA | apply bD | apply bE) | exact HB.out)⟩⟩
       case round =>
        clear H'
        try clear c1
        try clear p1
        try clear q1
        try clear hx1
        try clear qi1
        try clear c2
        try clear p2
        try clear c3
        try clear c6
        try clear p6
        try clear c9
        try clear c9b0
        try clear c10
        try clear c11
        try clear p11
        try clear q11
        try clear hx11
        try clear qi11
        try clear p12
        try clear q12
        try clear hx12
        try clear qi12
        try clear c26
        try clear c27
        try clear c28
        try clear c29
        try clear c30
        try clear c31
        try clear c32
        try clear c33
        try clear c34
        try clear hx117_0
        try clear hx118_0
        try clear hx119_0
        try clear hx120_0
        try clear hx121_0
        try clear hx122_0
        try clear p117
        try clear p118
        try clear p119
        try clear p120
        try clear p121
        try clear p122
        try clear q117
        try clear q118
        try clear q119
        try clear q120
        try clear q121
        try clear q122
        obtain ⟨x7_3, x132_3, rfl, HA, HK3, HM, HB⟩ := hrel
        cases gk with
        | zero => exact absurd HA.out (by simp [impl_IsTriangulation.l1])
        | succ k3 =>
         have H := HA.out; clear HA; simp only [impl_IsTriangulation.l1] at H
         by_cases c46 : x132_3 < (l0.length : Int)
         ·rw [if_pos c46] at H; have c46b0 : decide (x132_3 < (l0.length : Int)) = true := decide_eq_true c46; clear c46
          by_cases c47 : (l0.length : Int) = 0
          ·rw [if_pos c47] at H; exact absurd H (by simp)
          ·rw [if_neg c47] at H; have c47b0 : ((l0.length : Int) == 0) = false := beq_eq_false_iff_ne.mpr c47; have c47b1 : ((l0.length : Int) != 0) = true := bne_iff_ne.mpr c47; have c47b2 : ¬ (l0 = []) := fun h_ => c47 (by rw [h_]; rfl)
           obtain ⟨ji48, hji48⟩ : ∃ j_ : Int, (mn x132_3 (Int.tmod (wrap64 (x132_3 + 1)) (l0.length : Int))) = j_ := ⟨_, rfl⟩; replace H : (if kOk (ji48) (mx x132_3 (Int.tmod (wrap64 (x132_3 + 1)) (l0.length : Int))) = true then (if (look x7_3 ((ji48), (mx x132_3 (Int.tmod (wrap64 (x132_3 + 1)) (l0.length : Int))))) = 1 then (impl_IsTriangulation.l1 k3 l0 (l0.length : Int) x6_2 (dropC x7_3 ((ji48), (mx x132_3 (Int.tmod (wrap64 (x132_3 + 1)) (l0.length : Int))))) (l0.length : Int) (wrap64 (x132_3 + 1))) else (some false)) else (none)) = some r := by first | (rw [hji48] at H; exact H) | (simp only [hji48] at H ⊢; exact H)
           have hji48_ : (if (Int.tmod (wrap64 (x132_3 + 1)) (l0.length : Int)) < x132_3 then (Int.tmod (wrap64 (x132_3 + 1)) (l0.length : Int)) else x132_3) = ji48 := hji48; obtain ⟨ji49, hji49⟩ : ∃ j_ : Int, (mx x132_3 (Int.tmod (wrap64 (x132_3 + 1)) (l0.length : Int))) = j_ := ⟨_, rfl⟩; replace H : (if kOk (ji48) (ji49) = true then (if (look x7_3 ((ji48), (ji49))) = 1 then (impl_IsTriangulation.l1 k3 l0 (l0.length : Int) x6_2 (dropC x7_3 ((ji48), (ji49))) (l0.length : Int) (wrap64 (x132_3 + 1))) else (some false)) else (none)) = some r := by first | (rw [hji49] at H; exact H) | (simp only [hji49] at H ⊢; exact H)
           have hji49_ : (if x132_3 < (Int.tmod (wrap64 (x132_3 + 1)) (l0.length : Int)) then (Int.tmod (wrap64 (x132_3 + 1)) (l0.length : Int)) else x132_3) = ji49 := hji49; have HKO := Ak (show kOk ji48 ji49 = true from Decidable.byContradiction fun hn_ => by rw [if_neg hn_] at H; exact absurd H (by simp)); rw [if_pos HKO.out] at H
           by_cases c50 : (look x7_3 ((ji48), (ji49))) = 1
           ·rw [if_pos c50] at H; have c50b0 : ((look x7_3 ((ji48), (ji49))) == 1) = true := beq_iff_eq.mpr c50; have c50b1 : ((look x7_3 ((ji48), (ji49))) != 1) = false := bne_eq_false_iff_eq.mpr c50; clear c50; have H' := Ak H; clear H
            try go_wp2
            have n0_ := Ak (below_drew1 HB.out); have n1_ := Ak (Cts.drew HM.out); clear HB HM; have HB := n0_; have HM := n1_; clear n0_ n1_; refine start_ (n := 15) (S := fun w' => True) (ds := []) #[F,F,F,F,F,F,F,F,F,F,F,F,F,F,F] (by kernel_rfl) rfl rfl trivial (fun hHeld => ?_); refine with_tabW impl_IsTriangulation.tab21 impl_IsTriangulation.bits21 (fun HT_ HW_ => ?_); generalize wr.drew = w51 at HB HM hHeld ⊢; refine pure_ (i := 0) (N := some 135) (v := ?_) (a' := ?_) #[T,F,F,F,F,F,F,F,F,F,F,F,F,F,F] rfl rfl (any_of HT_.out (by kernel_rfl)) (fun _ _ _ h => h) (Or.inl ⟨by rfl, ?_⟩) ?_ ?_; rotate_left
            ·intro w'; go_simp; with_reducible rfl
            rotate_left
            ·simp only [Act.put, sA, sB, sC, sD, sE]; rfl
            refine pure_ (i := 1) (N := some 136) (v := ?_) (a' := ?_) #[T,T,F,F,F,F,F,F,F,F,F,F,F,F,F] rfl rfl (any_of HT_.out (by kernel_rfl)) (fun _ _ _ h => h) (Or.inl ⟨by rfl, ?_⟩) ?_ ?_; rotate_left
            ·intro w'; go_simp; with_reducible rfl
            rotate_left
            ·simp only [Act.put, sA, sB, sC, sD, sE]; rfl
            refine pure_ (i := 2) (N := some 137) (v := ?_) (a' := ?_) #[T,T,T,F,F,F,F,F,F,F,F,F,F,F,F] rfl rfl (any_of HT_.out (by kernel_rfl)) (fun _ _ _ h => h) (Or.inl ⟨by rfl, ?_⟩) ?_ ?_; rotate_left
            ·intro w'; go_simp; with_reducible rfl
            rotate_left
            ·simp only [Act.put, sA, sB, sC, sD, sE]; rfl
            refine pure_ (i := 3) (N := some 138) (v := ?_) (a' := ?_) #[T,T,T,T,F,F,F,F,F,F,F,F,F,F,F] rfl rfl (any_of HT_.out (by kernel_rfl)) (fun _ _ _ h => h) (Or.inl ⟨by rfl, ?_⟩) ?_ ?_; rotate_left
            ·intro w'; go_simp; with_reducible rfl
            rotate_left
            ·simp only [Act.put, sA, sB, sC, sD, sE]; rfl
            refine pure_ (i := 4) (N := some 139) (v := ?_) (a' := ?_) #[T,T,T,T,T,F,F,F,F,F,F,F,F,F,F] rfl rfl (any_of HT_.out (by kernel_rfl)) (fun _ _ _ h => h) (Or.inl ⟨by rfl, ?_⟩) ?_ ?_; rotate_left
            ·intro w'; go_simp; with_reducible rfl
            rotate_left
            ·simp only [Act.put, sA, sB, sC, sD, sE]; rfl
            refine pure_ (i := 5) (N := some 140) (v := ?_) (a' := ?_) #[T,T,T,T,T,T,F,F,F,F,F,F,F,F,F] rfl rfl (any_of HT_.out (by kernel_rfl)) (fun _ _ _ h => h) (Or.inl ⟨by rfl, ?_⟩) ?_ ?_; rotate_left
            ·intro w'; go_simp; with_reducible rfl
            rotate_left
            ·simp only [Act.put, sA, sB, sC, sD, sE]; rfl
            refine pure_ (i := 6) (N := some 141) (v := ?_) (a' := ?_) #[T,T,T,T,T,T,T,F,F,F,F,F,F,F,F] rfl rfl (any_of HT_.out (by kernel_rfl)) (fun _ _ _ h => h) (Or.inl ⟨by rfl, ?_⟩) ?_ ?_; rotate_left
            ·intro w'; go_simp; with_reducible rfl
            rotate_left
            ·simp only [Act.put, sA, sB, sC, sD, sE]; rfl
            refine pure_ (i := 7) (N := some 142) (v := ?_) (a' := ?_) #[T,T,T,T,T,T,T,T,F,F,F,F,F,F,F] rfl rfl (any_of HT_.out (by kernel_rfl)) (fun _ _ _ h => h) (Or.inl ⟨by rfl, ?_⟩) ?_ ?_; rotate_left
            ·intro w'; go_simp; with_reducible rfl
            rotate_left
            ·simp only [Act.put, sA, sB, sC, sD, sE]; rfl
            refine pure_ (i := 8) (N := some 143) (v := ?_) (a' := ?_) #[T,T,T,T,T,T,T,T,T,F,F,F,F,F,F] rfl rfl (any_of HT_.out (by kernel_rfl)) (fun _ _ _ h => h) (Or.inl ⟨by rfl, ?_⟩) ?_ ?_; rotate_left
            ·intro w'; go_simp; with_reducible rfl
            rotate_left
            ·simp only [Act.put, sA, sB, sC, sD, sE]; rfl
            refine pure_ (i := 9) (N := some 144) (v := ?_) (a' := ?_) #[T,T,T,T,T,T,T,T,T,T,F,F,F,F,F] rfl rfl (any_of HT_.out (by kernel_rfl)) (fun _ _ _ h => h) (Or.inl ⟨by rfl, ?_⟩) ?_ ?_; rotate_left
            ·intro w'; go_simp; with_reducible rfl
            rotate_left
            ·simp only [Act.put, sA, sB, sC, sD, sE]; rfl
            refine pure_ (i := 10) (N := some 145) (v := ?_) (a' := ?_) #[T,T,T,T,T,T,T,T,T,T,T,F,F,F,F] rfl rfl (any_of HT_.out (by kernel_rfl)) (fun _ _ _ h => h) (Or.inl ⟨by rfl, ?_⟩) ?_ ?_; rotate_left
            ·intro w'; go_simp; with_reducible rfl
            rotate_left
            ·simp only [Act.put, sA, sB, sC, sD, sE]; rfl
            refine pure_ (i := 11) (N := some 146) (v := ?_) (a' := ?_) #[T,T,T,T,T,T,T,T,T,T,T,T,F,F,F] rfl rfl (any_of HT_.out (by kernel_rfl)) (fun _ _ _ h => h) (Or.inl ⟨by rfl, ?_⟩) ?_ ?_; rotate_left
            ·intro w'; go_simp; with_reducible rfl
            rotate_left
            ·simp only [Act.put, sA, sB, sC, sD, sE]; rfl
            refine pure_ (i := 12) (N := some 147) (v := keyV (ji48, ji49)) (a' := ?_) #[T,T,T,T,T,T,T,T,T,T,T,T,T,F,F] rfl rfl (any_of HT_.out (by kernel_rfl)) (fun _ _ _ h => h) (Or.inl ⟨by rfl, ?_⟩) ?_ ?_
            ·intro w'; exact op_build (vx := .int .i64 ji48) (vy := .int .i64 ji49) rfl rfl rfl (run_build82 _ _ w')
            rotate_left
            ·simp only [Act.put, sA, sB, sC, sD, sE]; rfl
            refine one_ (i := 13) (N := some 12) #[T,T,T,T,T,T,T,T,T,T,T,T,T,T,F] rfl rfl (one_of HT_.out (by kernel_rfl)) (by decide) (fun K hK => ?_); refine value_ (by rfl) rfl (op_alloc rfl (run_alloc82 _)) ?_; obtain ⟨ga, hga⟩ : ∃ g_ : Nat, w51.heap.size = g_ := ⟨_, rfl⟩; have hba := hga ▸ blk_new w51 (.cells #[.int .i64 0, .int .i64 0] 82 (0, 0)); have n0_ := Ak (below_alloc HB.out (.cells #[.int .i64 0, .int .i64 0] 82 (0, 0))); have n1_ := Ak (Cts.alloc HM.out (.cells #[.int .i64 0, .int .i64 0] 82 (0, 0))); have hne_ : ga ≠ gm := fun e_ => by have := HM.out.lt; omega
            have hgb_ : w.heap.size ≤ ga := by rw [← hga]; exact below_size HB.out
            rw [hga]; clear HB HM hga; have HB := n0_; have HM := n1_; clear n0_ n1_; generalize w51.alloc (.cells #[.int .i64 0, .int .i64 0] 82 (0, 0)) = w51a at HB HM hba ⊢; refine hK.out _ _ trivial (fun hHeld => ?_); clear hK K; refine norm_ (a' := ?_) ?_ ?_; rotate_left
            ·show Act.put _ (some 12) _ = _; simp only [Act.put, sA, sB, sC, sD, sE]; rfl
            refine one_ (i := 14) (N := none) #[T,T,T,T,T,T,T,T,T,T,T,T,T,T,T] rfl rfl (one_of HT_.out (by kernel_rfl)) (by decide) (fun K hK => ?_); obtain ⟨w51b, hr2_, hb2_, hg2_⟩ := run_store82 hba ji48 ji49; refine skip_ (by rfl) rfl (op_store rfl rfl rfl hr2_) ?_; have n0_ := Ak (below_map HB.out hg2_ hgb_ (below_size HB.out)); have n1_ := Ak (Cts.grown HM.out hg2_ hne_); have HAR := Ak hb2_; clear HB HM; have HB := n0_; have HM := n1_; clear n0_ n1_ hr2_ hb2_ hg2_ hba hne_ hgb_; refine hK.out _ _ trivial (fun hHeld => ?_); clear hK K; refine done_ (done_of HT_.out (by kernel_rfl)) ?_
            go_wp2_with (first | ((with_reducible refine gate_dst (N := 149) rfl ?_); refine Kd.event_run rfl (op_load rfl rfl (run_load82 HAR.out)) ?_) | ((with_reducible refine gate_dst (N := 150) rfl ?_); refine Kd.event_run rfl (op_lookup rfl rfl rfl (HM.out.lookup (kOk_wf HKO.out))) ?_) | ((with_reducible refine gate_dst (N := 153) rfl ?_); refine Kd.event_run rfl (op_load rfl rfl (run_load82 HAR.out)) ?_) | ((with_reducible refine gate_builtin (b := .delete) (xs := #[.tmp 152, .tmp 153]) rfl ?_); obtain ⟨w51c, hrd_, hgd_, hsd_, hmd_⟩ := HM.out.delete (ty := 0) (kOk_wf HKO.out); refine Kd.event_run rfl (op_delete rfl rfl rfl hrd_) ?_; have n0_ := Ak (below_map HB.out hgd_ HGM.out (below_size HB.out)); have n1_ := Ak hmd_; clear HB HM; have HB := n0_; have HM := n1_; clear n0_ n1_ hrd_ hgd_ hsd_ hmd_))
            go_roundg k3
            case measure => have := HJ2.out; have := HK2.out; have := HK3.out; omega
            case rel => exact ⟨(dropC x7_3 ((ji48), (ji49))), (wrap64 (x132_3 + 1)), (by first | rfl | (simp; done) | (simp [*]; done)), H', ⟨by have := HJ2.out; have := HK2.out; have := HK3.out; omega⟩, ⟨by (with_reducible repeat (first | apply Cts.alloc | apply Cts.drewN | apply Cts.drew)); exact HM.out⟩, ⟨by repeat (first | (with_reducible first | exact HB.out | apply bA | apply bD | apply bE) | exact HB.out)⟩⟩
           ·rw [if_neg c50] at H; have c50b0 : ((look x7_3 ((ji48), (ji49))) == 1) = false := beq_eq_false_iff_ne.mpr c50; have c50b1 : ((look x7_3 ((ji48), (ji49))) != 1) = true := bne_iff_ne.mpr c50; obtain rfl := Option.some.inj H
            try go_wp2
            have n0_ := Ak (below_drew1 HB.out); have n1_ := Ak (Cts.drew HM.out); clear HB HM; have HB := n0_; have HM := n1_; clear n0_ n1_; refine start_ (n := 15) (S := fun w' => True) (ds := []) #[F,F,F,F,F,F,F,F,F,F,F,F,F,F,F] (by kernel_rfl) rfl rfl trivial (fun hHeld => ?_); refine with_tabW impl_IsTriangulation.tab21 impl_IsTriangulation.bits21 (fun HT_ HW_ => ?_); generalize wr.drew = w52 at HB HM hHeld ⊢; refine pure_ (i := 0) (N := some 135) (v := ?_) (a' := ?_) #[T,F,F,F,F,F,F,F,F,F,F,F,F,F,F] rfl rfl (any_of HT_.out (by kernel_rfl)) (fun _ _ _ h => h) (Or.inl ⟨by rfl, ?_⟩) ?_ ?_; rotate_left
            ·intro w'; go_simp; with_reducible rfl
            rotate_left
            ·simp only [Act.put, sA, sB, sC, sD, sE]; rfl
            refine pure_ (i := 1) (N := some 136) (v := ?_) (a' := ?_) #[T,T,F,F,F,F,F,F,F,F,F,F,F,F,F] rfl rfl (any_of HT_.out (by kernel_rfl)) (fun _ _ _ h => h) (Or.inl ⟨by rfl, ?_⟩) ?_ ?_; rotate_left
            ·intro w'; go_simp; with_reducible rfl
            rotate_left
            ·simp only [Act.put, sA, sB, sC, sD, sE]; rfl
            refine pure_ (i := 2) (N := some 137) (v := ?_) (a' := ?_) #[T,T,T,F,F,F,F,F,F,F,F,F,F,F,F] rfl rfl (any_of HT_.out (by kernel_rfl)) (fun _ _ _ h => h) (Or.inl ⟨by rfl, ?_⟩) ?_ ?_; rotate_left
            ·intro w'; go_simp; with_reducible rfl
            rotate_left
            ·simp only [Act.put, sA, sB, sC, sD, sE]; rfl
            refine pure_ (i := 3) (N := some 138) (v := ?_) (a' := ?_) #[T,T,T,T,F,F,F,F,F,F,F,F,F,F,F] rfl rfl (any_of HT_.out (by kernel_rfl)) (fun _ _ _ h => h) (Or.inl ⟨by rfl, ?_⟩) ?_ ?_; rotate_left
            ·intro w'; go_simp; with_reducible rfl
            rotate_left
            ·simp only [Act.put, sA, sB, sC, sD, sE]; rfl
            refine pure_ (i := 4) (N := some 139) (v := ?_) (a' := ?_) #[T,T,T,T,T,F,F,F,F,F,F,F,F,F,F] rfl rfl (any_of HT_.out (by kernel_rfl)) (fun _ _ _ h => h) (Or.inl ⟨by rfl, ?_⟩) ?_ ?_; rotate_left
            ·intro w'; go_simp; with_reducible rfl
            rotate_left
            ·simp only [Act.put, sA, sB, sC, sD, sE]; rfl
            refine pure_ (i := 5) (N := some 140) (v := ?_) (a' := ?_) #[T,T,T,T,T,T,F,F,F,F,F,F,F,F,F] rfl rfl (any_of HT_.out (by kernel_rfl)) (fun _ _ _ h => h) (Or.inl ⟨by rfl, ?_⟩) ?_ ?_; rotate_left
            ·intro w'; go_simp; with_reducible rfl
            rotate_left
            ·simp only [Act.put, sA, sB, sC, sD, sE]; rfl
            refine pure_ (i := 6) (N := some 141) (v := ?_) (a' := ?_) #[T,T,T,T,T,T,T,F,F,F,F,F,F,F,F] rfl rfl (any_of HT_.out (by kernel_rfl)) (fun _ _ _ h => h) (Or.inl ⟨by rfl, ?_⟩) ?_ ?_; rotate_left
            ·intro w'; go_simp; with_reducible rfl
            rotate_left
            ·simp only [Act.put, sA, sB, sC, sD, sE]; rfl
            refine pure_ (i := 7) (N := some 142) (v := ?_) (a' := ?_) #[T,T,T,T,T,T,T,T,F,F,F,F,F,F,F] rfl rfl (any_of HT_.out (by kernel_rfl)) (fun _ _ _ h => h) (Or.inl ⟨by rfl, ?_⟩) ?_ ?_; rotate_left
            ·intro w'; go_simp; with_reducible rfl
            rotate_left
            ·simp only [Act.put, sA, sB, sC, sD, sE]; rfl
            refine pure_ (i := 8) (N := some 143) (v := ?_) (a' := ?_) #[T,T,T,T,T,T,T,T,T,F,F,F,F,F,F] rfl rfl (any_of HT_.out (by kernel_rfl)) (fun _ _ _ h => h) (Or.inl ⟨by rfl, ?_⟩) ?_ ?_; rotate_left
            ·intro w'; go_simp; with_reducible rfl
            rotate_left
            ·simp only [Act.put, sA, sB, sC, sD, sE]; rfl
            refine pure_ (i := 9) (N := some 144) (v := ?_) (a' := ?_) #[T,T,T,T,T,T,T,T,T,T,F,F,F,F,F] rfl rfl (any_of HT_.out (by kernel_rfl)) (fun _ _ _ h => h) (Or.inl ⟨by rfl, ?_⟩) ?_ ?_; rotate_left
            ·intro w'; go_simp; with_reducible rfl
            rotate_left
            ·simp only [Act.put, sA, sB, sC, sD, sE]; rfl
            refine pure_ (i := 10) (N := some 145) (v := ?_) (a' := ?_) #[T,T,T,T,T,T,T,T,T,T,T,F,F,F,F] rfl rfl (any_of HT_.out (by kernel_rfl)) (fun _ _ _ h => h) (Or.inl ⟨by rfl, ?_⟩) ?_ ?_; rotate_left
            ·intro w'; go_simp; with_reducible rfl
            rotate_left
            ·simp only [Act.put, sA, sB, sC, sD, sE]; rfl
            refine pure_ (i := 11) (N := some 146) (v := ?_) (a' := ?_) #[T,T,T,T,T,T,T,T,T,T,T,T,F,F,F] rfl rfl (any_of HT_.out (by kernel_rfl)) (fun _ _ _ h => h) (Or.inl ⟨by rfl, ?_⟩) ?_ ?_; rotate_left
            ·intro w'; go_simp; with_reducible rfl
            rotate_left
            ·simp only [Act.put, sA, sB, sC, sD, sE]; rfl
            refine pure_ (i := 12) (N := some 147) (v := keyV (ji48, ji49)) (a' := ?_) #[T,T,T,T,T,T,T,T,T,T,T,T,T,F,F] rfl rfl (any_of HT_.out (by kernel_rfl)) (fun _ _ _ h => h) (Or.inl ⟨by rfl, ?_⟩) ?_ ?_
            ·intro w'; exact op_build (vx := .int .i64 ji48) (vy := .int .i64 ji49) rfl rfl rfl (run_build82 _ _ w')
            rotate_left
            ·simp only [Act.put, sA, sB, sC, sD, sE]; rfl
            refine one_ (i := 13) (N := some 12) #[T,T,T,T,T,T,T,T,T,T,T,T,T,T,F] rfl rfl (one_of HT_.out (by kernel_rfl)) (by decide) (fun K hK => ?_); refine value_ (by rfl) rfl (op_alloc rfl (run_alloc82 _)) ?_; obtain ⟨ga, hga⟩ : ∃ g_ : Nat, w52.heap.size = g_ := ⟨_, rfl⟩; have hba := hga ▸ blk_new w52 (.cells #[.int .i64 0, .int .i64 0] 82 (0, 0)); have n0_ := Ak (below_alloc HB.out (.cells #[.int .i64 0, .int .i64 0] 82 (0, 0))); have n1_ := Ak (Cts.alloc HM.out (.cells #[.int .i64 0, .int .i64 0] 82 (0, 0))); have hne_ : ga ≠ gm := fun e_ => by have := HM.out.lt; omega
            have hgb_ : w.heap.size ≤ ga := by rw [← hga]; exact below_size HB.out
            rw [hga]; clear HB HM hga; have HB := n0_; have HM := n1_; clear n0_ n1_; generalize w52.alloc (.cells #[.int .i64 0, .int .i64 0] 82 (0, 0)) = w52a at HB HM hba ⊢; refine hK.out _ _ trivial (fun hHeld => ?_); clear hK K; refine norm_ (a' := ?_) ?_ ?_; rotate_left
            ·show Act.put _ (some 12) _ = _; simp only [Act.put, sA, sB, sC, sD, sE]; rfl
            refine one_ (i := 14) (N := none) #[T,T,T,T,T,T,T,T,T,T,T,T,T,T,T] rfl rfl (one_of HT_.out (by kernel_rfl)) (by decide) (fun K hK => ?_); obtain ⟨w52b, hr2_, hb2_, hg2_⟩ := run_store82 hba ji48 ji49; refine skip_ (by rfl) rfl (op_store rfl rfl rfl hr2_) ?_; have n0_ := Ak (below_map HB.out hg2_ hgb_ (below_size HB.out)); have n1_ := Ak (Cts.grown HM.out hg2_ hne_); have HAR := Ak hb2_; clear HB HM; have HB := n0_; have HM := n1_; clear n0_ n1_ hr2_ hb2_ hg2_ hba hne_ hgb_; refine hK.out _ _ trivial (fun hHeld => ?_); clear hK K; refine done_ (done_of HT_.out (by kernel_rfl)) ?_
            go_wp2_with (first | ((with_reducible refine gate_dst (N := 149) rfl ?_); refine Kd.event_run rfl (op_load rfl rfl (run_load82 HAR.out)) ?_) | ((with_reducible refine gate_dst (N := 150) rfl ?_); refine Kd.event_run rfl (op_lookup rfl rfl rfl (HM.out.lookup (kOk_wf HKO.out))) ?_))
            go_ret
            exact ⟨by first | rfl | (simp [errW_none, errW_some] <;> rfl) | (simp only [← hji48, ← hji49]; first | rfl | (simp [errW_none, errW_some] <;> rfl)) | (simp [*, errW_none, errW_some] <;> rfl), by repeat (first | (with_reducible first | exact HB.out | apply bA | apply bD | apply bE) | exact HB.out)⟩
         ·rw [if_neg c46] at H; have c46b0 : decide (x132_3 < (l0.length : Int)) = false := decide_eq_false c46; clear c46; have H' := Ak H; clear H
          go_wp2_with (first | ((with_reducible refine gate_dst (N := 156) rfl ?_); obtain ⟨w60, hrr_, hbr_, n60, hRg_⟩ := HM.out.range; refine Kd.event_run rfl (op_range rfl rfl hrr_) ?_; have HRS := Ak (below_size HB.out); obtain ⟨gr, hgr⟩ : ∃ g_ : Nat, wr.heap.size = g_ := ⟨_, rfl⟩; rw [hgr] at hRg_ HRS ⊢; have HRG := Ak (hRg_); have n0_ := Ak (below_step HB.out hbr_); clear HB HM; have HB := n0_; clear n0_ hrr_ hbr_ hRg_ hgr))
          simp only [Act.put, List.setIfInBounds_toArray, List.set_cons_succ, List.set_cons_zero]
          go_loopg [157] n60 (fun kq v157 w' => Aside0 (Rng gm gr w' x7_3 kq) ∧ Aside0 (Below w.heap.size w w'))
          case atStart => exact ⟨HRG, HB⟩
          case round =>
           clear HRG HB; obtain ⟨HRG, HB⟩ := hrel
           rcases HRG.out.step (ty := 0) with ⟨hrn_, ha_⟩ | ⟨v_, m_, w61, hrn_, hre_, hbn_, hc_⟩
           ·have H := H'.out; rw [if_pos ha_] at H; replace H := Option.bind_eq_some_iff.mp H; obtain ⟨t123, A540, H⟩ := H; replace H : ((impl_size.f t123).bind fun t124 => (some (x6_2 == t124))) = some r := H; have A54 := Ak A540; clear A540; replace H := Option.bind_eq_some_iff.mp H; obtain ⟨t124, A550, H⟩ := H; replace H : (some (x6_2 == t124)) = some r := H; have A55 := Ak A550; clear A550; obtain rfl := Option.some.inj H; have HRN := Ak hrn_; clear hrn_ ha_ H
            go_wp2_with (first | ((with_reducible refine gate_dst (N := 157) rfl ?_); refine Kd.event_run rfl (op_next rfl rfl HRN.out) ?_) | ((with_reducible refine gate_callee (f := 57) rfl ?_); refine goesL_ (some 165) rfl rfl Try.func57 (by kernel_rfl) rfl #[.slice A0 l0.length c0] rfl (by (try simp only [List.map_toArray, List.map_cons, List.map_nil]); first | done | rfl | (simp only [List.length_drop, List.length_take]; rfl)) ?_; (with_reducible refine (impl_twice.calls k3 _ _ l0 t123 _ ?side1 ?side2 A54.out).mono ?_); (case side1 => repeat (first | exact (Kd.C_below HR0.out HB.out) | (with_reducible refine Kd.C_alloc ?_ _) | (with_reducible refine Kd.C_drewN ?_ _) | (with_reducible refine Kd.C_drew ?_))); (case side2 => exact HC0.out); rintro e w56 ⟨rfl, hb⟩; refine ⟨_, rfl, ?_⟩; have n0_ := Ak (below_step (by repeat (first | exact HB.out | apply bA | apply bD | apply bE)) hb); clear HB; have HB := n0_; clear n0_; (try clear hb); (try clear hb2); (try clear hk); (try clear hi)) | ((with_reducible refine gate_callee (f := 63) rfl ?_); refine goesL_ (some 166) rfl rfl Try.func63 (by kernel_rfl) rfl #[.int .i64 t123] rfl (by (try simp only [List.map_toArray, List.map_cons, List.map_nil]); first | done | rfl | (simp only [List.length_drop, List.length_take]; rfl)) ?_; (with_reducible refine (impl_size.calls t123 t124 _ A55.out).mono ?_); rintro e w57 ⟨rfl, hb⟩; refine ⟨_, rfl, ?_⟩; have n0_ := Ak (below_step (by repeat (first | exact HB.out | apply bA | apply bD | apply bE)) hb); clear HB; have HB := n0_; clear n0_; (try clear hb); (try clear hb2); (try clear hk); (try clear hi)))
            go_ret
            exact ⟨by first | rfl | (simp [*, errW_none, errW_some] <;> rfl), by repeat (first | (with_reducible first | exact HB.out | apply bA | apply bD | apply bE) | exact HB.out)⟩
           ·have HRN := Ak hrn_; have HRE := Ak hre_; have n0_ := Ak (hbn_ _ _ HB.out HRS.out (below_size HB.out)); clear HB; have HB := n0_; clear n0_ hrn_ hre_ hbn_
            rcases hc_ with ⟨hm_, ha_⟩ | ⟨hm_, n61, hn_, hRg_⟩
            ·have H := H'.out; rw [ha_, if_neg (by decide)] at H; obtain rfl := Option.some.inj H; have cm0 : (m_ == 2) = false := beq_eq_false_iff_ne.mpr hm_; have cm1 : (m_ != 2) = true := bne_iff_ne.mpr hm_; clear H ha_
             go_wp2_with (first | ((with_reducible refine gate_dst (N := 157) rfl ?_); refine Kd.event_run rfl (op_next rfl rfl HRN.out) ?_) | ((with_reducible refine gate_dst (N := 159) rfl ?_); refine Kd.event_run rfl (op_entry rfl rfl HRE.out) ?_))
             go_ret
             exact ⟨by first | rfl | (simp [*, errW_none, errW_some] <;> rfl), by repeat (first | (with_reducible first | exact HB.out | apply bA | apply bD | apply bE) | exact HB.out)⟩
            ·subst hm_; have HRG2 := Ak hRg_; have HN := Ak hn_; clear hRg_ hn_
             go_wp2_with (first | ((with_reducible refine gate_dst (N := 157) rfl ?_); refine Kd.event_run rfl (op_next rfl rfl HRN.out) ?_) | ((with_reducible refine gate_dst (N := 159) rfl ?_); refine Kd.event_run rfl (op_entry rfl rfl HRE.out) ?_))
             go_roundg n61
             case measure => exact HN.out
             case rel => exact ⟨HRG2, HB⟩


end Go.Proofs.Ytlccpkggdmngaaa.G
