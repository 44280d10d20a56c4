/- A Go function as a plain Lean function, and the proof that Go's call comes to its answer. No conditions but those in the theorem. Written by gen.py (a program of this session over the kit's print). -/
-- SHRUNK by pack.py
import Derived.Test.YtlccpkggdmngaaaG0
import Derived.Test.YtlccpkggdmngaaaFA
import Derived.Test.YtlccpkggdmngaaaF73
namespace Go.Proofs.Ytlccpkggdmngaaa.G
open Go.RowKit Go.Proofs.YtlccpkggdmngaaaW.PrintWords Go.Proofs.YtlccpkggdmngaaaW.PrintLast Go.Proofs.YtlccpkggdmngaaaW.PrintMore Go.Proofs.YtlccpkggdmngaaaW.PrintBits
attribute [local go_sem] max2_int min2_int max_two min_two max_three min_three max_four min_four   -- for this text's walks alone
set_option linter.unusedVariables false
set_option linter.unusedSimpArgs false

/-! ### impl_CountTriangulations_2: function 75 -/
mutual
def impl_CountTriangulations_2.l0 : Nat → Int → Int → Int → List (S27) → Int → Int → Option (Int)
 | 0, _, _, _, _, _, _ => none
 | k + 1, x0, x1, x2, x3, x8, x9 => if x9 < x1 then ((impl_CountTriangulations_1.f k x0 x9 x2 x3).bind fun t101 => (if t101 = true then ((impl_CountTriangulations_1.f k x9 x1 x2 x3).bind fun t102 => (if t102 = true then (if 0 ≤ x0 then (if x0 < (x3.length : Int) then (if 0 ≤ x9 then (if x9 < (x3.length : Int) then (if 0 ≤ x1 then (if x1 < (x3.length : Int) then ((impl_cross.f ((rd_T27 x3 x0).f0) ((rd_T27 x3 x0).f1) ((rd_T27 x3 x9).f0) ((rd_T27 x3 x9).f1) ((rd_T27 x3 x1).f0) ((rd_T27 x3 x1).f1)).bind fun t106 => (impl_CountTriangulations_2.j1 k x0 x1 x2 x3 x8 x9 (t106 != 0))) else (none)) else (none)) else (none)) else (none)) else (none)) else (none)) else (impl_CountTriangulations_2.j1 k x0 x1 x2 x3 x8 x9 false))) else (impl_CountTriangulations_2.j1 k x0 x1 x2 x3 x8 x9 false))) else (some x8)
def impl_CountTriangulations_2.j1 : Nat → Int → Int → Int → List (S27) → Int → Int → Bool → Option (Int)
 | 0, _, _, _, _, _, _, _ => none
 | k + 1, x0, x1, x2, x3, x8, x9, x46 => if x46 = true then ((impl_CountTriangulations_2.f k x0 x9 x2 x3).bind fun t107 => ((impl_CountTriangulations_2.f k x9 x1 x2 x3).bind fun t108 => (impl_CountTriangulations_2.l0 k x0 x1 x2 x3 (wrap64 (x8 + (wrap64 (t107 * t108)))) (wrap64 (x9 + 1))))) else (impl_CountTriangulations_2.l0 k x0 x1 x2 x3 x8 (wrap64 (x9 + 1)))
def impl_CountTriangulations_2.f : Nat → Int → Int → Int → List (S27) → Option (Int)
 | 0, _, _, _, _ => none
 | k + 1, a0, a1, a2, l3 => if a1 = (wrap64 (a0 + 1)) then (some 1) else (impl_CountTriangulations_2.l0 k a0 a1 a2 l3 0 (wrap64 (a0 + 1)))
end
theorem impl_CountTriangulations_2.mono_l : ∀ k, (∀ y0 y1 y2 y3, LeO (impl_CountTriangulations_2.f k y0 y1 y2 y3) (impl_CountTriangulations_2.f (k + 1) y0 y1 y2 y3)) ∧ (∀ y0 y1 y2 y3 y4 y5, LeO (impl_CountTriangulations_2.l0 k y0 y1 y2 y3 y4 y5) (impl_CountTriangulations_2.l0 (k + 1) y0 y1 y2 y3 y4 y5)) ∧ (∀ y0 y1 y2 y3 y4 y5 y6, LeO (impl_CountTriangulations_2.j1 k y0 y1 y2 y3 y4 y5 y6) (impl_CountTriangulations_2.j1 (k + 1) y0 y1 y2 y3 y4 y5 y6))
 | 0 => ⟨fun _ _ _ _ r h => by simp [impl_CountTriangulations_2.f] at h, fun _ _ _ _ _ _ r h => by simp [impl_CountTriangulations_2.l0] at h, fun _ _ _ _ _ _ _ r h => by simp [impl_CountTriangulations_2.j1] at h⟩
 | k + 1 => by
  obtain ⟨ih0, ih1, ih2⟩ := impl_CountTriangulations_2.mono_l k
  refine ⟨?_, ?_, ?_⟩
  ·intro y0 y1 y2 y3
   unfold impl_CountTriangulations_2.f
   repeat' first
   | (with_reducible exact ih0 _ _ _ _)
   | (with_reducible exact ih1 _ _ _ _ _ _)
   | (with_reducible exact ih2 _ _ _ _ _ _ _)
   | (with_reducible exact impl_CountTriangulations_1.mono _ _ _ _ _)
   | (with_reducible exact LeO.refl _)
   | (with_reducible exact LeO.none _)
   | (with_reducible refine LeO.ite ?_ ?_)
   | (with_reducible refine LeO.bind ?_ (fun _ => ?_))
   | exact ih0 _ _ _ _
   | exact ih1 _ _ _ _ _ _
   | exact ih2 _ _ _ _ _ _ _
   | exact impl_CountTriangulations_1.mono _ _ _ _ _
   | exact LeO.none _
   | refine LeO.ite ?_ ?_
   | refine LeO.bind ?_ (fun _ => ?_)
  ·intro y0 y1 y2 y3 y4 y5
   unfold impl_CountTriangulations_2.l0
   repeat' first
   | (with_reducible exact ih0 _ _ _ _)
   | (with_reducible exact ih1 _ _ _ _ _ _)
   | (with_reducible exact ih2 _ _ _ _ _ _ _)
   | (with_reducible exact impl_CountTriangulations_1.mono _ _ _ _ _)
   | (with_reducible exact LeO.refl _)
   | (with_reducible exact LeO.none _)
   | (with_reducible refine LeO.ite ?_ ?_)
   | (with_reducible refine LeO.bind ?_ (fun _ => ?_))
   | exact ih0 _ _ _ _
   | exact ih1 _ _ _ _ _ _
   | exact ih2 _ _ _ _ _ _ _
   | exact impl_CountTriangulations_1.mono _ _ _ _ _
   | exact LeO.none _
   | refine LeO.ite ?_ ?_
   | refine LeO.bind ?_ (fun _ => ?_)
  ·intro y0 y1 y2 y3 y4 y5 y6
   unfold impl_CountTriangulations_2.j1
   repeat' first
   | (with_reducible exact ih0 _ _ _ _)
   | (with_reducible exact ih1 _ _ _ _ _ _)
   | (with_reducible exact ih2 _ _ _ _ _ _ _)
   | (with_reducible exact impl_CountTriangulations_1.mono _ _ _ _ _)
   | (with_reducible exact LeO.refl _)
   | (with_reducible exact LeO.none _)
   | (with_reducible refine LeO.ite ?_ ?_)
   | (with_reducible refine LeO.bind ?_ (fun _ => ?_))
   | exact ih0 _ _ _ _
   | exact ih1 _ _ _ _ _ _
   | exact ih2 _ _ _ _ _ _ _
   | exact impl_CountTriangulations_1.mono _ _ _ _ _
   | exact LeO.none _
   | refine LeO.ite ?_ ?_
   | refine LeO.bind ?_ (fun _ => ?_)
theorem impl_CountTriangulations_2.mono : ∀ a0 a1 a2 a3 k, LeO (impl_CountTriangulations_2.f k a0 a1 a2 a3) (impl_CountTriangulations_2.f (k + 1) a0 a1 a2 a3) := by
 intro a0 a1 a2 a3 k
 obtain ⟨ih0, ih1, ih2⟩ := impl_CountTriangulations_2.mono_l k
 exact ih0 a0 a1 a2 a3
def impl_CountTriangulations_2.T7 : Bool × List (List Nat × List Nat) := (true, [([], []), ([], []), ([], []), ([0, 1, 2], [0, 1, 2]), ([3, 3], [3]), ([4], [4]), ([4], [4]), ([4], [4]), ([5, 6, 7, 4, 4], [4, 5, 6, 7]), ([4, 8], [4, 8]), ([9, 8], [9]), ([10], [10]), ([10], [10]), ([11, 12, 10], [10, 11, 12]), ([13, 10], [10, 13]), ([10], [10]), ([10], [10]), ([15, 16, 10], [10, 15, 16]), ([17, 10], [10, 17]), ([10], [10]), ([10], [10]), ([19, 20, 10], [10, 19, 20]), ([21, 10], [10, 21]), ([14, 18, 22, 10, 10], [10, 14, 18, 22]), ([23, 10], [10, 23]), ([10, 24], [10, 24])])
def impl_CountTriangulations_2.B7 : List Nat := [0, 0, 0, 7, 15, 31, 31, 31, 255, 511, 1023, 2047, 2047, 8191, 16383, 2047, 2047, 100351, 231423, 2047, 2047, 1574911, 3672063, 8388607, 16777215, 33554431]
theorem impl_CountTriangulations_2.tab7 : rtab .any (opsOf Try.f75 7) = impl_CountTriangulations_2.T7 := by kernel_rfl
theorem impl_CountTriangulations_2.bits7 : waitsOk impl_CountTriangulations_2.T7.2 impl_CountTriangulations_2.B7 = true := by kernel_rfl
def impl_CountTriangulations_2.T8 : Bool × List (List Nat × List Nat) := (true, [([], []), ([], []), ([], []), ([], []), ([1, 2, 3], [1, 2, 3]), ([], []), ([], []), ([], []), ([5, 6, 7, 4], [5, 6, 7]), ([4, 8], [4, 8]), ([0, 9], [0, 9]), ([10, 8, 0, 1, 2, 3, 4, 5, 6, 7, 8, 9, 10], [0, 10])])
def impl_CountTriangulations_2.B8 : List Nat := [0, 0, 0, 0, 14, 0, 0, 0, 254, 510, 1023, 2047]
theorem impl_CountTriangulations_2.tab8 : rtab .any (opsOf Try.f75 8) = impl_CountTriangulations_2.T8 := by kernel_rfl
theorem impl_CountTriangulations_2.bits8 : waitsOk impl_CountTriangulations_2.T8.2 impl_CountTriangulations_2.B8 = true := by kernel_rfl
set_option maxHeartbeats 8000000 in
set_option maxRecDepth 100000 in
theorem impl_CountTriangulations_2.calls (k : Nat) : ∀ (a0 : Int) (a1 : Int) (a2 : Int) (A3 : Option Addr) (c3 : Nat) (l3 : List (S27)) (r : Int) (w : World) (gj gp gc gn : Nat) (hgj : w.cell? ⟨gj, 0, none⟩ = some (.func (.func 73) #[] #[.pointer (some ⟨gn, 0, none⟩), .pointer (some ⟨gp, 0, none⟩)])) (hgp : w.cell? ⟨gp, 0, none⟩ = some (.slice A3 l3.length c3)) (hgc : w.cell? ⟨gc, 0, none⟩ = some (.func (.func 75) #[] #[.pointer (some ⟨gj, 0, none⟩), .pointer (some ⟨gp, 0, none⟩), .pointer (some ⟨gc, 0, none⟩)])) (hgn : w.cell? ⟨gn, 0, none⟩ = some (.int .i64 a2)) (hr3 : Kd.C k27 w A3 l3.length l3) (hc3 : l3.length ≤ c3) (h : impl_CountTriangulations_2.f k a0 a1 a2 l3 = some r),
  Calls Try.prog 75 #[.int .i64 a0, .int .i64 a1, .pointer (some ⟨gj, 0, none⟩), .pointer (some ⟨gp, 0, none⟩), .pointer (some ⟨gc, 0, none⟩)] w fun e w' => e = .returned (.int .i64 r) ∧ Below w.heap.size w w' := by
 induction k using Nat.strongRecOn with
 | _ k ih =>
 intro a0 a1 a2 A3 c3 l3 r w gj gp gc gn hgj hgp hgc hgn hr3 hc3 h
 cases k with
 | zero => exact absurd h (by simp [impl_CountTriangulations_2.f])
 | succ k =>
 simp only [impl_CountTriangulations_2.f] at h; have hu27 := Try.underlying27; have HR3 := Ak hr3; have HC3 := Ak hc3; clear hr3 hc3; have HB := Ak (Below.refl w.heap.size w); have H : (if a1 = (wrap64 (a0 + 1)) then (some 1) else (impl_CountTriangulations_2.l0 k a0 a1 a2 l3 0 (wrap64 (a0 + 1)))) = some r := h; clear h
 by_cases c5 : a1 = (wrap64 (a0 + 1))
 ·rw [if_pos c5] at H; have c5b0 : (a1 == (wrap64 (a0 + 1))) = true := beq_iff_eq.mpr c5; have c5b1 : (a1 != (wrap64 (a0 + 1))) = false := bne_eq_false_iff_eq.mpr c5; clear c5; obtain rfl := Option.some.inj H
  go_enter Try.func75, Try.ntmps75
  go_wp2
  go_ret
  exact ⟨by first | rfl | (simp [*, errW_none, errW_some] <;> rfl), by repeat (first | (with_reducible first | exact HB.out | apply bA | apply bD | apply bE) | exact HB.out)⟩
 ·rw [if_neg c5] at H; have c5b0 : (a1 == (wrap64 (a0 + 1))) = false := beq_eq_false_iff_ne.mpr c5; have c5b1 : (a1 != (wrap64 (a0 + 1))) = true := bne_iff_ne.mpr c5; have H' := Ak H; clear H
  go_enter Try.func75, Try.ntmps75
  go_wp2
  go_loopg [8, 9] k (fun kq v8 v9 w' => ∃ (x8_1 : Int) (x9_1 : Int), v8 = .int .i64 x8_1 ∧ v9 = .int .i64 x9_1 ∧ Aside0 (impl_CountTriangulations_2.l0 kq a0 a1 a2 l3 x8_1 x9_1 = some r) ∧ Aside0 (kq ≤ k) ∧ Aside0 (Below w.heap.size w w'))
  case atStart => exact ⟨(0), (wrap64 (a0 + 1)), (by first | rfl | (simp; done) | (simp [*]; done)), (by first | rfl | (simp; done) | (simp [*]; done)), H', ⟨Nat.le_refl _⟩, ⟨by repeat (first | (with_reducible first | exact HB.out | apply bA | apply bD | apply bE) | exact HB.out)⟩⟩
  case round =>
   clear H'
   try clear p2
   try clear c3
   try clear c5
   try clear c5b0
   try clear c5b1
   obtain ⟨x8_1, x9_1, rfl, rfl, HA, HK1, HB⟩ := hrel
   cases gk with
   | zero => exact absurd HA.out (by simp [impl_CountTriangulations_2.l0])
   | succ k1 =>
    have H := HA.out; clear HA; simp only [impl_CountTriangulations_2.l0] at H
    by_cases c6 : x9_1 < a1
    ·rw [if_pos c6] at H; have c6b0 : decide (x9_1 < a1) = true := decide_eq_true c6; clear c6; have HC7 := Ak H; clear H
     go_upto_region 7 with (fail)
     go_cut [46] (fun v46 wc => ∃ (kq : Nat) (x46_6 : Bool), v46 = .bool x46_6 ∧ Aside0 (impl_CountTriangulations_2.j1 kq a0 a1 a2 l3 x8_1 x9_1 x46_6 = some r) ∧ Aside0 (kq ≤ k1) ∧ Aside0 (Below w.heap.size w wc))
     case first =>
      have H := HC7.out; clear HC7; replace H := Option.bind_eq_some_iff.mp H; obtain ⟨t101, A80, H⟩ := H; replace H : (if t101 = true then ((impl_CountTriangulations_1.f k1 x9_1 a1 a2 l3).bind fun t102 => (if t102 = true then (if 0 ≤ a0 then (if a0 < (l3.length : Int) then (if 0 ≤ x9_1 then (if x9_1 < (l3.length : Int) then (if 0 ≤ a1 then (if a1 < (l3.length : Int) then ((impl_cross.f ((rd_T27 l3 a0).f0) ((rd_T27 l3 a0).f1) ((rd_T27 l3 x9_1).f0) ((rd_T27 l3 x9_1).f1) ((rd_T27 l3 a1).f0) ((rd_T27 l3 a1).f1)).bind fun t106 => (impl_CountTriangulations_2.j1 k1 a0 a1 a2 l3 x8_1 x9_1 (t106 != 0))) else (none)) else (none)) else (none)) else (none)) else (none)) else (none)) else (impl_CountTriangulations_2.j1 k1 a0 a1 a2 l3 x8_1 x9_1 false))) else (impl_CountTriangulations_2.j1 k1 a0 a1 a2 l3 x8_1 x9_1 false)) = some r := H; have A8 := Ak A80; clear A80
      by_cases c9 : t101 = true
      ·subst c9; have H1 : ((impl_CountTriangulations_1.f k1 x9_1 a1 a2 l3).bind fun t102 => (if t102 = true then (if 0 ≤ a0 then (if a0 < (l3.length : Int) then (if 0 ≤ x9_1 then (if x9_1 < (l3.length : Int) then (if 0 ≤ a1 then (if a1 < (l3.length : Int) then ((impl_cross.f ((rd_T27 l3 a0).f0) ((rd_T27 l3 a0).f1) ((rd_T27 l3 x9_1).f0) ((rd_T27 l3 x9_1).f1) ((rd_T27 l3 a1).f0) ((rd_T27 l3 a1).f1)).bind fun t106 => (impl_CountTriangulations_2.j1 k1 a0 a1 a2 l3 x8_1 x9_1 (t106 != 0))) else (none)) else (none)) else (none)) else (none)) else (none)) else (none)) else (impl_CountTriangulations_2.j1 k1 a0 a1 a2 l3 x8_1 x9_1 false))) = some r := by rw [if_pos rfl] at H; exact H
       clear H; have H := H1; clear H1; replace H := Option.bind_eq_some_iff.mp H; obtain ⟨t102, A100, H⟩ := H; replace H : (if t102 = true then (if 0 ≤ a0 then (if a0 < (l3.length : Int) then (if 0 ≤ x9_1 then (if x9_1 < (l3.length : Int) then (if 0 ≤ a1 then (if a1 < (l3.length : Int) then ((impl_cross.f ((rd_T27 l3 a0).f0) ((rd_T27 l3 a0).f1) ((rd_T27 l3 x9_1).f0) ((rd_T27 l3 x9_1).f1) ((rd_T27 l3 a1).f0) ((rd_T27 l3 a1).f1)).bind fun t106 => (impl_CountTriangulations_2.j1 k1 a0 a1 a2 l3 x8_1 x9_1 (t106 != 0))) else (none)) else (none)) else (none)) else (none)) else (none)) else (none)) else (impl_CountTriangulations_2.j1 k1 a0 a1 a2 l3 x8_1 x9_1 false)) = some r := H; have A10 := Ak A100; clear A100
       by_cases c11 : t102 = true
       ·subst c11; have H1 : (if 0 ≤ a0 then (if a0 < (l3.length : Int) then (if 0 ≤ x9_1 then (if x9_1 < (l3.length : Int) then (if 0 ≤ a1 then (if a1 < (l3.length : Int) then ((impl_cross.f ((rd_T27 l3 a0).f0) ((rd_T27 l3 a0).f1) ((rd_T27 l3 x9_1).f0) ((rd_T27 l3 x9_1).f1) ((rd_T27 l3 a1).f0) ((rd_T27 l3 a1).f1)).bind fun t106 => (impl_CountTriangulations_2.j1 k1 a0 a1 a2 l3 x8_1 x9_1 (t106 != 0))) else (none)) else (none)) else (none)) else (none)) else (none)) else (none)) = some r := by rw [if_pos rfl] at H; exact H
        clear H; have H := H1; clear H1
        by_cases c12 : 0 ≤ a0
        ·rw [if_pos c12] at H; have c12b0 : decide (0 ≤ a0) = true := decide_eq_true c12; clear c12
         (first | rw [c12b0] | (simp only [i64_w, i32_w]; rw [c12b0]) | skip)
         by_cases c13 : a0 < (l3.length : Int)
         ·rw [if_pos c13] at H; have c13b0 : decide (a0 < (l3.length : Int)) = true := decide_eq_true c13; clear c13
          by_cases c14 : 0 ≤ x9_1
          ·rw [if_pos c14] at H; have c14b0 : decide (0 ≤ x9_1) = true := decide_eq_true c14; clear c14
           by_cases c15 : x9_1 < (l3.length : Int)
           ·rw [if_pos c15] at H; have c15b0 : decide (x9_1 < (l3.length : Int)) = true := decide_eq_true c15; clear c15
            by_cases c16 : 0 ≤ a1
            ·rw [if_pos c16] at H; have c16b0 : decide (0 ≤ a1) = true := decide_eq_true c16; clear c16
             by_cases c17 : a1 < (l3.length : Int)
             ·rw [if_pos c17] at H; have c17b0 : decide (a1 < (l3.length : Int)) = true := decide_eq_true c17; clear c17; replace H := Option.bind_eq_some_iff.mp H; obtain ⟨t106, A180, H⟩ := H; replace H : (impl_CountTriangulations_2.j1 k1 a0 a1 a2 l3 x8_1 x9_1 (t106 != 0)) = some r := H; have A18 := Ak A180; clear A180; have H' := Ak H; clear H
              try go_wp2
              have n0_ := Ak (below_drew1 HB.out); clear HB; have HB := n0_; clear n0_; have p103 : 0 ≤ (a0 : Int) := of_decide_eq_true (by first | (with_reducible assumption) | assumption); have q103 : a0 < (l3.length : Int) := of_decide_eq_true (by first | (with_reducible assumption) | assumption); obtain ⟨ad103, e103, hx103_0, hx103_1⟩ := at_T27 HR3.out a0 p103 q103; have hw103_1 := hx103_1; have hw103_0 := hx103_0; cases e103; replace hx103_0 := cB HB.out hx103_0; replace hx103_1 := cB HB.out hx103_1; replace p103 := eq_true p103; replace q103 := eq_true q103; have p104 : 0 ≤ (x9_1 : Int) := of_decide_eq_true (by first | (with_reducible assumption) | assumption); have q104 : x9_1 < (l3.length : Int) := of_decide_eq_true (by first | (with_reducible assumption) | assumption); obtain ⟨ad104, e104, hx104_0, hx104_1⟩ := at_T27 HR3.out x9_1 p104 q104; have hw104_1 := hx104_1; have hw104_0 := hx104_0; obtain rfl : ad103 = ad104 := (by injection e104); replace hx104_0 := cB HB.out hx104_0; replace hx104_1 := cB HB.out hx104_1; replace p104 := eq_true p104; replace q104 := eq_true q104; have p105 : 0 ≤ (a1 : Int) := of_decide_eq_true (by first | (with_reducible assumption) | assumption); have q105 : a1 < (l3.length : Int) := of_decide_eq_true (by first | (with_reducible assumption) | assumption); obtain ⟨ad105, e105, hx105_0, hx105_1⟩ := at_T27 HR3.out a1 p105 q105; have hw105_1 := hx105_1; have hw105_0 := hx105_0; obtain rfl : ad103 = ad105 := (by injection e105); replace hx105_0 := cB HB.out hx105_0; replace hx105_1 := cB HB.out hx105_1; replace p105 := eq_true p105; replace q105 := eq_true q105; refine start_ (n := 26) (S := fun w' => w'.cell? ⟨gj, 0, none⟩ = some (.func (.func 73) #[] #[.pointer (some ⟨gn, 0, none⟩), .pointer (some ⟨gp, 0, none⟩)]) ∧ w'.cell? ⟨gp, 0, none⟩ = some (.slice (some ad103) l3.length c3) ∧ w'.cell? ⟨gc, 0, none⟩ = some (.func (.func 75) #[] #[.pointer (some ⟨gj, 0, none⟩), .pointer (some ⟨gp, 0, none⟩), .pointer (some ⟨gc, 0, none⟩)]) ∧ w'.cell? (ad103.add ((a0).toNat * 2)) = some (.int .i64 ((rd_T27 l3 a0).f0)) ∧ w'.cell? ⟨(ad103.add ((a0).toNat * 2)).block, (ad103.add ((a0).toNat * 2)).off + 1, none⟩ = some (.int .i64 ((rd_T27 l3 a0).f1)) ∧ w'.cell? (ad103.add ((x9_1).toNat * 2)) = some (.int .i64 ((rd_T27 l3 x9_1).f0)) ∧ w'.cell? ⟨(ad103.add ((x9_1).toNat * 2)).block, (ad103.add ((x9_1).toNat * 2)).off + 1, none⟩ = some (.int .i64 ((rd_T27 l3 x9_1).f1)) ∧ w'.cell? (ad103.add ((a1).toNat * 2)) = some (.int .i64 ((rd_T27 l3 a1).f0)) ∧ w'.cell? ⟨(ad103.add ((a1).toNat * 2)).block, (ad103.add ((a1).toNat * 2)).off + 1, none⟩ = some (.int .i64 ((rd_T27 l3 a1).f1))) (ds := []) #[F,F,F,F,F,F,F,F,F,F,F,F,F,F,F,F,F,F,F,F,F,F,F,F,F,F] (by kernel_rfl) rfl rfl ⟨((HB.out.cell (World.block_lt_of_cell? w _ hgj)).trans hgj), ((HB.out.cell (World.block_lt_of_cell? w _ hgp)).trans hgp), ((HB.out.cell (World.block_lt_of_cell? w _ hgc)).trans hgc), ((HB.out.cell (World.block_lt_of_cell? w _ hw103_0)).trans hw103_0), ((HB.out.cell (World.block_lt_of_cell? w _ hw103_1)).trans hw103_1), ((HB.out.cell (World.block_lt_of_cell? w _ hw104_0)).trans hw104_0), ((HB.out.cell (World.block_lt_of_cell? w _ hw104_1)).trans hw104_1), ((HB.out.cell (World.block_lt_of_cell? w _ hw105_0)).trans hw105_0), ((HB.out.cell (World.block_lt_of_cell? w _ hw105_1)).trans hw105_1)⟩ (fun hHeld => ?_); refine with_tabW impl_CountTriangulations_2.tab7 impl_CountTriangulations_2.bits7 (fun HT_ HW_ => ?_); generalize wr.drew = w19 at HB hx103_0 hx103_1 hx104_0 hx104_1 hx105_0 hx105_1 hHeld ⊢; refine take_ (i := 0) (N := some 21) (v := ?_) (a' := ?_) #[T,F,F,F,F,F,F,F,F,F,F,F,F,F,F,F,F,F,F,F,F,F,F,F,F,F] rfl rfl (take_ofW HT_.out HW_.out (by kernel_rfl)) (fun _ _ _ h => h) (Or.inl ⟨by rfl, ?_⟩) hHeld ?_ ?_; rotate_left
              ·rintro w' ⟨sj, sp, sc, _⟩; go_simp; with_reducible rfl
              rotate_left
              ·simp only [Act.put, sA, sB, sC, sD, sE]; rfl
              refine pure_ (i := 1) (N := some 22) (v := ?_) (a' := ?_) #[T,T,F,F,F,F,F,F,F,F,F,F,F,F,F,F,F,F,F,F,F,F,F,F,F,F] rfl rfl (any_of HT_.out (by kernel_rfl)) (fun _ _ _ h => h) (Or.inl ⟨by rfl, ?_⟩) ?_ ?_; rotate_left
              ·intro w'; go_simp; with_reducible rfl
              rotate_left
              ·simp only [Act.put, sA, sB, sC, sD, sE]; rfl
              refine pure_ (i := 2) (N := some 23) (v := ?_) (a' := ?_) #[T,T,T,F,F,F,F,F,F,F,F,F,F,F,F,F,F,F,F,F,F,F,F,F,F,F] rfl rfl (any_of HT_.out (by kernel_rfl)) (fun _ _ _ h => h) (Or.inl ⟨by rfl, ?_⟩) ?_ ?_; rotate_left
              ·intro w'; go_simp; with_reducible rfl
              rotate_left
              ·simp only [Act.put, sA, sB, sC, sD, sE]; rfl
              refine one_ (i := 3) (N := some 24) #[T,T,T,T,F,F,F,F,F,F,F,F,F,F,F,F,F,F,F,F,F,F,F,F,F,F] rfl rfl (one_of HT_.out (by kernel_rfl)) (by decide) (fun K hK => ?_); refine call_ 73 #[.int .i64 a0, .int .i64 x9_1, .pointer (some ⟨gn, 0, none⟩), .pointer (some ⟨gp, 0, none⟩)] (by rfl) rfl (by first | rfl | (go_simp; done) | (go_simp; rfl)) ?_
              with_reducible refine (impl_CountTriangulations_1.calls k1 a0 x9_1 a2 _ _ l3 true _ gn gp (by have hq_ := (HB.out.cell (World.block_lt_of_cell? _ _ hgn)).trans hgn; first | exact hq_ | simpa using hq_) (by have hq_ := (HB.out.cell (World.block_lt_of_cell? _ _ hgp)).trans hgp; first | exact hq_ | simpa using hq_) ?side1 ?side2 A8.out).mono ?_
              (case side1 => repeat (first | exact (Kd.C_below HR3.out HB.out) | (with_reducible refine Kd.C_alloc ?_ _) | (with_reducible refine Kd.C_drewN ?_ _) | (with_reducible refine Kd.C_drew ?_)))
              (case side2 => exact HC3.out)
              rintro e w20 ⟨rfl, hb⟩; refine ⟨_, rfl, ?_⟩; have n0_ := Ak (below_step (by repeat (first | exact HB.out | apply bA | apply bD | apply bE)) hb); clear HB; have HB := n0_; clear n0_; (try clear hb); (try clear hb2); (try clear hk); (try clear hi); refine hK.out _ _ ⟨((HB.out.cell (World.block_lt_of_cell? w _ hgj)).trans hgj), ((HB.out.cell (World.block_lt_of_cell? w _ hgp)).trans hgp), ((HB.out.cell (World.block_lt_of_cell? w _ hgc)).trans hgc), ((HB.out.cell (World.block_lt_of_cell? w _ hw103_0)).trans hw103_0), ((HB.out.cell (World.block_lt_of_cell? w _ hw103_1)).trans hw103_1), ((HB.out.cell (World.block_lt_of_cell? w _ hw104_0)).trans hw104_0), ((HB.out.cell (World.block_lt_of_cell? w _ hw104_1)).trans hw104_1), ((HB.out.cell (World.block_lt_of_cell? w _ hw105_0)).trans hw105_0), ((HB.out.cell (World.block_lt_of_cell? w _ hw105_1)).trans hw105_1)⟩ (fun hHeld => ?_); clear hK K; refine norm_ (a' := ?_) ?_ ?_; rotate_left
              ·show Act.put _ (some 24) _ = _; simp only [Act.put, sA, sB, sC, sD, sE]; rfl
              refine pure_ (i := 4) (N := some 25) (v := ?_) (a' := ?_) #[T,T,T,T,T,F,F,F,F,F,F,F,F,F,F,F,F,F,F,F,F,F,F,F,F,F] rfl rfl (any_of HT_.out (by kernel_rfl)) (fun _ _ _ h => h) (Or.inl ⟨by rfl, ?_⟩) ?_ ?_; rotate_left
              ·intro w'; go_simp; with_reducible rfl
              rotate_left
              ·simp only [Act.put, sA, sB, sC, sD, sE]; rfl
              refine take_ (i := 5) (N := some 26) (v := ?_) (a' := ?_) #[T,T,T,T,T,T,F,F,F,F,F,F,F,F,F,F,F,F,F,F,F,F,F,F,F,F] rfl rfl (take_ofW HT_.out HW_.out (by kernel_rfl)) (fun _ _ _ h => h) (Or.inl ⟨by rfl, ?_⟩) hHeld ?_ ?_; rotate_left
              ·rintro w' ⟨sj, sp, sc, _⟩; go_simp; with_reducible rfl
              rotate_left
              ·simp only [Act.put, sA, sB, sC, sD, sE]; rfl
              refine pure_ (i := 6) (N := some 27) (v := ?_) (a' := ?_) #[T,T,T,T,T,T,T,F,F,F,F,F,F,F,F,F,F,F,F,F,F,F,F,F,F,F] rfl rfl (any_of HT_.out (by kernel_rfl)) (fun _ _ _ h => h) (Or.inl ⟨by rfl, ?_⟩) ?_ ?_; rotate_left
              ·intro w'; go_simp; with_reducible rfl
              rotate_left
              ·simp only [Act.put, sA, sB, sC, sD, sE]; rfl
              refine pure_ (i := 7) (N := some 28) (v := ?_) (a' := ?_) #[T,T,T,T,T,T,T,T,F,F,F,F,F,F,F,F,F,F,F,F,F,F,F,F,F,F] rfl rfl (any_of HT_.out (by kernel_rfl)) (fun _ _ _ h => h) (Or.inl ⟨by rfl, ?_⟩) ?_ ?_; rotate_left
              ·intro w'; go_simp; with_reducible rfl
              rotate_left
              ·simp only [Act.put, sA, sB, sC, sD, sE]; rfl
              refine one_ (i := 8) (N := some 29) #[T,T,T,T,T,T,T,T,T,F,F,F,F,F,F,F,F,F,F,F,F,F,F,F,F,F] rfl rfl (one_of HT_.out (by kernel_rfl)) (by decide) (fun K hK => ?_); refine call_ 73 #[.int .i64 x9_1, .int .i64 a1, .pointer (some ⟨gn, 0, none⟩), .pointer (some ⟨gp, 0, none⟩)] (by rfl) rfl (by first | rfl | (go_simp; done) | (go_simp; rfl)) ?_
              with_reducible refine (impl_CountTriangulations_1.calls k1 x9_1 a1 a2 _ _ l3 true _ gn gp (by have hq_ := (HB.out.cell (World.block_lt_of_cell? _ _ hgn)).trans hgn; first | exact hq_ | simpa using hq_) (by have hq_ := (HB.out.cell (World.block_lt_of_cell? _ _ hgp)).trans hgp; first | exact hq_ | simpa using hq_) ?side1 ?side2 A10.out).mono ?_
              (case side1 => repeat (first | exact (Kd.C_below HR3.out HB.out) | (with_reducible refine Kd.C_alloc ?_ _) | (with_reducible refine Kd.C_drewN ?_ _) | (with_reducible refine Kd.C_drew ?_)))
              (case side2 => exact HC3.out)
              rintro e w21 ⟨rfl, hb⟩; refine ⟨_, rfl, ?_⟩; have n0_ := Ak (below_step (by repeat (first | exact HB.out | apply bA | apply bD | apply bE)) hb); clear HB; have HB := n0_; clear n0_; (try clear hb); (try clear hb2); (try clear hk); (try clear hi); refine hK.out _ _ ⟨((HB.out.cell (World.block_lt_of_cell? w _ hgj)).trans hgj), ((HB.out.cell (World.block_lt_of_cell? w _ hgp)).trans hgp), ((HB.out.cell (World.block_lt_of_cell? w _ hgc)).trans hgc), ((HB.out.cell (World.block_lt_of_cell? w _ hw103_0)).trans hw103_0), ((HB.out.cell (World.block_lt_of_cell? w _ hw103_1)).trans hw103_1), ((HB.out.cell (World.block_lt_of_cell? w _ hw104_0)).trans hw104_0), ((HB.out.cell (World.block_lt_of_cell? w _ hw104_1)).trans hw104_1), ((HB.out.cell (World.block_lt_of_cell? w _ hw105_0)).trans hw105_0), ((HB.out.cell (World.block_lt_of_cell? w _ hw105_1)).trans hw105_1)⟩ (fun hHeld => ?_); clear hK K; refine norm_ (a' := ?_) ?_ ?_; rotate_left
              ·show Act.put _ (some 29) _ = _; simp only [Act.put, sA, sB, sC, sD, sE]; rfl
              refine pure_ (i := 9) (N := some 30) (v := ?_) (a' := ?_) #[T,T,T,T,T,T,T,T,T,T,F,F,F,F,F,F,F,F,F,F,F,F,F,F,F,F] rfl rfl (any_of HT_.out (by kernel_rfl)) (fun _ _ _ h => h) (Or.inl ⟨by rfl, ?_⟩) ?_ ?_; rotate_left
              ·intro w'; go_simp; with_reducible rfl
              rotate_left
              ·simp only [Act.put, sA, sB, sC, sD, sE]; rfl
              refine pure_ (i := 10) (N := some 31) (v := ?_) (a' := ?_) #[T,T,T,T,T,T,T,T,T,T,T,F,F,F,F,F,F,F,F,F,F,F,F,F,F,F] rfl rfl (any_of HT_.out (by kernel_rfl)) (fun _ _ _ h => h) (Or.inl ⟨by rfl, ?_⟩) ?_ ?_; rotate_left
              ·intro w'; go_simp; with_reducible rfl
              rotate_left
              ·simp only [Act.put, sA, sB, sC, sD, sE]; rfl
              refine take_ (i := 11) (N := some 32) (v := ?_) (a' := ?_) #[T,T,T,T,T,T,T,T,T,T,T,T,F,F,F,F,F,F,F,F,F,F,F,F,F,F] rfl rfl (take_ofW HT_.out HW_.out (by kernel_rfl)) (fun _ _ _ h => h) (Or.inl ⟨by rfl, ?_⟩) hHeld ?_ ?_; rotate_left
              ·rintro w' ⟨sj, sp, sc, _⟩; go_simp; with_reducible rfl
              rotate_left
              ·simp only [Act.put, sA, sB, sC, sD, sE]; rfl
              refine pure_ (i := 12) (N := some 33) (v := ?_) (a' := ?_) #[T,T,T,T,T,T,T,T,T,T,T,T,T,F,F,F,F,F,F,F,F,F,F,F,F,F] rfl rfl (any_of HT_.out (by kernel_rfl)) (fun _ _ _ h => h) (Or.inl ⟨by rfl, ?_⟩) ?_ ?_; rotate_left
              ·intro w'; go_simp; with_reducible rfl
              rotate_left
              ·simp only [Act.put, sA, sB, sC, sD, sE]; rfl
              refine pure_ (i := 13) (N := some 34) (v := ?_) (a' := ?_) #[T,T,T,T,T,T,T,T,T,T,T,T,T,T,F,F,F,F,F,F,F,F,F,F,F,F] rfl rfl (any_of HT_.out (by kernel_rfl)) (fun _ _ _ h => h) (Or.inl ⟨by rfl, ?_⟩) ?_ ?_; rotate_left
              ·intro w'; go_simp; with_reducible rfl
              rotate_left
              ·simp only [Act.put, sA, sB, sC, sD, sE]; rfl
              refine take_ (i := 15) (N := some 36) (v := ?_) (a' := ?_) #[T,T,T,T,T,T,T,T,T,T,T,T,T,T,F,T,F,F,F,F,F,F,F,F,F,F] rfl rfl (take_ofW HT_.out HW_.out (by kernel_rfl)) (fun _ _ _ h => h) (Or.inl ⟨by rfl, ?_⟩) hHeld ?_ ?_; rotate_left
              ·rintro w' ⟨sj, sp, sc, _⟩; go_simp; with_reducible rfl
              rotate_left
              ·simp only [Act.put, sA, sB, sC, sD, sE]; rfl
              refine pure_ (i := 16) (N := some 37) (v := ?_) (a' := ?_) #[T,T,T,T,T,T,T,T,T,T,T,T,T,T,F,T,T,F,F,F,F,F,F,F,F,F] rfl rfl (any_of HT_.out (by kernel_rfl)) (fun _ _ _ h => h) (Or.inl ⟨by rfl, ?_⟩) ?_ ?_; rotate_left
              ·intro w'; go_simp; with_reducible rfl
              rotate_left
              ·simp only [Act.put, sA, sB, sC, sD, sE]; rfl
              refine pure_ (i := 17) (N := some 38) (v := ?_) (a' := ?_) #[T,T,T,T,T,T,T,T,T,T,T,T,T,T,F,T,T,T,F,F,F,F,F,F,F,F] rfl rfl (any_of HT_.out (by kernel_rfl)) (fun _ _ _ h => h) (Or.inl ⟨by rfl, ?_⟩) ?_ ?_; rotate_left
              ·intro w'; go_simp; with_reducible rfl
              rotate_left
              ·simp only [Act.put, sA, sB, sC, sD, sE]; rfl
              refine take_ (i := 19) (N := some 40) (v := ?_) (a' := ?_) #[T,T,T,T,T,T,T,T,T,T,T,T,T,T,F,T,T,T,F,T,F,F,F,F,F,F] rfl rfl (take_ofW HT_.out HW_.out (by kernel_rfl)) (fun _ _ _ h => h) (Or.inl ⟨by rfl, ?_⟩) hHeld ?_ ?_; rotate_left
              ·rintro w' ⟨sj, sp, sc, _⟩; go_simp; with_reducible rfl
              rotate_left
              ·simp only [Act.put, sA, sB, sC, sD, sE]; rfl
              refine pure_ (i := 20) (N := some 41) (v := ?_) (a' := ?_) #[T,T,T,T,T,T,T,T,T,T,T,T,T,T,F,T,T,T,F,T,T,F,F,F,F,F] rfl rfl (any_of HT_.out (by kernel_rfl)) (fun _ _ _ h => h) (Or.inl ⟨by rfl, ?_⟩) ?_ ?_; rotate_left
              ·intro w'; go_simp; with_reducible rfl
              rotate_left
              ·simp only [Act.put, sA, sB, sC, sD, sE]; rfl
              refine pure_ (i := 21) (N := some 42) (v := ?_) (a' := ?_) #[T,T,T,T,T,T,T,T,T,T,T,T,T,T,F,T,T,T,F,T,T,T,F,F,F,F] rfl rfl (any_of HT_.out (by kernel_rfl)) (fun _ _ _ h => h) (Or.inl ⟨by rfl, ?_⟩) ?_ ?_; rotate_left
              ·intro w'; go_simp; with_reducible rfl
              rotate_left
              ·simp only [Act.put, sA, sB, sC, sD, sE]; rfl
              refine take_ (i := 14) (N := some 35) (v := ?_) (a' := ?_) #[T,T,T,T,T,T,T,T,T,T,T,T,T,T,T,T,T,T,F,T,T,T,F,F,F,F] rfl rfl (take_ofW HT_.out HW_.out (by kernel_rfl)) (fun _ _ _ h => h) (Or.inl ⟨by rfl, ?_⟩) hHeld ?_ ?_; rotate_left
              ·rintro w' ⟨sj, sp, sc, s0, s1, s2, s3, s4, s5⟩; go_simp; with_reducible rfl
              rotate_left
              ·simp only [Act.put, sA, sB, sC, sD, sE]; rfl
              refine take_ (i := 18) (N := some 39) (v := ?_) (a' := ?_) #[T,T,T,T,T,T,T,T,T,T,T,T,T,T,T,T,T,T,T,T,T,T,F,F,F,F] rfl rfl (take_ofW HT_.out HW_.out (by kernel_rfl)) (fun _ _ _ h => h) (Or.inl ⟨by rfl, ?_⟩) hHeld ?_ ?_; rotate_left
              ·rintro w' ⟨sj, sp, sc, s0, s1, s2, s3, s4, s5⟩; go_simp; with_reducible rfl
              rotate_left
              ·simp only [Act.put, sA, sB, sC, sD, sE]; rfl
              refine take_ (i := 22) (N := some 43) (v := ?_) (a' := ?_) #[T,T,T,T,T,T,T,T,T,T,T,T,T,T,T,T,T,T,T,T,T,T,T,F,F,F] rfl rfl (take_ofW HT_.out HW_.out (by kernel_rfl)) (fun _ _ _ h => h) (Or.inl ⟨by rfl, ?_⟩) hHeld ?_ ?_; rotate_left
              ·rintro w' ⟨sj, sp, sc, s0, s1, s2, s3, s4, s5⟩; go_simp; with_reducible rfl
              rotate_left
              ·simp only [Act.put, sA, sB, sC, sD, sE]; rfl
              refine one_ (i := 23) (N := some 44) #[T,T,T,T,T,T,T,T,T,T,T,T,T,T,T,T,T,T,T,T,T,T,T,T,F,F] rfl rfl (one_of HT_.out (by kernel_rfl)) (by decide) (fun K hK => ?_); refine goes_ Try.func66 (by kernel_rfl) rfl #[.agg #[.int .i64 ((rd_T27 l3 a0).f0), .int .i64 ((rd_T27 l3 a0).f1)], .agg #[.int .i64 ((rd_T27 l3 x9_1).f0), .int .i64 ((rd_T27 l3 x9_1).f1)], .agg #[.int .i64 ((rd_T27 l3 a1).f0), .int .i64 ((rd_T27 l3 a1).f1)]] (by rfl) rfl rfl (by (try simp only [List.map_toArray, List.map_cons, List.map_nil]); first | done | rfl | (simp only [List.length_drop, List.length_take]; rfl)) ?_
              with_reducible refine (impl_cross.calls ((rd_T27 l3 a0).f0) ((rd_T27 l3 a0).f1) ((rd_T27 l3 x9_1).f0) ((rd_T27 l3 x9_1).f1) ((rd_T27 l3 a1).f0) ((rd_T27 l3 a1).f1) t106 _ A18.out).mono ?_
              rintro e w22 ⟨rfl, hb⟩; refine ⟨_, rfl, ?_⟩; have n0_ := Ak (below_step (by repeat (first | exact HB.out | apply bA | apply bD | apply bE)) hb); clear HB; have HB := n0_; clear n0_; (try clear hb); (try clear hb2); (try clear hk); (try clear hi); refine hK.out _ _ ⟨((HB.out.cell (World.block_lt_of_cell? w _ hgj)).trans hgj), ((HB.out.cell (World.block_lt_of_cell? w _ hgp)).trans hgp), ((HB.out.cell (World.block_lt_of_cell? w _ hgc)).trans hgc), ((HB.out.cell (World.block_lt_of_cell? w _ hw103_0)).trans hw103_0), ((HB.out.cell (World.block_lt_of_cell? w _ hw103_1)).trans hw103_1), ((HB.out.cell (World.block_lt_of_cell? w _ hw104_0)).trans hw104_0), ((HB.out.cell (World.block_lt_of_cell? w _ hw104_1)).trans hw104_1), ((HB.out.cell (World.block_lt_of_cell? w _ hw105_0)).trans hw105_0), ((HB.out.cell (World.block_lt_of_cell? w _ hw105_1)).trans hw105_1)⟩ (fun hHeld => ?_); clear hK K; refine norm_ (a' := ?_) ?_ ?_; rotate_left
              ·show Act.put _ (some 44) _ = _; simp only [Act.put, sA, sB, sC, sD, sE]; rfl
              refine pure_ (i := 24) (N := some 45) (v := ?_) (a' := ?_) #[T,T,T,T,T,T,T,T,T,T,T,T,T,T,T,T,T,T,T,T,T,T,T,T,T,F] rfl rfl (any_of HT_.out (by kernel_rfl)) (fun _ _ _ h => h) (Or.inl ⟨by rfl, ?_⟩) ?_ ?_; rotate_left
              ·intro w'; go_simp; with_reducible rfl
              rotate_left
              ·simp only [Act.put, sA, sB, sC, sD, sE]; rfl
              refine pure_ (i := 25) (N := some 46) (v := ?_) (a' := ?_) #[T,T,T,T,T,T,T,T,T,T,T,T,T,T,T,T,T,T,T,T,T,T,T,T,T,T] rfl rfl (any_of HT_.out (by kernel_rfl)) (fun _ _ _ h => h) (Or.inl ⟨by rfl, ?_⟩) ?_ ?_; rotate_left
              ·intro w'; go_simp; with_reducible rfl
              rotate_left
              ·simp only [Act.put, sA, sB, sC, sD, sE]; rfl
              refine done_ (done_of HT_.out (by kernel_rfl)) ?_
              try go_wp2
              go_meet
              case rel => exact ⟨_, ((t106 != 0)), (by first | rfl | (simp; done) | (simp [*]; done)), H', ⟨by have := HK1.out; first | omega | exact Nat.le_refl _⟩, ⟨by repeat (first | (with_reducible first | exact HB.out | apply bA | apply bD | apply bE) | exact HB.out)⟩⟩
             ·rw [if_neg c17] at H; exact absurd H (by simp)
            ·rw [if_neg c16] at H; exact absurd H (by simp)
           ·rw [if_neg c15] at H; exact absurd H (by simp)
          ·rw [if_neg c14] at H; exact absurd H (by simp)
         ·rw [if_neg c13] at H; exact absurd H (by simp)
        ·rw [if_neg c12] at H; exact absurd H (by simp)
       ·replace c11 := Bool.eq_false_iff.mpr c11; subst c11; have H1 : (impl_CountTriangulations_2.j1 k1 a0 a1 a2 l3 x8_1 x9_1 false) = some r := by rw [if_neg (show ¬ (false = true) by decide)] at H; exact H
        clear H; have H := H1; clear H1; have H' := Ak H; clear H
        try go_wp2
        have n0_ := Ak (below_drew1 HB.out); clear HB; have HB := n0_; clear n0_; refine start_ (n := 26) (S := fun w' => w'.cell? ⟨gj, 0, none⟩ = some (.func (.func 73) #[] #[.pointer (some ⟨gn, 0, none⟩), .pointer (some ⟨gp, 0, none⟩)]) ∧ w'.cell? ⟨gp, 0, none⟩ = some (.slice A3 l3.length c3) ∧ w'.cell? ⟨gc, 0, none⟩ = some (.func (.func 75) #[] #[.pointer (some ⟨gj, 0, none⟩), .pointer (some ⟨gp, 0, none⟩), .pointer (some ⟨gc, 0, none⟩)]) ∧ True) (ds := []) #[F,F,F,F,F,F,F,F,F,F,F,F,F,F,F,F,F,F,F,F,F,F,F,F,F,F] (by kernel_rfl) rfl rfl ⟨((HB.out.cell (World.block_lt_of_cell? w _ hgj)).trans hgj), ((HB.out.cell (World.block_lt_of_cell? w _ hgp)).trans hgp), ((HB.out.cell (World.block_lt_of_cell? w _ hgc)).trans hgc), trivial⟩ (fun hHeld => ?_); refine with_tabW impl_CountTriangulations_2.tab7 impl_CountTriangulations_2.bits7 (fun HT_ HW_ => ?_); generalize wr.drew = w23 at HB hHeld ⊢; refine take_ (i := 0) (N := some 21) (v := ?_) (a' := ?_) #[T,F,F,F,F,F,F,F,F,F,F,F,F,F,F,F,F,F,F,F,F,F,F,F,F,F] rfl rfl (take_ofW HT_.out HW_.out (by kernel_rfl)) (fun _ _ _ h => h) (Or.inl ⟨by rfl, ?_⟩) hHeld ?_ ?_; rotate_left
        ·rintro w' ⟨sj, sp, sc, _⟩; go_simp; with_reducible rfl
        rotate_left
        ·simp only [Act.put, sA, sB, sC, sD, sE]; rfl
        refine pure_ (i := 1) (N := some 22) (v := ?_) (a' := ?_) #[T,T,F,F,F,F,F,F,F,F,F,F,F,F,F,F,F,F,F,F,F,F,F,F,F,F] rfl rfl (any_of HT_.out (by kernel_rfl)) (fun _ _ _ h => h) (Or.inl ⟨by rfl, ?_⟩) ?_ ?_; rotate_left
        ·intro w'; go_simp; with_reducible rfl
        rotate_left
        ·simp only [Act.put, sA, sB, sC, sD, sE]; rfl
        refine pure_ (i := 2) (N := some 23) (v := ?_) (a' := ?_) #[T,T,T,F,F,F,F,F,F,F,F,F,F,F,F,F,F,F,F,F,F,F,F,F,F,F] rfl rfl (any_of HT_.out (by kernel_rfl)) (fun _ _ _ h => h) (Or.inl ⟨by rfl, ?_⟩) ?_ ?_; rotate_left
        ·intro w'; go_simp; with_reducible rfl
        rotate_left
        ·simp only [Act.put, sA, sB, sC, sD, sE]; rfl
        refine one_ (i := 3) (N := some 24) #[T,T,T,T,F,F,F,F,F,F,F,F,F,F,F,F,F,F,F,F,F,F,F,F,F,F] rfl rfl (one_of HT_.out (by kernel_rfl)) (by decide) (fun K hK => ?_); refine call_ 73 #[.int .i64 a0, .int .i64 x9_1, .pointer (some ⟨gn, 0, none⟩), .pointer (some ⟨gp, 0, none⟩)] (by rfl) rfl (by first | rfl | (go_simp; done) | (go_simp; rfl)) ?_
        with_reducible refine (impl_CountTriangulations_1.calls k1 a0 x9_1 a2 _ _ l3 true _ gn gp (by have hq_ := (HB.out.cell (World.block_lt_of_cell? _ _ hgn)).trans hgn; first | exact hq_ | simpa using hq_) (by have hq_ := (HB.out.cell (World.block_lt_of_cell? _ _ hgp)).trans hgp; first | exact hq_ | simpa using hq_) ?side1 ?side2 A8.out).mono ?_
        (case side1 => repeat (first | exact (Kd.C_below HR3.out HB.out) | (with_reducible refine Kd.C_alloc ?_ _) | (with_reducible refine Kd.C_drewN ?_ _) | (with_reducible refine Kd.C_drew ?_)))
        (case side2 => exact HC3.out)
        rintro e w24 ⟨rfl, hb⟩; refine ⟨_, rfl, ?_⟩; have n0_ := Ak (below_step (by repeat (first | exact HB.out | apply bA | apply bD | apply bE)) hb); clear HB; have HB := n0_; clear n0_; (try clear hb); (try clear hb2); (try clear hk); (try clear hi); refine hK.out _ _ ⟨((HB.out.cell (World.block_lt_of_cell? w _ hgj)).trans hgj), ((HB.out.cell (World.block_lt_of_cell? w _ hgp)).trans hgp), ((HB.out.cell (World.block_lt_of_cell? w _ hgc)).trans hgc), trivial⟩ (fun hHeld => ?_); clear hK K; refine norm_ (a' := ?_) ?_ ?_; rotate_left
        ·show Act.put _ (some 24) _ = _; simp only [Act.put, sA, sB, sC, sD, sE]; rfl
        refine pure_ (i := 4) (N := some 25) (v := ?_) (a' := ?_) #[T,T,T,T,T,F,F,F,F,F,F,F,F,F,F,F,F,F,F,F,F,F,F,F,F,F] rfl rfl (any_of HT_.out (by kernel_rfl)) (fun _ _ _ h => h) (Or.inl ⟨by rfl, ?_⟩) ?_ ?_; rotate_left
        ·intro w'; go_simp; with_reducible rfl
        rotate_left
        ·simp only [Act.put, sA, sB, sC, sD, sE]; rfl
        refine take_ (i := 5) (N := some 26) (v := ?_) (a' := ?_) #[T,T,T,T,T,T,F,F,F,F,F,F,F,F,F,F,F,F,F,F,F,F,F,F,F,F] rfl rfl (take_ofW HT_.out HW_.out (by kernel_rfl)) (fun _ _ _ h => h) (Or.inl ⟨by rfl, ?_⟩) hHeld ?_ ?_; rotate_left
        ·rintro w' ⟨sj, sp, sc, _⟩; go_simp; with_reducible rfl
        rotate_left
        ·simp only [Act.put, sA, sB, sC, sD, sE]; rfl
        refine pure_ (i := 6) (N := some 27) (v := ?_) (a' := ?_) #[T,T,T,T,T,T,T,F,F,F,F,F,F,F,F,F,F,F,F,F,F,F,F,F,F,F] rfl rfl (any_of HT_.out (by kernel_rfl)) (fun _ _ _ h => h) (Or.inl ⟨by rfl, ?_⟩) ?_ ?_; rotate_left
        ·intro w'; go_simp; with_reducible rfl
        rotate_left
        ·simp only [Act.put, sA, sB, sC, sD, sE]; rfl
        refine pure_ (i := 7) (N := some 28) (v := ?_) (a' := ?_) #[T,T,T,T,T,T,T,T,F,F,F,F,F,F,F,F,F,F,F,F,F,F,F,F,F,F] rfl rfl (any_of HT_.out (by kernel_rfl)) (fun _ _ _ h => h) (Or.inl ⟨by rfl, ?_⟩) ?_ ?_; rotate_left
        ·intro w'; go_simp; with_reducible rfl
        rotate_left
        ·simp only [Act.put, sA, sB, sC, sD, sE]; rfl
        refine one_ (i := 8) (N := some 29) #[T,T,T,T,T,T,T,T,T,F,F,F,F,F,F,F,F,F,F,F,F,F,F,F,F,F] rfl rfl (one_of HT_.out (by kernel_rfl)) (by decide) (fun K hK => ?_); refine call_ 73 #[.int .i64 x9_1, .int .i64 a1, .pointer (some ⟨gn, 0, none⟩), .pointer (some ⟨gp, 0, none⟩)] (by rfl) rfl (by first | rfl | (go_simp; done) | (go_simp; rfl)) ?_
        with_reducible refine (impl_CountTriangulations_1.calls k1 x9_1 a1 a2 _ _ l3 false _ gn gp (by have hq_ := (HB.out.cell (World.block_lt_of_cell? _ _ hgn)).trans hgn; first | exact hq_ | simpa using hq_) (by have hq_ := (HB.out.cell (World.block_lt_of_cell? _ _ hgp)).trans hgp; first | exact hq_ | simpa using hq_) ?side1 ?side2 A10.out).mono ?_
        (case side1 => repeat (first | exact (Kd.C_below HR3.out HB.out) | (with_reducible refine Kd.C_alloc ?_ _) | (with_reducible refine Kd.C_drewN ?_ _) | (with_reducible refine Kd.C_drew ?_)))
        (case side2 => exact HC3.out)
        rintro e w25 ⟨rfl, hb⟩; refine ⟨_, rfl, ?_⟩; have n0_ := Ak (below_step (by repeat (first | exact HB.out | apply bA | apply bD | apply bE)) hb); clear HB; have HB := n0_; clear n0_; (try clear hb); (try clear hb2); (try clear hk); (try clear hi); refine hK.out _ _ ⟨((HB.out.cell (World.block_lt_of_cell? w _ hgj)).trans hgj), ((HB.out.cell (World.block_lt_of_cell? w _ hgp)).trans hgp), ((HB.out.cell (World.block_lt_of_cell? w _ hgc)).trans hgc), trivial⟩ (fun hHeld => ?_); clear hK K; refine norm_ (a' := ?_) ?_ ?_; rotate_left
        ·show Act.put _ (some 29) _ = _; simp only [Act.put, sA, sB, sC, sD, sE]; rfl
        refine pure_ (i := 9) (N := some 30) (v := ?_) (a' := ?_) #[T,T,T,T,T,T,T,T,T,T,F,F,F,F,F,F,F,F,F,F,F,F,F,F,F,F] rfl rfl (any_of HT_.out (by kernel_rfl)) (fun _ _ _ h => h) (Or.inl ⟨by rfl, ?_⟩) ?_ ?_; rotate_left
        ·intro w'; go_simp; with_reducible rfl
        rotate_left
        ·simp only [Act.put, sA, sB, sC, sD, sE]; rfl
        refine pure_ (i := 10) (N := some 31) (v := ?_) (a' := ?_) #[T,T,T,T,T,T,T,T,T,T,T,F,F,F,F,F,F,F,F,F,F,F,F,F,F,F] rfl rfl (any_of HT_.out (by kernel_rfl)) (fun _ _ _ h => h) (Or.inl ⟨by rfl, ?_⟩) ?_ ?_; rotate_left
        ·intro w'; go_simp; with_reducible rfl
        rotate_left
        ·simp only [Act.put, sA, sB, sC, sD, sE]; rfl
        refine pure_ (i := 11) (N := some 32) (v := undef) (a' := ?_) #[T,T,T,T,T,T,T,T,T,T,T,T,F,F,F,F,F,F,F,F,F,F,F,F,F,F] rfl rfl (any_of HT_.out (by kernel_rfl)) (fun _ _ _ h => h) (Or.inr ⟨by rfl, rfl⟩) ?_ ?_; rotate_left
        ·simp only [Act.put, sA, sB, sC, sD, sE]; rfl
        refine pure_ (i := 12) (N := some 33) (v := undef) (a' := ?_) #[T,T,T,T,T,T,T,T,T,T,T,T,T,F,F,F,F,F,F,F,F,F,F,F,F,F] rfl rfl (any_of HT_.out (by kernel_rfl)) (fun _ _ _ h => h) (Or.inr ⟨by rfl, rfl⟩) ?_ ?_; rotate_left
        ·simp only [Act.put, sA, sB, sC, sD, sE]; rfl
        refine pure_ (i := 13) (N := some 34) (v := undef) (a' := ?_) #[T,T,T,T,T,T,T,T,T,T,T,T,T,T,F,F,F,F,F,F,F,F,F,F,F,F] rfl rfl (any_of HT_.out (by kernel_rfl)) (fun _ _ _ h => h) (Or.inr ⟨by rfl, rfl⟩) ?_ ?_; rotate_left
        ·simp only [Act.put, sA, sB, sC, sD, sE]; rfl
        refine pure_ (i := 14) (N := some 35) (v := undef) (a' := ?_) #[T,T,T,T,T,T,T,T,T,T,T,T,T,T,T,F,F,F,F,F,F,F,F,F,F,F] rfl rfl (any_of HT_.out (by kernel_rfl)) (fun _ _ _ h => h) (Or.inr ⟨by rfl, rfl⟩) ?_ ?_; rotate_left
        ·simp only [Act.put, sA, sB, sC, sD, sE]; rfl
        refine pure_ (i := 15) (N := some 36) (v := undef) (a' := ?_) #[T,T,T,T,T,T,T,T,T,T,T,T,T,T,T,T,F,F,F,F,F,F,F,F,F,F] rfl rfl (any_of HT_.out (by kernel_rfl)) (fun _ _ _ h => h) (Or.inr ⟨by rfl, rfl⟩) ?_ ?_; rotate_left
        ·simp only [Act.put, sA, sB, sC, sD, sE]; rfl
        refine pure_ (i := 16) (N := some 37) (v := undef) (a' := ?_) #[T,T,T,T,T,T,T,T,T,T,T,T,T,T,T,T,T,F,F,F,F,F,F,F,F,F] rfl rfl (any_of HT_.out (by kernel_rfl)) (fun _ _ _ h => h) (Or.inr ⟨by rfl, rfl⟩) ?_ ?_; rotate_left
        ·simp only [Act.put, sA, sB, sC, sD, sE]; rfl
        refine pure_ (i := 17) (N := some 38) (v := undef) (a' := ?_) #[T,T,T,T,T,T,T,T,T,T,T,T,T,T,T,T,T,T,F,F,F,F,F,F,F,F] rfl rfl (any_of HT_.out (by kernel_rfl)) (fun _ _ _ h => h) (Or.inr ⟨by rfl, rfl⟩) ?_ ?_; rotate_left
        ·simp only [Act.put, sA, sB, sC, sD, sE]; rfl
        refine pure_ (i := 18) (N := some 39) (v := undef) (a' := ?_) #[T,T,T,T,T,T,T,T,T,T,T,T,T,T,T,T,T,T,T,F,F,F,F,F,F,F] rfl rfl (any_of HT_.out (by kernel_rfl)) (fun _ _ _ h => h) (Or.inr ⟨by rfl, rfl⟩) ?_ ?_; rotate_left
        ·simp only [Act.put, sA, sB, sC, sD, sE]; rfl
        refine pure_ (i := 19) (N := some 40) (v := undef) (a' := ?_) #[T,T,T,T,T,T,T,T,T,T,T,T,T,T,T,T,T,T,T,T,F,F,F,F,F,F] rfl rfl (any_of HT_.out (by kernel_rfl)) (fun _ _ _ h => h) (Or.inr ⟨by rfl, rfl⟩) ?_ ?_; rotate_left
        ·simp only [Act.put, sA, sB, sC, sD, sE]; rfl
        refine pure_ (i := 20) (N := some 41) (v := undef) (a' := ?_) #[T,T,T,T,T,T,T,T,T,T,T,T,T,T,T,T,T,T,T,T,T,F,F,F,F,F] rfl rfl (any_of HT_.out (by kernel_rfl)) (fun _ _ _ h => h) (Or.inr ⟨by rfl, rfl⟩) ?_ ?_; rotate_left
        ·simp only [Act.put, sA, sB, sC, sD, sE]; rfl
        refine pure_ (i := 21) (N := some 42) (v := undef) (a' := ?_) #[T,T,T,T,T,T,T,T,T,T,T,T,T,T,T,T,T,T,T,T,T,T,F,F,F,F] rfl rfl (any_of HT_.out (by kernel_rfl)) (fun _ _ _ h => h) (Or.inr ⟨by rfl, rfl⟩) ?_ ?_; rotate_left
        ·simp only [Act.put, sA, sB, sC, sD, sE]; rfl
        refine pure_ (i := 22) (N := some 43) (v := undef) (a' := ?_) #[T,T,T,T,T,T,T,T,T,T,T,T,T,T,T,T,T,T,T,T,T,T,T,F,F,F] rfl rfl (any_of HT_.out (by kernel_rfl)) (fun _ _ _ h => h) (Or.inr ⟨by rfl, rfl⟩) ?_ ?_; rotate_left
        ·simp only [Act.put, sA, sB, sC, sD, sE]; rfl
        refine pure_ (i := 23) (N := some 44) (v := undef) (a' := ?_) #[T,T,T,T,T,T,T,T,T,T,T,T,T,T,T,T,T,T,T,T,T,T,T,T,F,F] rfl rfl (any_of HT_.out (by kernel_rfl)) (fun _ _ _ h => h) (Or.inr ⟨by rfl, rfl⟩) ?_ ?_; rotate_left
        ·simp only [Act.put, sA, sB, sC, sD, sE]; rfl
        refine pure_ (i := 24) (N := some 45) (v := undef) (a' := ?_) #[T,T,T,T,T,T,T,T,T,T,T,T,T,T,T,T,T,T,T,T,T,T,T,T,T,F] rfl rfl (any_of HT_.out (by kernel_rfl)) (fun _ _ _ h => h) (Or.inr ⟨by rfl, rfl⟩) ?_ ?_; rotate_left
        ·simp only [Act.put, sA, sB, sC, sD, sE]; rfl
        refine pure_ (i := 25) (N := some 46) (v := ?_) (a' := ?_) #[T,T,T,T,T,T,T,T,T,T,T,T,T,T,T,T,T,T,T,T,T,T,T,T,T,T] rfl rfl (any_of HT_.out (by kernel_rfl)) (fun _ _ _ h => h) (Or.inl ⟨by rfl, ?_⟩) ?_ ?_; rotate_left
        ·intro w'; go_simp; with_reducible rfl
        rotate_left
        ·simp only [Act.put, sA, sB, sC, sD, sE]; rfl
        refine done_ (done_of HT_.out (by kernel_rfl)) ?_
        try go_wp2
        go_meet
        case rel => exact ⟨_, (false), (by first | rfl | (simp; done) | (simp [*]; done)), H', ⟨by have := HK1.out; first | omega | exact Nat.le_refl _⟩, ⟨by repeat (first | (with_reducible first | exact HB.out | apply bA | apply bD | apply bE) | exact HB.out)⟩⟩
      ·replace c9 := Bool.eq_false_iff.mpr c9; subst c9; have H1 : (impl_CountTriangulations_2.j1 k1 a0 a1 a2 l3 x8_1 x9_1 false) = some r := by rw [if_neg (show ¬ (false = true) by decide)] at H; exact H
       clear H; have H := H1; clear H1; have H' := Ak H; clear H
       try go_wp2
       have n0_ := Ak (below_drew1 HB.out); clear HB; have HB := n0_; clear n0_; refine start_ (n := 26) (S := fun w' => w'.cell? ⟨gj, 0, none⟩ = some (.func (.func 73) #[] #[.pointer (some ⟨gn, 0, none⟩), .pointer (some ⟨gp, 0, none⟩)]) ∧ w'.cell? ⟨gp, 0, none⟩ = some (.slice A3 l3.length c3) ∧ w'.cell? ⟨gc, 0, none⟩ = some (.func (.func 75) #[] #[.pointer (some ⟨gj, 0, none⟩), .pointer (some ⟨gp, 0, none⟩), .pointer (some ⟨gc, 0, none⟩)]) ∧ True) (ds := []) #[F,F,F,F,F,F,F,F,F,F,F,F,F,F,F,F,F,F,F,F,F,F,F,F,F,F] (by kernel_rfl) rfl rfl ⟨((HB.out.cell (World.block_lt_of_cell? w _ hgj)).trans hgj), ((HB.out.cell (World.block_lt_of_cell? w _ hgp)).trans hgp), ((HB.out.cell (World.block_lt_of_cell? w _ hgc)).trans hgc), trivial⟩ (fun hHeld => ?_); refine with_tabW impl_CountTriangulations_2.tab7 impl_CountTriangulations_2.bits7 (fun HT_ HW_ => ?_); generalize wr.drew = w26 at HB hHeld ⊢; refine take_ (i := 0) (N := some 21) (v := ?_) (a' := ?_) #[T,F,F,F,F,F,F,F,F,F,F,F,F,F,F,F,F,F,F,F,F,F,F,F,F,F] rfl rfl (take_ofW HT_.out HW_.out (by kernel_rfl)) (fun _ _ _ h => h) (Or.inl ⟨by rfl, ?_⟩) hHeld ?_ ?_; rotate_left
       ·rintro w' ⟨sj, sp, sc, _⟩; go_simp; with_reducible rfl
       rotate_left
       ·simp only [Act.put, sA, sB, sC, sD, sE]; rfl
       refine pure_ (i := 1) (N := some 22) (v := ?_) (a' := ?_) #[T,T,F,F,F,F,F,F,F,F,F,F,F,F,F,F,F,F,F,F,F,F,F,F,F,F] rfl rfl (any_of HT_.out (by kernel_rfl)) (fun _ _ _ h => h) (Or.inl ⟨by rfl, ?_⟩) ?_ ?_; rotate_left
       ·intro w'; go_simp; with_reducible rfl
       rotate_left
       ·simp only [Act.put, sA, sB, sC, sD, sE]; rfl
       refine pure_ (i := 2) (N := some 23) (v := ?_) (a' := ?_) #[T,T,T,F,F,F,F,F,F,F,F,F,F,F,F,F,F,F,F,F,F,F,F,F,F,F] rfl rfl (any_of HT_.out (by kernel_rfl)) (fun _ _ _ h => h) (Or.inl ⟨by rfl, ?_⟩) ?_ ?_; rotate_left
       ·intro w'; go_simp; with_reducible rfl
       rotate_left
       ·simp only [Act.put, sA, sB, sC, sD, sE]; rfl
       refine one_ (i := 3) (N := some 24) #[T,T,T,T,F,F,F,F,F,F,F,F,F,F,F,F,F,F,F,F,F,F,F,F,F,F] rfl rfl (one_of HT_.out (by kernel_rfl)) (by decide) (fun K hK => ?_); refine call_ 73 #[.int .i64 a0, .int .i64 x9_1, .pointer (some ⟨gn, 0, none⟩), .pointer (some ⟨gp, 0, none⟩)] (by rfl) rfl (by first | rfl | (go_simp; done) | (go_simp; rfl)) ?_
       with_reducible refine (impl_CountTriangulations_1.calls k1 a0 x9_1 a2 _ _ l3 false _ gn gp (by have hq_ := (HB.out.cell (World.block_lt_of_cell? _ _ hgn)).trans hgn; first | exact hq_ | simpa using hq_) (by have hq_ := (HB.out.cell (World.block_lt_of_cell? _ _ hgp)).trans hgp; first | exact hq_ | simpa using hq_) ?side1 ?side2 A8.out).mono ?_
       (case side1 => repeat (first | exact (Kd.C_below HR3.out HB.out) | (with_reducible refine Kd.C_alloc ?_ _) | (with_reducible refine Kd.C_drewN ?_ _) | (with_reducible refine Kd.C_drew ?_)))
       (case side2 => exact HC3.out)
       rintro e w27 ⟨rfl, hb⟩; refine ⟨_, rfl, ?_⟩; have n0_ := Ak (below_step (by repeat (first | exact HB.out | apply bA | apply bD | apply bE)) hb); clear HB; have HB := n0_; clear n0_; (try clear hb); (try clear hb2); (try clear hk); (try clear hi); refine hK.out _ _ ⟨((HB.out.cell (World.block_lt_of_cell? w _ hgj)).trans hgj), ((HB.out.cell (World.block_lt_of_cell? w _ hgp)).trans hgp), ((HB.out.cell (World.block_lt_of_cell? w _ hgc)).trans hgc), trivial⟩ (fun hHeld => ?_); clear hK K; refine norm_ (a' := ?_) ?_ ?_; rotate_left
       ·show Act.put _ (some 24) _ = _; simp only [Act.put, sA, sB, sC, sD, sE]; rfl
       refine pure_ (i := 4) (N := some 25) (v := ?_) (a' := ?_) #[T,T,T,T,T,F,F,F,F,F,F,F,F,F,F,F,F,F,F,F,F,F,F,F,F,F] rfl rfl (any_of HT_.out (by kernel_rfl)) (fun _ _ _ h => h) (Or.inl ⟨by rfl, ?_⟩) ?_ ?_; rotate_left
       ·intro w'; go_simp; with_reducible rfl
       rotate_left
       ·simp only [Act.put, sA, sB, sC, sD, sE]; rfl
       refine pure_ (i := 5) (N := some 26) (v := undef) (a' := ?_) #[T,T,T,T,T,T,F,F,F,F,F,F,F,F,F,F,F,F,F,F,F,F,F,F,F,F] rfl rfl (any_of HT_.out (by kernel_rfl)) (fun _ _ _ h => h) (Or.inr ⟨by rfl, rfl⟩) ?_ ?_; rotate_left
       ·simp only [Act.put, sA, sB, sC, sD, sE]; rfl
       refine pure_ (i := 6) (N := some 27) (v := undef) (a' := ?_) #[T,T,T,T,T,T,T,F,F,F,F,F,F,F,F,F,F,F,F,F,F,F,F,F,F,F] rfl rfl (any_of HT_.out (by kernel_rfl)) (fun _ _ _ h => h) (Or.inr ⟨by rfl, rfl⟩) ?_ ?_; rotate_left
       ·simp only [Act.put, sA, sB, sC, sD, sE]; rfl
       refine pure_ (i := 7) (N := some 28) (v := undef) (a' := ?_) #[T,T,T,T,T,T,T,T,F,F,F,F,F,F,F,F,F,F,F,F,F,F,F,F,F,F] rfl rfl (any_of HT_.out (by kernel_rfl)) (fun _ _ _ h => h) (Or.inr ⟨by rfl, rfl⟩) ?_ ?_; rotate_left
       ·simp only [Act.put, sA, sB, sC, sD, sE]; rfl
       refine pure_ (i := 8) (N := some 29) (v := undef) (a' := ?_) #[T,T,T,T,T,T,T,T,T,F,F,F,F,F,F,F,F,F,F,F,F,F,F,F,F,F] rfl rfl (any_of HT_.out (by kernel_rfl)) (fun _ _ _ h => h) (Or.inr ⟨by rfl, rfl⟩) ?_ ?_; rotate_left
       ·simp only [Act.put, sA, sB, sC, sD, sE]; rfl
       refine pure_ (i := 9) (N := some 30) (v := ?_) (a' := ?_) #[T,T,T,T,T,T,T,T,T,T,F,F,F,F,F,F,F,F,F,F,F,F,F,F,F,F] rfl rfl (any_of HT_.out (by kernel_rfl)) (fun _ _ _ h => h) (Or.inl ⟨by rfl, ?_⟩) ?_ ?_; rotate_left
       ·intro w'; go_simp; with_reducible rfl
       rotate_left
       ·simp only [Act.put, sA, sB, sC, sD, sE]; rfl
       refine pure_ (i := 10) (N := some 31) (v := ?_) (a' := ?_) #[T,T,T,T,T,T,T,T,T,T,T,F,F,F,F,F,F,F,F,F,F,F,F,F,F,F] rfl rfl (any_of HT_.out (by kernel_rfl)) (fun _ _ _ h => h) (Or.inl ⟨by rfl, ?_⟩) ?_ ?_; rotate_left
       ·intro w'; go_simp; with_reducible rfl
       rotate_left
       ·simp only [Act.put, sA, sB, sC, sD, sE]; rfl
       refine pure_ (i := 11) (N := some 32) (v := undef) (a' := ?_) #[T,T,T,T,T,T,T,T,T,T,T,T,F,F,F,F,F,F,F,F,F,F,F,F,F,F] rfl rfl (any_of HT_.out (by kernel_rfl)) (fun _ _ _ h => h) (Or.inr ⟨by rfl, rfl⟩) ?_ ?_; rotate_left
       ·simp only [Act.put, sA, sB, sC, sD, sE]; rfl
       refine pure_ (i := 12) (N := some 33) (v := undef) (a' := ?_) #[T,T,T,T,T,T,T,T,T,T,T,T,T,F,F,F,F,F,F,F,F,F,F,F,F,F] rfl rfl (any_of HT_.out (by kernel_rfl)) (fun _ _ _ h => h) (Or.inr ⟨by rfl, rfl⟩) ?_ ?_; rotate_left
       ·simp only [Act.put, sA, sB, sC, sD, sE]; rfl
       refine pure_ (i := 13) (N := some 34) (v := undef) (a' := ?_) #[T,T,T,T,T,T,T,T,T,T,T,T,T,T,F,F,F,F,F,F,F,F,F,F,F,F] rfl rfl (any_of HT_.out (by kernel_rfl)) (fun _ _ _ h => h) (Or.inr ⟨by rfl, rfl⟩) ?_ ?_; rotate_left
       ·simp only [Act.put, sA, sB, sC, sD, sE]; rfl
       refine pure_ (i := 14) (N := some 35) (v := undef) (a' := ?_) #[T,T,T,T,T,T,T,T,T,T,T,T,T,T,T,F,F,F,F,F,F,F,F,F,F,F] rfl rfl (any_of HT_.out (by kernel_rfl)) (fun _ _ _ h => h) (Or.inr ⟨by rfl, rfl⟩) ?_ ?_; rotate_left
       ·simp only [Act.put, sA, sB, sC, sD, sE]; rfl
       refine pure_ (i := 15) (N := some 36) (v := undef) (a' := ?_) #[T,T,T,T,T,T,T,T,T,T,T,T,T,T,T,T,F,F,F,F,F,F,F,F,F,F] rfl rfl (any_of HT_.out (by kernel_rfl)) (fun _ _ _ h => h) (Or.inr ⟨by rfl, rfl⟩) ?_ ?_; rotate_left
       ·simp only [Act.put, sA, sB, sC, sD, sE]; rfl
       refine pure_ (i := 16) (N := some 37) (v := undef) (a' := ?_) #[T,T,T,T,T,T,T,T,T,T,T,T,T,T,T,T,T,F,F,F,F,F,F,F,F,F] rfl rfl (any_of HT_.out (by kernel_rfl)) (fun _ _ _ h => h) (Or.inr ⟨by rfl, rfl⟩) ?_ ?_; rotate_left
       ·simp only [Act.put, sA, sB, sC, sD, sE]; rfl
       refine pure_ (i := 17) (N := some 38) (v := undef) (a' := ?_) #[T,T,T,T,T,T,T,T,T,T,T,T,T,T,T,T,T,T,F,F,F,F,F,F,F,F] rfl rfl (any_of HT_.out (by kernel_rfl)) (fun _ _ _ h => h) (Or.inr ⟨by rfl, rfl⟩) ?_ ?_; rotate_left
       ·simp only [Act.put, sA, sB, sC, sD, sE]; rfl
       refine pure_ (i := 18) (N := some 39) (v := undef) (a' := ?_) #[T,T,T,T,T,T,T,T,T,T,T,T,T,T,T,T,T,T,T,F,F,F,F,F,F,F] rfl rfl (any_of HT_.out (by kernel_rfl)) (fun _ _ _ h => h) (Or.inr ⟨by rfl, rfl⟩) ?_ ?_; rotate_left
       ·simp only [Act.put, sA, sB, sC, sD, sE]; rfl
       refine pure_ (i := 19) (N := some 40) (v := undef) (a' := ?_) #[T,T,T,T,T,T,T,T,T,T,T,T,T,T,T,T,T,T,T,T,F,F,F,F,F,F] rfl rfl (any_of HT_.out (by kernel_rfl)) (fun _ _ _ h => h) (Or.inr ⟨by rfl, rfl⟩) ?_ ?_; rotate_left
       ·simp only [Act.put, sA, sB, sC, sD, sE]; rfl
       refine pure_ (i := 20) (N := some 41) (v := undef) (a' := ?_) #[T,T,T,T,T,T,T,T,T,T,T,T,T,T,T,T,T,T,T,T,T,F,F,F,F,F] rfl rfl (any_of HT_.out (by kernel_rfl)) (fun _ _ _ h => h) (Or.inr ⟨by rfl, rfl⟩) ?_ ?_; rotate_left
       ·simp only [Act.put, sA, sB, sC, sD, sE]; rfl
       refine pure_ (i := 21) (N := some 42) (v := undef) (a' := ?_) #[T,T,T,T,T,T,T,T,T,T,T,T,T,T,T,T,T,T,T,T,T,T,F,F,F,F] rfl rfl (any_of HT_.out (by kernel_rfl)) (fun _ _ _ h => h) (Or.inr ⟨by rfl, rfl⟩) ?_ ?_; rotate_left
       ·simp only [Act.put, sA, sB, sC, sD, sE]; rfl
       refine pure_ (i := 22) (N := some 43) (v := undef) (a' := ?_) #[T,T,T,T,T,T,T,T,T,T,T,T,T,T,T,T,T,T,T,T,T,T,T,F,F,F] rfl rfl (any_of HT_.out (by kernel_rfl)) (fun _ _ _ h => h) (Or.inr ⟨by rfl, rfl⟩) ?_ ?_; rotate_left
       ·simp only [Act.put, sA, sB, sC, sD, sE]; rfl
       refine pure_ (i := 23) (N := some 44) (v := undef) (a' := ?_) #[T,T,T,T,T,T,T,T,T,T,T,T,T,T,T,T,T,T,T,T,T,T,T,T,F,F] rfl rfl (any_of HT_.out (by kernel_rfl)) (fun _ _ _ h => h) (Or.inr ⟨by rfl, rfl⟩) ?_ ?_; rotate_left
       ·simp only [Act.put, sA, sB, sC, sD, sE]; rfl
       refine pure_ (i := 24) (N := some 45) (v := undef) (a' := ?_) #[T,T,T,T,T,T,T,T,T,T,T,T,T,T,T,T,T,T,T,T,T,T,T,T,T,F] rfl rfl (any_of HT_.out (by kernel_rfl)) (fun _ _ _ h => h) (Or.inr ⟨by rfl, rfl⟩) ?_ ?_; rotate_left
       ·simp only [Act.put, sA, sB, sC, sD, sE]; rfl
       refine pure_ (i := 25) (N := some 46) (v := ?_) (a' := ?_) #[T,T,T,T,T,T,T,T,T,T,T,T,T,T,T,T,T,T,T,T,T,T,T,T,T,T] rfl rfl (any_of HT_.out (by kernel_rfl)) (fun _ _ _ h => h) (Or.inl ⟨by rfl, ?_⟩) ?_ ?_; rotate_left
       ·intro w'; go_simp; with_reducible rfl
       rotate_left
       ·simp only [Act.put, sA, sB, sC, sD, sE]; rfl
       refine done_ (done_of HT_.out (by kernel_rfl)) ?_
       try go_wp2
       go_meet
       case rel => exact ⟨_, (false), (by first | rfl | (simp; done) | (simp [*]; done)), H', ⟨by have := HK1.out; first | omega | exact Nat.le_refl _⟩, ⟨by repeat (first | (with_reducible first | exact HB.out | apply bA | apply bD | apply bE) | exact HB.out)⟩⟩
     case rest =>
      clear HC7
      try clear c1
      try clear p2
      try clear c3
      try clear c6
      try clear c7
      try clear c9
      try clear c11
      try clear c12
      try clear c13
      try clear c14
      try clear c15
      try clear c16
      try clear c17
      obtain ⟨kq, x46_6, rfl, HA, HJ6, HB⟩ := hcut
      cases kq with
      | zero => exact absurd HA.out (by simp [impl_CountTriangulations_2.j1])
      | succ kj6 =>
       have H := HA.out; clear HA; simp only [impl_CountTriangulations_2.j1] at H
       by_cases c28 : x46_6 = true
       ·subst c28; have H1 : ((impl_CountTriangulations_2.f kj6 a0 x9_1 a2 l3).bind fun t107 => ((impl_CountTriangulations_2.f kj6 x9_1 a1 a2 l3).bind fun t108 => (impl_CountTriangulations_2.l0 kj6 a0 a1 a2 l3 (wrap64 (x8_1 + (wrap64 (t107 * t108)))) (wrap64 (x9_1 + 1))))) = some r := by rw [if_pos rfl] at H; exact H
        clear H; have H := H1; clear H1; replace H := Option.bind_eq_some_iff.mp H; obtain ⟨t107, A290, H⟩ := H; replace H : ((impl_CountTriangulations_2.f kj6 x9_1 a1 a2 l3).bind fun t108 => (impl_CountTriangulations_2.l0 kj6 a0 a1 a2 l3 (wrap64 (x8_1 + (wrap64 (t107 * t108)))) (wrap64 (x9_1 + 1)))) = some r := H; have A29 := Ak A290; clear A290; replace H := Option.bind_eq_some_iff.mp H; obtain ⟨t108, A300, H⟩ := H; replace H : (impl_CountTriangulations_2.l0 kj6 a0 a1 a2 l3 (wrap64 (x8_1 + (wrap64 (t107 * t108)))) (wrap64 (x9_1 + 1))) = some r := H; have A30 := Ak A300; clear A300; have H' := Ak H; clear H
        try go_wp2
        have n0_ := Ak (below_drew1 HB.out); clear HB; have HB := n0_; clear n0_; refine start_ (n := 12) (S := fun w' => w'.cell? ⟨gj, 0, none⟩ = some (.func (.func 73) #[] #[.pointer (some ⟨gn, 0, none⟩), .pointer (some ⟨gp, 0, none⟩)]) ∧ w'.cell? ⟨gp, 0, none⟩ = some (.slice A3 l3.length c3) ∧ w'.cell? ⟨gc, 0, none⟩ = some (.func (.func 75) #[] #[.pointer (some ⟨gj, 0, none⟩), .pointer (some ⟨gp, 0, none⟩), .pointer (some ⟨gc, 0, none⟩)]) ∧ True) (ds := []) #[F,F,F,F,F,F,F,F,F,F,F,F] (by kernel_rfl) rfl rfl ⟨((HB.out.cell (World.block_lt_of_cell? w _ hgj)).trans hgj), ((HB.out.cell (World.block_lt_of_cell? w _ hgp)).trans hgp), ((HB.out.cell (World.block_lt_of_cell? w _ hgc)).trans hgc), trivial⟩ (fun hHeld => ?_); refine with_tabW impl_CountTriangulations_2.tab8 impl_CountTriangulations_2.bits8 (fun HT_ HW_ => ?_); generalize wc.drew = w31 at HB hHeld ⊢; refine pure_ (i := 0) (N := some 47) (v := ?_) (a' := ?_) #[T,F,F,F,F,F,F,F,F,F,F,F] rfl rfl (any_of HT_.out (by kernel_rfl)) (fun _ _ _ h => h) (Or.inl ⟨by rfl, ?_⟩) ?_ ?_; rotate_left
        ·intro w'; go_simp; with_reducible rfl
        rotate_left
        ·simp only [Act.put, sA, sB, sC, sD, sE]; rfl
        refine take_ (i := 1) (N := some 48) (v := ?_) (a' := ?_) #[T,T,F,F,F,F,F,F,F,F,F,F] rfl rfl (take_ofW HT_.out HW_.out (by kernel_rfl)) (fun _ _ _ h => h) (Or.inl ⟨by rfl, ?_⟩) hHeld ?_ ?_; rotate_left
        ·rintro w' ⟨sj, sp, sc, _⟩; go_simp; with_reducible rfl
        rotate_left
        ·simp only [Act.put, sA, sB, sC, sD, sE]; rfl
        refine pure_ (i := 2) (N := some 49) (v := ?_) (a' := ?_) #[T,T,T,F,F,F,F,F,F,F,F,F] rfl rfl (any_of HT_.out (by kernel_rfl)) (fun _ _ _ h => h) (Or.inl ⟨by rfl, ?_⟩) ?_ ?_; rotate_left
        ·intro w'; go_simp; with_reducible rfl
        rotate_left
        ·simp only [Act.put, sA, sB, sC, sD, sE]; rfl
        refine pure_ (i := 3) (N := some 50) (v := ?_) (a' := ?_) #[T,T,T,T,F,F,F,F,F,F,F,F] rfl rfl (any_of HT_.out (by kernel_rfl)) (fun _ _ _ h => h) (Or.inl ⟨by rfl, ?_⟩) ?_ ?_; rotate_left
        ·intro w'; go_simp; with_reducible rfl
        rotate_left
        ·simp only [Act.put, sA, sB, sC, sD, sE]; rfl
        refine take_ (i := 5) (N := some 52) (v := ?_) (a' := ?_) #[T,T,T,T,F,T,F,F,F,F,F,F] rfl rfl (take_ofW HT_.out HW_.out (by kernel_rfl)) (fun _ _ _ h => h) (Or.inl ⟨by rfl, ?_⟩) hHeld ?_ ?_; rotate_left
        ·rintro w' ⟨sj, sp, sc, _⟩; go_simp; with_reducible rfl
        rotate_left
        ·simp only [Act.put, sA, sB, sC, sD, sE]; rfl
        refine pure_ (i := 6) (N := some 53) (v := ?_) (a' := ?_) #[T,T,T,T,F,T,T,F,F,F,F,F] rfl rfl (any_of HT_.out (by kernel_rfl)) (fun _ _ _ h => h) (Or.inl ⟨by rfl, ?_⟩) ?_ ?_; rotate_left
        ·intro w'; go_simp; with_reducible rfl
        rotate_left
        ·simp only [Act.put, sA, sB, sC, sD, sE]; rfl
        refine pure_ (i := 7) (N := some 54) (v := ?_) (a' := ?_) #[T,T,T,T,F,T,T,T,F,F,F,F] rfl rfl (any_of HT_.out (by kernel_rfl)) (fun _ _ _ h => h) (Or.inl ⟨by rfl, ?_⟩) ?_ ?_; rotate_left
        ·intro w'; go_simp; with_reducible rfl
        rotate_left
        ·simp only [Act.put, sA, sB, sC, sD, sE]; rfl
        refine one_ (i := 4) (N := some 51) #[T,T,T,T,T,T,T,T,F,F,F,F] rfl rfl (one_of HT_.out (by kernel_rfl)) (by decide) (fun K hK => ?_); refine call_ 75 #[.int .i64 a0, .int .i64 x9_1, .pointer (some ⟨gj, 0, none⟩), .pointer (some ⟨gp, 0, none⟩), .pointer (some ⟨gc, 0, none⟩)] (by rfl) rfl (by first | rfl | (go_simp; done) | (go_simp; rfl)) ?_
        with_reducible refine (ih kj6 (by have := HK1.out; have := HJ6.out; omega) a0 x9_1 a2 _ _ l3 t107 _ gj gp gc gn (by have hq_ := (HB.out.cell (World.block_lt_of_cell? _ _ hgj)).trans hgj; first | exact hq_ | simpa using hq_) (by have hq_ := (HB.out.cell (World.block_lt_of_cell? _ _ hgp)).trans hgp; first | exact hq_ | simpa using hq_) (by have hq_ := (HB.out.cell (World.block_lt_of_cell? _ _ hgc)).trans hgc; first | exact hq_ | simpa using hq_) (by have hq_ := (HB.out.cell (World.block_lt_of_cell? _ _ hgn)).trans hgn; first | exact hq_ | simpa using hq_) ?side1 ?side2 A29.out).mono ?_
        (case side1 => repeat (first | exact (Kd.C_below HR3.out HB.out) | (with_reducible refine Kd.C_alloc ?_ _) | (with_reducible refine Kd.C_drewN ?_ _) | (with_reducible refine Kd.C_drew ?_)))
        (case side2 => exact HC3.out)
        rintro e w32 ⟨rfl, hb⟩; refine ⟨_, rfl, ?_⟩; have n0_ := Ak (below_step (by repeat (first | exact HB.out | apply bA | apply bD | apply bE)) hb); clear HB; have HB := n0_; clear n0_; (try clear hb); (try clear hb2); (try clear hk); (try clear hi); refine hK.out _ _ ⟨((HB.out.cell (World.block_lt_of_cell? w _ hgj)).trans hgj), ((HB.out.cell (World.block_lt_of_cell? w _ hgp)).trans hgp), ((HB.out.cell (World.block_lt_of_cell? w _ hgc)).trans hgc), trivial⟩ (fun hHeld => ?_); clear hK K; refine norm_ (a' := ?_) ?_ ?_; rotate_left
        ·show Act.put _ (some 51) _ = _; simp only [Act.put, sA, sB, sC, sD, sE]; rfl
        refine one_ (i := 8) (N := some 55) #[T,T,T,T,T,T,T,T,T,F,F,F] rfl rfl (one_of HT_.out (by kernel_rfl)) (by decide) (fun K hK => ?_); refine call_ 75 #[.int .i64 x9_1, .int .i64 a1, .pointer (some ⟨gj, 0, none⟩), .pointer (some ⟨gp, 0, none⟩), .pointer (some ⟨gc, 0, none⟩)] (by rfl) rfl (by first | rfl | (go_simp; done) | (go_simp; rfl)) ?_
        with_reducible refine (ih kj6 (by have := HK1.out; have := HJ6.out; omega) x9_1 a1 a2 _ _ l3 t108 _ gj gp gc gn (by have hq_ := (HB.out.cell (World.block_lt_of_cell? _ _ hgj)).trans hgj; first | exact hq_ | simpa using hq_) (by have hq_ := (HB.out.cell (World.block_lt_of_cell? _ _ hgp)).trans hgp; first | exact hq_ | simpa using hq_) (by have hq_ := (HB.out.cell (World.block_lt_of_cell? _ _ hgc)).trans hgc; first | exact hq_ | simpa using hq_) (by have hq_ := (HB.out.cell (World.block_lt_of_cell? _ _ hgn)).trans hgn; first | exact hq_ | simpa using hq_) ?side1 ?side2 A30.out).mono ?_
        (case side1 => repeat (first | exact (Kd.C_below HR3.out HB.out) | (with_reducible refine Kd.C_alloc ?_ _) | (with_reducible refine Kd.C_drewN ?_ _) | (with_reducible refine Kd.C_drew ?_)))
        (case side2 => exact HC3.out)
        rintro e w33 ⟨rfl, hb⟩; refine ⟨_, rfl, ?_⟩; have n0_ := Ak (below_step (by repeat (first | exact HB.out | apply bA | apply bD | apply bE)) hb); clear HB; have HB := n0_; clear n0_; (try clear hb); (try clear hb2); (try clear hk); (try clear hi); refine hK.out _ _ ⟨((HB.out.cell (World.block_lt_of_cell? w _ hgj)).trans hgj), ((HB.out.cell (World.block_lt_of_cell? w _ hgp)).trans hgp), ((HB.out.cell (World.block_lt_of_cell? w _ hgc)).trans hgc), trivial⟩ (fun hHeld => ?_); clear hK K; refine norm_ (a' := ?_) ?_ ?_; rotate_left
        ·show Act.put _ (some 55) _ = _; simp only [Act.put, sA, sB, sC, sD, sE]; rfl
        refine pure_ (i := 9) (N := some 56) (v := ?_) (a' := ?_) #[T,T,T,T,T,T,T,T,T,T,F,F] rfl rfl (any_of HT_.out (by kernel_rfl)) (fun _ _ _ h => h) (Or.inl ⟨by rfl, ?_⟩) ?_ ?_; rotate_left
        ·intro w'; go_simp; with_reducible rfl
        rotate_left
        ·simp only [Act.put, sA, sB, sC, sD, sE]; rfl
        refine pure_ (i := 10) (N := some 57) (v := ?_) (a' := ?_) #[T,T,T,T,T,T,T,T,T,T,T,F] rfl rfl (any_of HT_.out (by kernel_rfl)) (fun _ _ _ h => h) (Or.inl ⟨by rfl, ?_⟩) ?_ ?_; rotate_left
        ·intro w'; go_simp; with_reducible rfl
        rotate_left
        ·simp only [Act.put, sA, sB, sC, sD, sE]; rfl
        refine pure_ (i := 11) (N := some 8) (v := ?_) (a' := ?_) #[T,T,T,T,T,T,T,T,T,T,T,T] rfl rfl (any_of HT_.out (by kernel_rfl)) (fun _ _ _ h => h) (Or.inl ⟨by rfl, ?_⟩) ?_ ?_; rotate_left
        ·intro w'; go_simp; with_reducible rfl
        rotate_left
        ·simp only [Act.put, sA, sB, sC, sD, sE]; rfl
        refine done_ (done_of HT_.out (by kernel_rfl)) ?_
        try go_wp2
        go_roundg kj6
        case measure => have := HK1.out; have := HJ6.out; omega
        case rel => exact ⟨(wrap64 (x8_1 + (wrap64 (t107 * t108)))), (wrap64 (x9_1 + 1)), (by first | rfl | (simp; done) | (simp [*]; done)), (by first | rfl | (simp; done) | (simp [*]; done)), H', ⟨by have := HK1.out; have := HJ6.out; omega⟩, ⟨by repeat (first | (with_reducible first | exact HB.out | apply bA | apply bD | apply bE) | exact HB.out)⟩⟩
       ·replace c28 := Bool.eq_false_iff.mpr c28; subst c28; have H1 : (impl_CountTriangulations_2.l0 kj6 a0 a1 a2 l3 x8_1 (wrap64 (x9_1 + 1))) = some r := by rw [if_neg (show ¬ (false = true) by decide)] at H; exact H
        clear H; have H := H1; clear H1; have H' := Ak H; clear H
        go_wp2
        go_roundg kj6
        case measure => have := HK1.out; have := HJ6.out; omega
        case rel => exact ⟨(x8_1), (wrap64 (x9_1 + 1)), (by first | rfl | (simp; done) | (simp [*]; done)), (by first | rfl | (simp; done) | (simp [*]; done)), H', ⟨by have := HK1.out; have := HJ6.out; omega⟩, ⟨by repeat (first | (with_reducible first | exact HB.out | apply bA | apply bD | apply bE) | exact HB.out)⟩⟩
    ·rw [if_neg c6] at H; have c6b0 : decide (x9_1 < a1) = false := decide_eq_false c6; clear c6; obtain rfl := Option.some.inj H
     go_wp2
     go_ret
     exact ⟨by first | rfl | (simp [*, errW_none, errW_some] <;> rfl), by repeat (first | (with_reducible first | exact HB.out | apply bA | apply bD | apply bE) | exact HB.out)⟩

end Go.Proofs.Ytlccpkggdmngaaa.G
