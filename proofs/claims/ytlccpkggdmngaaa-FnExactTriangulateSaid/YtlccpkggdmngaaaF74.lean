/- A Go function as a plain Lean function, and the proof that Go's call comes to its answer. No conditions but those in the theorem. Written by gen.py (a program of this session over the kit's print). -/
-- SHRUNK by pack.py
import Derived.Test.YtlccpkggdmngaaaG0
import Derived.Test.YtlccpkggdmngaaaFA
import Derived.Test.YtlccpkggdmngaaaF56
import Derived.Test.YtlccpkggdmngaaaF62
namespace Go.Proofs.Ytlccpkggdmngaaa.G
open Go.RowKit Go.Proofs.YtlccpkggdmngaaaW.PrintWords Go.Proofs.YtlccpkggdmngaaaW.PrintLast Go.Proofs.YtlccpkggdmngaaaW.PrintMore Go.Proofs.YtlccpkggdmngaaaW.PrintBits
attribute [local go_sem] max2_int min2_int max_two min_two max_three min_three max_four min_four   -- for this text's walks alone
set_option linter.unusedVariables false
set_option linter.unusedSimpArgs false

/-! ### impl_isDiagonal: function 74 -/
mutual
def impl_isDiagonal.j0 : Nat → List (S27) → Int → Int → Int → Bool → Option (Bool)
 | 0, _, _, _, _, _ => none
 | k + 1, x0, x1, x2, x7, x47 => if x47 = true then (some false) else (impl_isDiagonal.l0 k x0 x1 x2 x7 x7 0)
def impl_isDiagonal.l0 : Nat → List (S27) → Int → Int → Int → Int → Int → Option (Bool)
 | 0, _, _, _, _, _, _ => none
 | k + 1, x0, x1, x2, x7, x48, x49 => if x49 < x48 then (if x49 = x1 then (impl_isDiagonal.j2 k x0 x1 x2 x7 x49 0 x48 x49 true) else (if x49 = x2 then (impl_isDiagonal.j2 k x0 x1 x2 x7 x49 0 x48 x49 true) else (if x7 = 0 then (none) else (if (Int.tmod (wrap64 (x49 + 1)) x7) = x1 then (impl_isDiagonal.j2 k x0 x1 x2 x7 x49 0 x48 x49 true) else (impl_isDiagonal.j2 k x0 x1 x2 x7 x49 0 x48 x49 ((Int.tmod (wrap64 (x49 + 1)) x7) == x2)))))) else (impl_isDiagonal.l1 k x0 x1 x2 (([] : List (S27))) x0 (x0.length : Int) 0)
def impl_isDiagonal.j2 : Nat → List (S27) → Int → Int → Int → Int → Int → Int → Int → Bool → Option (Bool)
 | 0, _, _, _, _, _, _, _, _, _ => none
 | k + 1, x0, x1, x2, x7, x8, x9, x48, x49, x75 => if x75 = true then (if 0 ≤ x1 then (if x1 < (x0.length : Int) then (if 0 ≤ x2 then (if x2 < (x0.length : Int) then (if 0 ≤ x8 then (if x8 < (x0.length : Int) then (if x7 = 0 then (none) else (if 0 ≤ (Int.tmod (wrap64 (x8 + 1)) x7) then (if (Int.tmod (wrap64 (x8 + 1)) x7) < (x0.length : Int) then ((impl_meet.f ((rd_T27 x0 x1).f0) ((rd_T27 x0 x1).f1) ((rd_T27 x0 x2).f0) ((rd_T27 x0 x2).f1) ((rd_T27 x0 x8).f0) ((rd_T27 x0 x8).f1) ((rd_T27 x0 (Int.tmod (wrap64 (x8 + 1)) x7)).f0) ((rd_T27 x0 (Int.tmod (wrap64 (x8 + 1)) x7)).f1)).bind fun t107 => (if t107 = 1 then (impl_isDiagonal.l0 k x0 x1 x2 x7 x48 (wrap64 (x49 + 1))) else (some false))) else (none)) else (none))) else (none)) else (none)) else (none)) else (none)) else (none)) else (none)) else (if 0 ≤ x1 then (if x1 < (x0.length : Int) then (if 0 ≤ x2 then (if x2 < (x0.length : Int) then (if 0 ≤ x8 then (if x8 < (x0.length : Int) then (if x7 = 0 then (none) else (if 0 ≤ (Int.tmod (wrap64 (x8 + 1)) x7) then (if (Int.tmod (wrap64 (x8 + 1)) x7) < (x0.length : Int) then ((impl_meet.f ((rd_T27 x0 x1).f0) ((rd_T27 x0 x1).f1) ((rd_T27 x0 x2).f0) ((rd_T27 x0 x2).f1) ((rd_T27 x0 x8).f0) ((rd_T27 x0 x8).f1) ((rd_T27 x0 (Int.tmod (wrap64 (x8 + 1)) x7)).f0) ((rd_T27 x0 (Int.tmod (wrap64 (x8 + 1)) x7)).f1)).bind fun t112 => (if t112 = x9 then (impl_isDiagonal.l0 k x0 x1 x2 x7 x48 (wrap64 (x49 + 1))) else (some false))) else (none)) else (none))) else (none)) else (none)) else (none)) else (none)) else (none)) else (none))
def impl_isDiagonal.l1 : Nat → List (S27) → Int → Int → List (S27) → List (S27) → Int → Int → Option (Bool)
 | 0, _, _, _, _, _, _, _ => none
 | k + 1, x0, x1, x2, x10, x100, x101, x102 => if x102 < x101 then (if 0 ≤ x102 then (if x102 < (x100.length : Int) then (if x10.length < 8796093022208 then (impl_isDiagonal.l1 k x0 x1 x2 (x10 ++ [(⟨wrap64 (2 * ((rd_T27 x100 x102).f0)), wrap64 (2 * ((rd_T27 x100 x102).f1))⟩ : S27)]) x100 x101 (wrap64 (x102 + 1))) else (none)) else (none)) else (none)) else (if 0 ≤ x1 then (if x1 < (x0.length : Int) then (if 0 ≤ x2 then (if x2 < (x0.length : Int) then ((impl_isIn.f k x10 (wrap64 (((rd_T27 x0 x1).f0) + ((rd_T27 x0 x2).f0))) (wrap64 (((rd_T27 x0 x1).f1) + ((rd_T27 x0 x2).f1)))).bind fun t125 => (some t125)) else (none)) else (none)) else (none)) else (none))
end
def impl_isDiagonal.f (k : Nat) (l0 : List (S27)) (a1 : Int) (a2 : Int) : Option (Bool) := (impl_within.f a1 0 (wrap64 ((l0.length : Int) - 1))).bind fun t101 => (if t101 = true then ((impl_within.f a2 0 (wrap64 ((l0.length : Int) - 1))).bind fun t102 => (if t102 = true then (if a1 = a2 then (impl_isDiagonal.j0 k l0 a1 a2 (l0.length : Int) true) else (if (l0.length : Int) = 0 then (none) else (if (Int.tmod (wrap64 (a1 + 1)) (l0.length : Int)) = a2 then (impl_isDiagonal.j0 k l0 a1 a2 (l0.length : Int) true) else (impl_isDiagonal.j0 k l0 a1 a2 (l0.length : Int) ((Int.tmod (wrap64 (a2 + 1)) (l0.length : Int)) == a1))))) else (impl_isDiagonal.j0 k l0 a1 a2 (l0.length : Int) true))) else (impl_isDiagonal.j0 k l0 a1 a2 (l0.length : Int) true))
def impl_isDiagonal.T10 : Bool × List (List Nat × List Nat) := (true, [([], []), ([], []), ([0, 1], [0, 1]), ([2], [2]), ([], []), ([], []), ([4, 5], [4, 5]), ([6], [6]), ([], []), ([], []), ([8, 9], [8, 9]), ([10], [10]), ([], []), ([], []), ([13], [13]), ([], []), ([14, 15], [14, 15]), ([12, 16], [12, 16]), ([17], [17]), ([3, 7, 11, 18], [3, 7, 11, 18]), ([], []), ([19, 20], [19, 20])])
def impl_isDiagonal.B10 : List Nat := [0, 0, 3, 7, 0, 0, 48, 112, 0, 0, 768, 1792, 0, 0, 8192, 0, 57344, 126976, 258048, 524287, 0, 2097151]
theorem impl_isDiagonal.tab10 : rtab .any (opsOf Try.f74 10) = impl_isDiagonal.T10 := by kernel_rfl
theorem impl_isDiagonal.bits10 : waitsOk impl_isDiagonal.T10.2 impl_isDiagonal.B10 = true := by kernel_rfl
def impl_isDiagonal.T19 : Bool × List (List Nat × List Nat) := (true, [([], []), ([], []), ([], []), ([1, 2], [1, 2]), ([3], [3]), ([4], [4]), ([], []), ([], []), ([6, 7], [6, 7]), ([8], [8]), ([9], [9]), ([5, 10], [5, 10]), ([], []), ([], []), ([12, 13], [12, 13]), ([14], [14]), ([15], [15]), ([], []), ([], []), ([17, 18], [17, 18]), ([19], [19]), ([20], [20]), ([16, 21], [16, 21]), ([11, 22], [11, 22]), ([0, 23], [0, 23]), ([24, 24, 0, 1, 2, 3, 4, 5, 6, 7, 8, 9, 10, 11, 12, 13, 14, 15, 16, 17, 18, 19, 20, 21, 22, 23, 24], [24])])
def impl_isDiagonal.B19 : List Nat := [0, 0, 0, 6, 14, 30, 0, 0, 192, 448, 960, 2046, 0, 0, 12288, 28672, 61440, 0, 0, 393216, 917504, 1966080, 4190208, 8388606, 16777215, 33554431]
theorem impl_isDiagonal.tab19 : rtab .any (opsOf Try.f74 19) = impl_isDiagonal.T19 := by kernel_rfl
theorem impl_isDiagonal.bits19 : waitsOk impl_isDiagonal.T19.2 impl_isDiagonal.B19 = true := by kernel_rfl
set_option maxHeartbeats 8000000 in
set_option maxRecDepth 100000 in
theorem impl_isDiagonal.calls (k : Nat) (A0 : Option Addr) (c0 : Nat) (l0 : List (S27)) (a1 : Int) (a2 : Int) (r : Bool) (w : World) (hr0 : Kd.C k27 w A0 l0.length l0) (hc0 : l0.length ≤ c0) (h : impl_isDiagonal.f k l0 a1 a2 = some r) :
  Calls Try.prog 74 #[.slice A0 l0.length c0, .int .i64 a1, .int .i64 a2] w fun e w' => e = .returned (.bool r) ∧ Below w.heap.size w w' := by
 have hu27 := Try.underlying27; have HR0 := Ak hr0; have HC0 := Ak hc0; clear hr0 hc0; have HB := Ak (Below.refl w.heap.size w); have H : ((impl_within.f a1 0 (wrap64 ((l0.length : Int) - 1))).bind fun t101 => (if t101 = true then ((impl_within.f a2 0 (wrap64 ((l0.length : Int) - 1))).bind fun t102 => (if t102 = true then (if a1 = a2 then (impl_isDiagonal.j0 k l0 a1 a2 (l0.length : Int) true) else (if (l0.length : Int) = 0 then (none) else (if (Int.tmod (wrap64 (a1 + 1)) (l0.length : Int)) = a2 then (impl_isDiagonal.j0 k l0 a1 a2 (l0.length : Int) true) else (impl_isDiagonal.j0 k l0 a1 a2 (l0.length : Int) ((Int.tmod (wrap64 (a2 + 1)) (l0.length : Int)) == a1))))) else (impl_isDiagonal.j0 k l0 a1 a2 (l0.length : Int) true))) else (impl_isDiagonal.j0 k l0 a1 a2 (l0.length : Int) true))) = some r := h; clear h; have HC4 := Ak H; clear H
 go_enter Try.func74, Try.ntmps74
 go_upto_region 2 with (fail)
 go_cut [47] (fun v47 wc => ∃ (kq : Nat) (x47_3 : Bool), v47 = .bool x47_3 ∧ Aside0 (impl_isDiagonal.j0 kq l0 a1 a2 (l0.length : Int) x47_3 = some r) ∧ Aside0 (kq ≤ k) ∧ Aside0 (Below w.heap.size w wc))
 case first =>
  have H := HC4.out; clear HC4; replace H := Option.bind_eq_some_iff.mp H; obtain ⟨t101, A50, H⟩ := H; replace H : (if t101 = true then ((impl_within.f a2 0 (wrap64 ((l0.length : Int) - 1))).bind fun t102 => (if t102 = true then (if a1 = a2 then (impl_isDiagonal.j0 k l0 a1 a2 (l0.length : Int) true) else (if (l0.length : Int) = 0 then (none) else (if (Int.tmod (wrap64 (a1 + 1)) (l0.length : Int)) = a2 then (impl_isDiagonal.j0 k l0 a1 a2 (l0.length : Int) true) else (impl_isDiagonal.j0 k l0 a1 a2 (l0.length : Int) ((Int.tmod (wrap64 (a2 + 1)) (l0.length : Int)) == a1))))) else (impl_isDiagonal.j0 k l0 a1 a2 (l0.length : Int) true))) else (impl_isDiagonal.j0 k l0 a1 a2 (l0.length : Int) true)) = some r := H; have A5 := Ak A50; clear A50
  by_cases c6 : t101 = true
  ·subst c6; have H1 : ((impl_within.f a2 0 (wrap64 ((l0.length : Int) - 1))).bind fun t102 => (if t102 = true then (if a1 = a2 then (impl_isDiagonal.j0 k l0 a1 a2 (l0.length : Int) true) else (if (l0.length : Int) = 0 then (none) else (if (Int.tmod (wrap64 (a1 + 1)) (l0.length : Int)) = a2 then (impl_isDiagonal.j0 k l0 a1 a2 (l0.length : Int) true) else (impl_isDiagonal.j0 k l0 a1 a2 (l0.length : Int) ((Int.tmod (wrap64 (a2 + 1)) (l0.length : Int)) == a1))))) else (impl_isDiagonal.j0 k l0 a1 a2 (l0.length : Int) true))) = some r := by rw [if_pos rfl] at H; exact H
   clear H; have H := H1; clear H1; replace H := Option.bind_eq_some_iff.mp H; obtain ⟨t102, A70, H⟩ := H; replace H : (if t102 = true then (if a1 = a2 then (impl_isDiagonal.j0 k l0 a1 a2 (l0.length : Int) true) else (if (l0.length : Int) = 0 then (none) else (if (Int.tmod (wrap64 (a1 + 1)) (l0.length : Int)) = a2 then (impl_isDiagonal.j0 k l0 a1 a2 (l0.length : Int) true) else (impl_isDiagonal.j0 k l0 a1 a2 (l0.length : Int) ((Int.tmod (wrap64 (a2 + 1)) (l0.length : Int)) == a1))))) else (impl_isDiagonal.j0 k l0 a1 a2 (l0.length : Int) true)) = some r := H; have A7 := Ak A70; clear A70
   by_cases c8 : t102 = true
   ·subst c8; have H1 : (if a1 = a2 then (impl_isDiagonal.j0 k l0 a1 a2 (l0.length : Int) true) else (if (l0.length : Int) = 0 then (none) else (if (Int.tmod (wrap64 (a1 + 1)) (l0.length : Int)) = a2 then (impl_isDiagonal.j0 k l0 a1 a2 (l0.length : Int) true) else (impl_isDiagonal.j0 k l0 a1 a2 (l0.length : Int) ((Int.tmod (wrap64 (a2 + 1)) (l0.length : Int)) == a1))))) = some r := by rw [if_pos rfl] at H; exact H
    clear H; have H := H1; clear H1
    by_cases c9 : a1 = a2
    ·rw [if_pos c9] at H; have c9b0 : (a1 == a2) = true := beq_iff_eq.mpr c9; have c9b1 : (a1 != a2) = false := bne_eq_false_iff_eq.mpr c9; clear c9
     (first | rw [c9b0] | (simp only [i64_w, i32_w]; rw [c9b0]) | skip)
     have H' := Ak H; clear H
     go_wp2_with (first | ((with_reducible refine gate_callee (f := 61) rfl ?_); refine goesL_ (some 18) rfl rfl Try.func61 (by kernel_rfl) rfl #[.int .i64 a1, .int .i64 0, .int .i64 (wrap64 ((l0.length : Int) - 1))] rfl (by (try simp only [List.map_toArray, List.map_cons, List.map_nil]); first | done | rfl | (simp only [List.length_drop, List.length_take]; rfl)) ?_; (with_reducible refine (impl_within.calls a1 0 (wrap64 ((l0.length : Int) - 1)) true _ A5.out).mono ?_); rintro e w' ⟨rfl, ⟨nd, rfl⟩⟩; refine ⟨_, rfl, ?_⟩) | (go_at_call 61; (with_reducible refine (impl_within.calls a2 0 (wrap64 ((l0.length : Int) - 1)) true _ A7.out).mono ?_); rintro e w' ⟨rfl, ⟨nd, rfl⟩⟩))
     go_meet
     case rel => exact ⟨_, (true), (by first | rfl | (simp; done) | (simp [*]; done)), H', ⟨by first | omega | exact Nat.le_refl _⟩, ⟨by repeat (first | (with_reducible first | exact HB.out | apply bA | apply bD | apply bE) | exact HB.out)⟩⟩
    ·rw [if_neg c9] at H; have c9b0 : (a1 == a2) = false := beq_eq_false_iff_ne.mpr c9; have c9b1 : (a1 != a2) = true := bne_iff_ne.mpr c9
     (first | rw [c9b0] | (simp only [i64_w, i32_w]; rw [c9b0]) | skip)
     by_cases c10 : (l0.length : Int) = 0
     ·rw [if_pos c10] at H; exact absurd H (by simp)
     ·rw [if_neg c10] at H; have c10b0 : ((l0.length : Int) == 0) = false := beq_eq_false_iff_ne.mpr c10; have c10b1 : ((l0.length : Int) != 0) = true := bne_iff_ne.mpr c10; have c10b2 : ¬ (l0 = []) := fun h_ => c10 (by rw [h_]; rfl)
      by_cases c11 : (Int.tmod (wrap64 (a1 + 1)) (l0.length : Int)) = a2
      ·rw [if_pos c11] at H; have c11b0 : ((Int.tmod (wrap64 (a1 + 1)) (l0.length : Int)) == a2) = true := beq_iff_eq.mpr c11; have c11b1 : ((Int.tmod (wrap64 (a1 + 1)) (l0.length : Int)) != a2) = false := bne_eq_false_iff_eq.mpr c11; clear c11; have H' := Ak H; clear H
       go_wp2_with (first | ((with_reducible refine gate_callee (f := 61) rfl ?_); refine goesL_ (some 18) rfl rfl Try.func61 (by kernel_rfl) rfl #[.int .i64 a1, .int .i64 0, .int .i64 (wrap64 ((l0.length : Int) - 1))] rfl (by (try simp only [List.map_toArray, List.map_cons, List.map_nil]); first | done | rfl | (simp only [List.length_drop, List.length_take]; rfl)) ?_; (with_reducible refine (impl_within.calls a1 0 (wrap64 ((l0.length : Int) - 1)) true _ A5.out).mono ?_); rintro e w' ⟨rfl, ⟨nd, rfl⟩⟩; refine ⟨_, rfl, ?_⟩) | (go_at_call 61; (with_reducible refine (impl_within.calls a2 0 (wrap64 ((l0.length : Int) - 1)) true _ A7.out).mono ?_); rintro e w' ⟨rfl, ⟨nd, rfl⟩⟩))
       go_meet
       case rel => exact ⟨_, (true), (by first | rfl | (simp; done) | (simp [*]; done)), H', ⟨by first | omega | exact Nat.le_refl _⟩, ⟨by repeat (first | (with_reducible first | exact HB.out | apply bA | apply bD | apply bE) | exact HB.out)⟩⟩
      ·rw [if_neg c11] at H; have c11b0 : ((Int.tmod (wrap64 (a1 + 1)) (l0.length : Int)) == a2) = false := beq_eq_false_iff_ne.mpr c11; have c11b1 : ((Int.tmod (wrap64 (a1 + 1)) (l0.length : Int)) != a2) = true := bne_iff_ne.mpr c11; have H' := Ak H; clear H
       go_wp2_with (first | ((with_reducible refine gate_callee (f := 61) rfl ?_); refine goesL_ (some 18) rfl rfl Try.func61 (by kernel_rfl) rfl #[.int .i64 a1, .int .i64 0, .int .i64 (wrap64 ((l0.length : Int) - 1))] rfl (by (try simp only [List.map_toArray, List.map_cons, List.map_nil]); first | done | rfl | (simp only [List.length_drop, List.length_take]; rfl)) ?_; (with_reducible refine (impl_within.calls a1 0 (wrap64 ((l0.length : Int) - 1)) true _ A5.out).mono ?_); rintro e w' ⟨rfl, ⟨nd, rfl⟩⟩; refine ⟨_, rfl, ?_⟩) | (go_at_call 61; (with_reducible refine (impl_within.calls a2 0 (wrap64 ((l0.length : Int) - 1)) true _ A7.out).mono ?_); rintro e w' ⟨rfl, ⟨nd, rfl⟩⟩))
       go_meet
       case rel => exact ⟨_, (((Int.tmod (wrap64 (a2 + 1)) (l0.length : Int)) == a1)), (by first | rfl | (simp; done) | (simp [*]; done)), H', ⟨by first | omega | exact Nat.le_refl _⟩, ⟨by repeat (first | (with_reducible first | exact HB.out | apply bA | apply bD | apply bE) | exact HB.out)⟩⟩
   ·replace c8 := Bool.eq_false_iff.mpr c8; subst c8; have H1 : (impl_isDiagonal.j0 k l0 a1 a2 (l0.length : Int) true) = some r := by rw [if_neg (show ¬ (false = true) by decide)] at H; exact H
    clear H; have H := H1; clear H1; have H' := Ak H; clear H
    go_wp2_with (first | ((with_reducible refine gate_callee (f := 61) rfl ?_); refine goesL_ (some 18) rfl rfl Try.func61 (by kernel_rfl) rfl #[.int .i64 a1, .int .i64 0, .int .i64 (wrap64 ((l0.length : Int) - 1))] rfl (by (try simp only [List.map_toArray, List.map_cons, List.map_nil]); first | done | rfl | (simp only [List.length_drop, List.length_take]; rfl)) ?_; (with_reducible refine (impl_within.calls a1 0 (wrap64 ((l0.length : Int) - 1)) true _ A5.out).mono ?_); rintro e w' ⟨rfl, ⟨nd, rfl⟩⟩; refine ⟨_, rfl, ?_⟩) | (go_at_call 61; (with_reducible refine (impl_within.calls a2 0 (wrap64 ((l0.length : Int) - 1)) false _ A7.out).mono ?_); rintro e w' ⟨rfl, ⟨nd, rfl⟩⟩))
    go_meet
    case rel => exact ⟨_, (true), (by first | rfl | (simp; done) | (simp [*]; done)), H', ⟨by first | omega | exact Nat.le_refl _⟩, ⟨by repeat (first | (with_reducible first | exact HB.out | apply bA | apply bD | apply bE) | exact HB.out)⟩⟩
  ·replace c6 := Bool.eq_false_iff.mpr c6; subst c6; have H1 : (impl_isDiagonal.j0 k l0 a1 a2 (l0.length : Int) true) = some r := by rw [if_neg (show ¬ (false = true) by decide)] at H; exact H
   clear H; have H := H1; clear H1; have H' := Ak H; clear H
   go_wp2_with (first | ((with_reducible refine gate_callee (f := 61) rfl ?_); refine goesL_ (some 18) rfl rfl Try.func61 (by kernel_rfl) rfl #[.int .i64 a1, .int .i64 0, .int .i64 (wrap64 ((l0.length : Int) - 1))] rfl (by (try simp only [List.map_toArray, List.map_cons, List.map_nil]); first | done | rfl | (simp only [List.length_drop, List.length_take]; rfl)) ?_; (with_reducible refine (impl_within.calls a1 0 (wrap64 ((l0.length : Int) - 1)) false _ A5.out).mono ?_); rintro e w' ⟨rfl, ⟨nd, rfl⟩⟩; refine ⟨_, rfl, ?_⟩))
   go_meet
   case rel => exact ⟨_, (true), (by first | rfl | (simp; done) | (simp [*]; done)), H', ⟨by first | omega | exact Nat.le_refl _⟩, ⟨by repeat (first | (with_reducible first | exact HB.out | apply bA | apply bD | apply bE) | exact HB.out)⟩⟩
 case rest =>
  clear HC4
  try clear c1
  try clear p2
  try clear c6
  try clear p6
  try clear c7
  try clear c8
  try clear c9
  try clear c9b0
  try clear c9b1
  try clear c10
  try clear c10b0
  try clear c10b1
  try clear c10b2
  try clear c11
  try clear c11b0
  try clear c11b1
  obtain ⟨kq, x47_3, rfl, HA, HJ3, HB⟩ := hcut
  cases kq with
  | zero => exact absurd HA.out (by simp [impl_isDiagonal.j0])
  | succ kj3 =>
   have H := HA.out; clear HA; simp only [impl_isDiagonal.j0] at H
   by_cases c12 : x47_3 = true
   ·subst c12; have H1 : (some false) = some r := by rw [if_pos rfl] at H; exact H
    clear H; have H := H1; clear H1; obtain rfl := Option.some.inj H
    go_wp2
    go_ret
    exact ⟨by first | rfl | (simp [*, errW_none, errW_some] <;> rfl), by repeat (first | (with_reducible first | exact HB.out | apply bA | apply bD | apply bE) | exact HB.out)⟩
   ·replace c12 := Bool.eq_false_iff.mpr c12; subst c12; have H1 : (impl_isDiagonal.l0 kj3 l0 a1 a2 (l0.length : Int) (l0.length : Int) 0) = some r := by rw [if_neg (show ¬ (false = true) by decide)] at H; exact H
    clear H; have H := H1; clear H1; have H' := Ak H; clear H
    go_wp2
    go_loopg [49] kj3 (fun kq v49 w' => ∃ (x49_2 : Int), v49 = .int .i64 x49_2 ∧ Aside0 (impl_isDiagonal.l0 kq l0 a1 a2 (l0.length : Int) (l0.length : Int) x49_2 = some r) ∧ Aside0 (kq ≤ kj3) ∧ Aside0 (Below w.heap.size w w'))
    case atStart => exact ⟨(0), (by first | rfl | (simp; done) | (simp [*]; done)), H', ⟨Nat.le_refl _⟩, ⟨by repeat (first | (with_reducible first | exact HB.out | apply bA | apply bD | apply bE) | exact HB.out)⟩⟩
    case round =>
     clear H'
     try clear c1
     try clear p2
     try clear c6
     try clear p6
     try clear c7
     try clear c8
     try clear c9
     try clear c9b0
     try clear c9b1
     try clear c10
     try clear c10b0
     try clear c10b1
     try clear c10b2
     try clear c11
     try clear c11b0
     try clear c11b1
     try clear c12
     try clear p2
     try clear p6
     obtain ⟨x49_2, rfl, HA, HK2, HB⟩ := hrel
     cases gk with
     | zero => exact absurd HA.out (by simp [impl_isDiagonal.l0])
     | succ k2 =>
      have H := HA.out; clear HA; simp only [impl_isDiagonal.l0] at H
      by_cases c13 : x49_2 < (l0.length : Int)
      ·rw [if_pos c13] at H; have c13b0 : decide (x49_2 < (l0.length : Int)) = true := decide_eq_true c13; clear c13; have HC14 := Ak H; clear H
       go_upto_region 8 with (fail)
       go_cut [75] (fun v75 wc => ∃ (kq : Nat) (x75_13 : Bool), v75 = .bool x75_13 ∧ Aside0 (impl_isDiagonal.j2 kq l0 a1 a2 (l0.length : Int) x49_2 0 (l0.length : Int) x49_2 x75_13 = some r) ∧ Aside0 (kq ≤ k2) ∧ Aside0 (Below w.heap.size w wc))
       case first =>
        have H := HC14.out; clear HC14
        by_cases c15 : x49_2 = a1
        ·rw [if_pos c15] at H; have c15b0 : (x49_2 == a1) = true := beq_iff_eq.mpr c15; have c15b1 : (x49_2 != a1) = false := bne_eq_false_iff_eq.mpr c15; clear c15
         (first | rw [c15b0] | (simp only [i64_w, i32_w]; rw [c15b0]) | skip)
         have H' := Ak H; clear H
         go_wp2
         go_meet
         case rel => exact ⟨_, (true), (by first | rfl | (simp; done) | (simp [*]; done)), H', ⟨by have := HJ3.out; have := HK2.out; first | omega | exact Nat.le_refl _⟩, ⟨by repeat (first | (with_reducible first | exact HB.out | apply bA | apply bD | apply bE) | exact HB.out)⟩⟩
        ·rw [if_neg c15] at H; have c15b0 : (x49_2 == a1) = false := beq_eq_false_iff_ne.mpr c15; have c15b1 : (x49_2 != a1) = true := bne_iff_ne.mpr c15
         (first | rw [c15b0] | (simp only [i64_w, i32_w]; rw [c15b0]) | skip)
         by_cases c16 : x49_2 = a2
         ·rw [if_pos c16] at H; have c16b0 : (x49_2 == a2) = true := beq_iff_eq.mpr c16; have c16b1 : (x49_2 != a2) = false := bne_eq_false_iff_eq.mpr c16; clear c16; have H' := Ak H; clear H
          go_wp2
          go_meet
          case rel => exact ⟨_, (true), (by first | rfl | (simp; done) | (simp [*]; done)), H', ⟨by have := HJ3.out; have := HK2.out; first | omega | exact Nat.le_refl _⟩, ⟨by repeat (first | (with_reducible first | exact HB.out | apply bA | apply bD | apply bE) | exact HB.out)⟩⟩
         ·rw [if_neg c16] at H; have c16b0 : (x49_2 == a2) = false := beq_eq_false_iff_ne.mpr c16; have c16b1 : (x49_2 != a2) = true := bne_iff_ne.mpr c16
          by_cases c17 : (l0.length : Int) = 0
          ·rw [if_pos c17] at H; exact absurd H (by simp)
          ·rw [if_neg c17] at H; have c17b0 : ((l0.length : Int) == 0) = false := beq_eq_false_iff_ne.mpr c17; have c17b1 : ((l0.length : Int) != 0) = true := bne_iff_ne.mpr c17; have c17b2 : ¬ (l0 = []) := fun h_ => c17 (by rw [h_]; rfl)
           by_cases c18 : (Int.tmod (wrap64 (x49_2 + 1)) (l0.length : Int)) = a1
           ·rw [if_pos c18] at H; have c18b0 : ((Int.tmod (wrap64 (x49_2 + 1)) (l0.length : Int)) == a1) = true := beq_iff_eq.mpr c18; have c18b1 : ((Int.tmod (wrap64 (x49_2 + 1)) (l0.length : Int)) != a1) = false := bne_eq_false_iff_eq.mpr c18; clear c18; have H' := Ak H; clear H
            go_wp2
            go_meet
            case rel => exact ⟨_, (true), (by first | rfl | (simp; done) | (simp [*]; done)), H', ⟨by have := HJ3.out; have := HK2.out; first | omega | exact Nat.le_refl _⟩, ⟨by repeat (first | (with_reducible first | exact HB.out | apply bA | apply bD | apply bE) | exact HB.out)⟩⟩
           ·rw [if_neg c18] at H; have c18b0 : ((Int.tmod (wrap64 (x49_2 + 1)) (l0.length : Int)) == a1) = false := beq_eq_false_iff_ne.mpr c18; have c18b1 : ((Int.tmod (wrap64 (x49_2 + 1)) (l0.length : Int)) != a1) = true := bne_iff_ne.mpr c18; have H' := Ak H; clear H
            go_wp2
            go_meet
            case rel => exact ⟨_, (((Int.tmod (wrap64 (x49_2 + 1)) (l0.length : Int)) == a2)), (by first | rfl | (simp; done) | (simp [*]; done)), H', ⟨by have := HJ3.out; have := HK2.out; first | omega | exact Nat.le_refl _⟩, ⟨by repeat (first | (with_reducible first | exact HB.out | apply bA | apply bD | apply bE) | exact HB.out)⟩⟩
       case rest =>
        clear HC14
        try clear c1
        try clear p2
        try clear c6
        try clear p6
        try clear c7
        try clear c8
        try clear c9
        try clear c9b0
        try clear c9b1
        try clear c10
        try clear c10b0
        try clear c10b1
        try clear c10b2
        try clear c11
        try clear c11b0
        try clear c11b1
        try clear c12
        try clear c13
        try clear c13b0
        try clear c15
        try clear c15b0
        try clear c15b1
        try clear c16
        try clear c16b0
        try clear c16b1
        try clear c17
        try clear c17b0
        try clear c17b1
        try clear c17b2
        try clear c18
        try clear c18b0
        try clear c18b1
        try clear p2
        try clear p6
        obtain ⟨kq, x75_13, rfl, HA, HJ13, HB⟩ := hcut
        cases kq with
        | zero => exact absurd HA.out (by simp [impl_isDiagonal.j2])
        | succ kj13 =>
         have H := HA.out; clear HA; simp only [impl_isDiagonal.j2] at H
         by_cases c19 : x75_13 = true
         ·subst c19; have H1 : (if 0 ≤ a1 then (if a1 < (l0.length : Int) then (if 0 ≤ a2 then (if a2 < (l0.length : Int) then (if 0 ≤ x49_2 then (if x49_2 < (l0.length : Int) then (if (l0.length : Int) = 0 then (none) else (if 0 ≤ (Int.tmod (wrap64 (x49_2 + 1)) (l0.length : Int)) then (if (Int.tmod (wrap64 (x49_2 + 1)) (l0.length : Int)) < (l0.length : Int) then ((impl_meet.f ((rd_T27 l0 a1).f0) ((rd_T27 l0 a1).f1) ((rd_T27 l0 a2).f0) ((rd_T27 l0 a2).f1) ((rd_T27 l0 x49_2).f0) ((rd_T27 l0 x49_2).f1) ((rd_T27 l0 (Int.tmod (wrap64 (x49_2 + 1)) (l0.length : Int))).f0) ((rd_T27 l0 (Int.tmod (wrap64 (x49_2 + 1)) (l0.length : Int))).f1)).bind fun t107 => (if t107 = 1 then (impl_isDiagonal.l0 kj13 l0 a1 a2 (l0.length : Int) (l0.length : Int) (wrap64 (x49_2 + 1))) else (some false))) else (none)) else (none))) else (none)) else (none)) else (none)) else (none)) else (none)) else (none)) = some r := by rw [if_pos rfl] at H; exact H
          clear H; have H := H1; clear H1
          by_cases c20 : 0 ≤ a1
          ·rw [if_pos c20] at H; have c20b0 : decide (0 ≤ a1) = true := decide_eq_true c20; clear c20
           by_cases c21 : a1 < (l0.length : Int)
           ·rw [if_pos c21] at H; have c21b0 : decide (a1 < (l0.length : Int)) = true := decide_eq_true c21; clear c21
            by_cases c22 : 0 ≤ a2
            ·rw [if_pos c22] at H; have c22b0 : decide (0 ≤ a2) = true := decide_eq_true c22; clear c22
             by_cases c23 : a2 < (l0.length : Int)
             ·rw [if_pos c23] at H; have c23b0 : decide (a2 < (l0.length : Int)) = true := decide_eq_true c23; clear c23
              by_cases c24 : 0 ≤ x49_2
              ·rw [if_pos c24] at H; have c24b0 : decide (0 ≤ x49_2) = true := decide_eq_true c24; clear c24
               by_cases c25 : x49_2 < (l0.length : Int)
               ·rw [if_pos c25] at H; have c25b0 : decide (x49_2 < (l0.length : Int)) = true := decide_eq_true c25; clear c25
                by_cases c26 : (l0.length : Int) = 0
                ·rw [if_pos c26] at H; exact absurd H (by simp)
                ·rw [if_neg c26] at H; have c26b0 : ((l0.length : Int) == 0) = false := beq_eq_false_iff_ne.mpr c26; have c26b1 : ((l0.length : Int) != 0) = true := bne_iff_ne.mpr c26; have c26b2 : ¬ (l0 = []) := fun h_ => c26 (by rw [h_]; rfl)
                 obtain ⟨ji27, hji27⟩ : ∃ j_ : Int, (Int.tmod (wrap64 (x49_2 + 1)) (l0.length : Int)) = j_ := ⟨_, rfl⟩; replace H : (if 0 ≤ (ji27) then (if (ji27) < (l0.length : Int) then ((impl_meet.f ((rd_T27 l0 a1).f0) ((rd_T27 l0 a1).f1) ((rd_T27 l0 a2).f0) ((rd_T27 l0 a2).f1) ((rd_T27 l0 x49_2).f0) ((rd_T27 l0 x49_2).f1) ((rd_T27 l0 (ji27)).f0) ((rd_T27 l0 (ji27)).f1)).bind fun t107 => (if t107 = 1 then (impl_isDiagonal.l0 kj13 l0 a1 a2 (l0.length : Int) (l0.length : Int) (wrap64 (x49_2 + 1))) else (some false))) else (none)) else (none)) = some r := by first | (rw [hji27] at H; exact H) | (simp only [hji27] at H ⊢; exact H)
                 by_cases c28 : 0 ≤ (ji27)
                 ·rw [if_pos c28] at H; have c28b0 : decide (0 ≤ (ji27)) = true := decide_eq_true c28; clear c28
                  by_cases c29 : (ji27) < (l0.length : Int)
                  ·rw [if_pos c29] at H; have c29b0 : decide ((ji27) < (l0.length : Int)) = true := decide_eq_true c29; clear c29; replace H := Option.bind_eq_some_iff.mp H; obtain ⟨t107, A300, H⟩ := H; replace H : (if t107 = 1 then (impl_isDiagonal.l0 kj13 l0 a1 a2 (l0.length : Int) (l0.length : Int) (wrap64 (x49_2 + 1))) else (some false)) = some r := H; have A30 := Ak A300; clear A300
                   by_cases c31 : t107 = 1
                   ·rw [if_pos c31] at H; have c31b0 : (t107 == 1) = true := beq_iff_eq.mpr c31; have c31b1 : (t107 != 1) = false := bne_eq_false_iff_eq.mpr c31; clear c31; have H' := Ak H; clear H
                    try go_wp2
                    have n0_ := Ak (below_drew1 HB.out); clear HB; have HB := n0_; clear n0_; have p103 : 0 ≤ (a1 : Int) := of_decide_eq_true (by first | (with_reducible assumption) | assumption); have q103 : a1 < (l0.length : Int) := of_decide_eq_true (by first | (with_reducible assumption) | assumption); obtain ⟨ad103, e103, hx103_0, hx103_1⟩ := at_T27 HR0.out a1 p103 q103; have hw103_1 := hx103_1; have hw103_0 := hx103_0; cases e103; replace hx103_0 := cB HB.out hx103_0; replace hx103_1 := cB HB.out hx103_1; replace p103 := eq_true p103; replace q103 := eq_true q103; have p104 : 0 ≤ (a2 : Int) := of_decide_eq_true (by first | (with_reducible assumption) | assumption); have q104 : a2 < (l0.length : Int) := of_decide_eq_true (by first | (with_reducible assumption) | assumption); obtain ⟨ad104, e104, hx104_0, hx104_1⟩ := at_T27 HR0.out a2 p104 q104; have hw104_1 := hx104_1; have hw104_0 := hx104_0; obtain rfl : ad103 = ad104 := (by injection e104); replace hx104_0 := cB HB.out hx104_0; replace hx104_1 := cB HB.out hx104_1; replace p104 := eq_true p104; replace q104 := eq_true q104; have p105 : 0 ≤ (x49_2 : Int) := of_decide_eq_true (by first | (with_reducible assumption) | assumption); have q105 : x49_2 < (l0.length : Int) := of_decide_eq_true (by first | (with_reducible assumption) | assumption); obtain ⟨ad105, e105, hx105_0, hx105_1⟩ := at_T27 HR0.out x49_2 p105 q105; have hw105_1 := hx105_1; have hw105_0 := hx105_0; obtain rfl : ad103 = ad105 := (by injection e105); replace hx105_0 := cB HB.out hx105_0; replace hx105_1 := cB HB.out hx105_1; replace p105 := eq_true p105; replace q105 := eq_true q105; have p106 : 0 ≤ ((ji27) : Int) := of_decide_eq_true (by first | (with_reducible assumption) | assumption); have q106 : (ji27) < (l0.length : Int) := of_decide_eq_true (by first | (with_reducible assumption) | assumption); obtain ⟨ad106, e106, hx106_0, hx106_1⟩ := at_T27 HR0.out (ji27) p106 q106; have hw106_1 := hx106_1; have hw106_0 := hx106_0; obtain rfl : ad103 = ad106 := (by injection e106); replace hx106_0 := cB HB.out hx106_0; replace hx106_1 := cB HB.out hx106_1; replace p106 := eq_true p106; replace q106 := eq_true q106; refine start_ (n := 22) (S := fun w' => w'.cell? (ad103.add ((a1).toNat * 2)) = some (.int .i64 ((rd_T27 l0 a1).f0)) ∧ w'.cell? ⟨(ad103.add ((a1).toNat * 2)).block, (ad103.add ((a1).toNat * 2)).off + 1, none⟩ = some (.int .i64 ((rd_T27 l0 a1).f1)) ∧ w'.cell? (ad103.add ((a2).toNat * 2)) = some (.int .i64 ((rd_T27 l0 a2).f0)) ∧ w'.cell? ⟨(ad103.add ((a2).toNat * 2)).block, (ad103.add ((a2).toNat * 2)).off + 1, none⟩ = some (.int .i64 ((rd_T27 l0 a2).f1)) ∧ w'.cell? (ad103.add ((x49_2).toNat * 2)) = some (.int .i64 ((rd_T27 l0 x49_2).f0)) ∧ w'.cell? ⟨(ad103.add ((x49_2).toNat * 2)).block, (ad103.add ((x49_2).toNat * 2)).off + 1, none⟩ = some (.int .i64 ((rd_T27 l0 x49_2).f1)) ∧ w'.cell? (ad103.add (((ji27)).toNat * 2)) = some (.int .i64 ((rd_T27 l0 (ji27)).f0)) ∧ w'.cell? ⟨(ad103.add (((ji27)).toNat * 2)).block, (ad103.add (((ji27)).toNat * 2)).off + 1, none⟩ = some (.int .i64 ((rd_T27 l0 (ji27)).f1))) (ds := []) #[F,F,F,F,F,F,F,F,F,F,F,F,F,F,F,F,F,F,F,F,F,F] (by kernel_rfl) rfl rfl ⟨((HB.out.cell (World.block_lt_of_cell? w _ hw103_0)).trans hw103_0), ((HB.out.cell (World.block_lt_of_cell? w _ hw103_1)).trans hw103_1), ((HB.out.cell (World.block_lt_of_cell? w _ hw104_0)).trans hw104_0), ((HB.out.cell (World.block_lt_of_cell? w _ hw104_1)).trans hw104_1), ((HB.out.cell (World.block_lt_of_cell? w _ hw105_0)).trans hw105_0), ((HB.out.cell (World.block_lt_of_cell? w _ hw105_1)).trans hw105_1), ((HB.out.cell (World.block_lt_of_cell? w _ hw106_0)).trans hw106_0), ((HB.out.cell (World.block_lt_of_cell? w _ hw106_1)).trans hw106_1)⟩ (fun hHeld => ?_); refine with_tabW impl_isDiagonal.tab10 impl_isDiagonal.bits10 (fun HT_ HW_ => ?_); generalize wc.drew = w32 at HB hx103_0 hx103_1 hx104_0 hx104_1 hx105_0 hx105_1 hx106_0 hx106_1 hHeld ⊢; refine pure_ (i := 0) (N := some 76) (v := ?_) (a' := ?_) #[T,F,F,F,F,F,F,F,F,F,F,F,F,F,F,F,F,F,F,F,F,F] rfl rfl (any_of HT_.out (by kernel_rfl)) (fun _ _ _ h => h) (Or.inl ⟨by rfl, ?_⟩) ?_ ?_; rotate_left
                    ·intro w'; go_simp; with_reducible rfl
                    rotate_left
                    ·simp only [Act.put, sA, sB, sC, sD, sE]; rfl
                    refine pure_ (i := 1) (N := some 77) (v := ?_) (a' := ?_) #[T,T,F,F,F,F,F,F,F,F,F,F,F,F,F,F,F,F,F,F,F,F] rfl rfl (any_of HT_.out (by kernel_rfl)) (fun _ _ _ h => h) (Or.inl ⟨by rfl, ?_⟩) ?_ ?_; rotate_left
                    ·intro w'; go_simp; with_reducible rfl
                    rotate_left
                    ·simp only [Act.put, sA, sB, sC, sD, sE]; rfl
                    refine pure_ (i := 2) (N := some 78) (v := ?_) (a' := ?_) #[T,T,T,F,F,F,F,F,F,F,F,F,F,F,F,F,F,F,F,F,F,F] rfl rfl (any_of HT_.out (by kernel_rfl)) (fun _ _ _ h => h) (Or.inl ⟨by rfl, ?_⟩) ?_ ?_; rotate_left
                    ·intro w'; go_simp; with_reducible rfl
                    rotate_left
                    ·simp only [Act.put, sA, sB, sC, sD, sE]; rfl
                    refine pure_ (i := 4) (N := some 80) (v := ?_) (a' := ?_) #[T,T,T,F,T,F,F,F,F,F,F,F,F,F,F,F,F,F,F,F,F,F] rfl rfl (any_of HT_.out (by kernel_rfl)) (fun _ _ _ h => h) (Or.inl ⟨by rfl, ?_⟩) ?_ ?_; rotate_left
                    ·intro w'; go_simp; with_reducible rfl
                    rotate_left
                    ·simp only [Act.put, sA, sB, sC, sD, sE]; rfl
                    refine pure_ (i := 5) (N := some 81) (v := ?_) (a' := ?_) #[T,T,T,F,T,T,F,F,F,F,F,F,F,F,F,F,F,F,F,F,F,F] rfl rfl (any_of HT_.out (by kernel_rfl)) (fun _ _ _ h => h) (Or.inl ⟨by rfl, ?_⟩) ?_ ?_; rotate_left
                    ·intro w'; go_simp; with_reducible rfl
                    rotate_left
                    ·simp only [Act.put, sA, sB, sC, sD, sE]; rfl
                    refine pure_ (i := 6) (N := some 82) (v := ?_) (a' := ?_) #[T,T,T,F,T,T,T,F,F,F,F,F,F,F,F,F,F,F,F,F,F,F] rfl rfl (any_of HT_.out (by kernel_rfl)) (fun _ _ _ h => h) (Or.inl ⟨by rfl, ?_⟩) ?_ ?_; rotate_left
                    ·intro w'; go_simp; with_reducible rfl
                    rotate_left
                    ·simp only [Act.put, sA, sB, sC, sD, sE]; rfl
                    refine pure_ (i := 8) (N := some 84) (v := ?_) (a' := ?_) #[T,T,T,F,T,T,T,F,T,F,F,F,F,F,F,F,F,F,F,F,F,F] rfl rfl (any_of HT_.out (by kernel_rfl)) (fun _ _ _ h => h) (Or.inl ⟨by rfl, ?_⟩) ?_ ?_; rotate_left
                    ·intro w'; go_simp; with_reducible rfl
                    rotate_left
                    ·simp only [Act.put, sA, sB, sC, sD, sE]; rfl
                    refine pure_ (i := 9) (N := some 85) (v := ?_) (a' := ?_) #[T,T,T,F,T,T,T,F,T,T,F,F,F,F,F,F,F,F,F,F,F,F] rfl rfl (any_of HT_.out (by kernel_rfl)) (fun _ _ _ h => h) (Or.inl ⟨by rfl, ?_⟩) ?_ ?_; rotate_left
                    ·intro w'; go_simp; with_reducible rfl
                    rotate_left
                    ·simp only [Act.put, sA, sB, sC, sD, sE]; rfl
                    refine pure_ (i := 10) (N := some 86) (v := ?_) (a' := ?_) #[T,T,T,F,T,T,T,F,T,T,T,F,F,F,F,F,F,F,F,F,F,F] rfl rfl (any_of HT_.out (by kernel_rfl)) (fun _ _ _ h => h) (Or.inl ⟨by rfl, ?_⟩) ?_ ?_; rotate_left
                    ·intro w'; go_simp; with_reducible rfl
                    rotate_left
                    ·simp only [Act.put, sA, sB, sC, sD, sE]; rfl
                    refine pure_ (i := 12) (N := some 88) (v := ?_) (a' := ?_) #[T,T,T,F,T,T,T,F,T,T,T,F,T,F,F,F,F,F,F,F,F,F] rfl rfl (any_of HT_.out (by kernel_rfl)) (fun _ _ _ h => h) (Or.inl ⟨by rfl, ?_⟩) ?_ ?_; rotate_left
                    ·intro w'; go_simp; with_reducible rfl
                    rotate_left
                    ·simp only [Act.put, sA, sB, sC, sD, sE]; rfl
                    refine pure_ (i := 13) (N := some 89) (v := ?_) (a' := ?_) #[T,T,T,F,T,T,T,F,T,T,T,F,T,T,F,F,F,F,F,F,F,F] rfl rfl (any_of HT_.out (by kernel_rfl)) (fun _ _ _ h => h) (Or.inl ⟨by rfl, ?_⟩) ?_ ?_; rotate_left
                    ·intro w'; go_simp; with_reducible rfl
                    rotate_left
                    ·simp only [Act.put, sA, sB, sC, sD, sE]; rfl
                    refine pure_ (i := 14) (N := some 90) (v := ?_) (a' := ?_) #[T,T,T,F,T,T,T,F,T,T,T,F,T,T,T,F,F,F,F,F,F,F] rfl rfl (any_of HT_.out (by kernel_rfl)) (fun _ _ _ h => h) (Or.inl ⟨by rfl, ?_⟩) ?_ ?_; rotate_left
                    ·intro w'; go_simp; with_reducible rfl
                    rotate_left
                    ·simp only [Act.put, sA, sB, sC, sD, sE]; rfl
                    refine pure_ (i := 15) (N := some 91) (v := ?_) (a' := ?_) #[T,T,T,F,T,T,T,F,T,T,T,F,T,T,T,T,F,F,F,F,F,F] rfl rfl (any_of HT_.out (by kernel_rfl)) (fun _ _ _ h => h) (Or.inl ⟨by rfl, ?_⟩) ?_ ?_; rotate_left
                    ·intro w'; go_simp; with_reducible rfl
                    rotate_left
                    ·simp only [Act.put, sA, sB, sC, sD, sE]; rfl
                    refine pure_ (i := 16) (N := some 92) (v := ?_) (a' := ?_) #[T,T,T,F,T,T,T,F,T,T,T,F,T,T,T,T,T,F,F,F,F,F] rfl rfl (any_of HT_.out (by kernel_rfl)) (fun _ _ _ h => h) (Or.inl ⟨by rfl, ?_⟩) ?_ ?_; rotate_left
                    ·intro w'; go_simp; with_reducible rfl
                    rotate_left
                    ·simp only [Act.put, sA, sB, sC, sD, sE]; rfl
                    refine pure_ (i := 17) (N := some 93) (v := ?_) (a' := ?_) #[T,T,T,F,T,T,T,F,T,T,T,F,T,T,T,T,T,T,F,F,F,F] rfl rfl (any_of HT_.out (by kernel_rfl)) (fun _ _ _ h => h) (Or.inl ⟨by rfl, ?_⟩) ?_ ?_; rotate_left
                    ·intro w'; go_simp; with_reducible rfl
                    rotate_left
                    ·simp only [Act.put, sA, sB, sC, sD, sE]; rfl
                    refine pure_ (i := 20) (N := some 96) (v := ?_) (a' := ?_) #[T,T,T,F,T,T,T,F,T,T,T,F,T,T,T,T,T,T,F,F,T,F] rfl rfl (any_of HT_.out (by kernel_rfl)) (fun _ _ _ h => h) (Or.inl ⟨by rfl, ?_⟩) ?_ ?_; rotate_left
                    ·intro w'; go_simp; with_reducible rfl
                    rotate_left
                    ·simp only [Act.put, sA, sB, sC, sD, sE]; rfl
                    refine take_ (i := 3) (N := some 79) (v := ?_) (a' := ?_) #[T,T,T,T,T,T,T,F,T,T,T,F,T,T,T,T,T,T,F,F,T,F] rfl rfl (take_ofW HT_.out HW_.out (by kernel_rfl)) (fun _ _ _ h => h) (Or.inl ⟨by rfl, ?_⟩) hHeld ?_ ?_; rotate_left
                    ·rintro w' ⟨s0, s1, s2, s3, s4, s5, s6, s7⟩; go_simp; with_reducible rfl
                    rotate_left
                    ·simp only [Act.put, sA, sB, sC, sD, sE]; rfl
                    refine take_ (i := 7) (N := some 83) (v := ?_) (a' := ?_) #[T,T,T,T,T,T,T,T,T,T,T,F,T,T,T,T,T,T,F,F,T,F] rfl rfl (take_ofW HT_.out HW_.out (by kernel_rfl)) (fun _ _ _ h => h) (Or.inl ⟨by rfl, ?_⟩) hHeld ?_ ?_; rotate_left
                    ·rintro w' ⟨s0, s1, s2, s3, s4, s5, s6, s7⟩; go_simp; with_reducible rfl
                    rotate_left
                    ·simp only [Act.put, sA, sB, sC, sD, sE]; rfl
                    refine take_ (i := 11) (N := some 87) (v := ?_) (a' := ?_) #[T,T,T,T,T,T,T,T,T,T,T,T,T,T,T,T,T,T,F,F,T,F] rfl rfl (take_ofW HT_.out HW_.out (by kernel_rfl)) (fun _ _ _ h => h) (Or.inl ⟨by rfl, ?_⟩) hHeld ?_ ?_; rotate_left
                    ·rintro w' ⟨s0, s1, s2, s3, s4, s5, s6, s7⟩; go_simp; with_reducible rfl
                    rotate_left
                    ·simp only [Act.put, sA, sB, sC, sD, sE]; rfl
                    refine take_ (i := 18) (N := some 94) (v := ?_) (a' := ?_) #[T,T,T,T,T,T,T,T,T,T,T,T,T,T,T,T,T,T,T,F,T,F] rfl rfl (take_ofW HT_.out HW_.out (by kernel_rfl)) (fun _ _ _ h => h) (Or.inl ⟨by rfl, ?_⟩) hHeld ?_ ?_; rotate_left
                    ·rintro w' ⟨s0, s1, s2, s3, s4, s5, s6, s7⟩; go_simp; with_reducible rfl
                    rotate_left
                    ·simp only [Act.put, sA, sB, sC, sD, sE]; rfl
                    refine one_ (i := 19) (N := some 95) #[T,T,T,T,T,T,T,T,T,T,T,T,T,T,T,T,T,T,T,T,T,F] rfl rfl (one_of HT_.out (by kernel_rfl)) (by decide) (fun K hK => ?_); refine goes_ Try.func56 (by kernel_rfl) rfl #[.agg #[.int .i64 ((rd_T27 l0 a1).f0), .int .i64 ((rd_T27 l0 a1).f1)], .agg #[.int .i64 ((rd_T27 l0 a2).f0), .int .i64 ((rd_T27 l0 a2).f1)], .agg #[.int .i64 ((rd_T27 l0 x49_2).f0), .int .i64 ((rd_T27 l0 x49_2).f1)], .agg #[.int .i64 ((rd_T27 l0 (ji27)).f0), .int .i64 ((rd_T27 l0 (ji27)).f1)]] (by rfl) rfl rfl (by (try simp only [List.map_toArray, List.map_cons, List.map_nil]); first | done | (simp only [hji27]; rfl) | rfl | (simp only [List.length_drop, List.length_take]; rfl)) ?_
                    with_reducible refine (impl_meet.calls ((rd_T27 l0 a1).f0) ((rd_T27 l0 a1).f1) ((rd_T27 l0 a2).f0) ((rd_T27 l0 a2).f1) ((rd_T27 l0 x49_2).f0) ((rd_T27 l0 x49_2).f1) ((rd_T27 l0 (ji27)).f0) ((rd_T27 l0 (ji27)).f1) t107 _ A30.out).mono ?_
                    rintro e w33 ⟨rfl, hb⟩; refine ⟨_, rfl, ?_⟩; have n0_ := Ak (below_step (by repeat (first | exact HB.out | apply bA | apply bD | apply bE)) hb); clear HB; have HB := n0_; clear n0_; (try clear hb); (try clear hb2); (try clear hk); (try clear hi); refine hK.out _ _ ⟨((HB.out.cell (World.block_lt_of_cell? w _ hw103_0)).trans hw103_0), ((HB.out.cell (World.block_lt_of_cell? w _ hw103_1)).trans hw103_1), ((HB.out.cell (World.block_lt_of_cell? w _ hw104_0)).trans hw104_0), ((HB.out.cell (World.block_lt_of_cell? w _ hw104_1)).trans hw104_1), ((HB.out.cell (World.block_lt_of_cell? w _ hw105_0)).trans hw105_0), ((HB.out.cell (World.block_lt_of_cell? w _ hw105_1)).trans hw105_1), ((HB.out.cell (World.block_lt_of_cell? w _ hw106_0)).trans hw106_0), ((HB.out.cell (World.block_lt_of_cell? w _ hw106_1)).trans hw106_1)⟩ (fun hHeld => ?_); clear hK K; refine norm_ (a' := ?_) ?_ ?_; rotate_left
                    ·show Act.put _ (some 95) _ = _; simp only [Act.put, sA, sB, sC, sD, sE]; rfl
                    refine pure_ (i := 21) (N := some 97) (v := ?_) (a' := ?_) #[T,T,T,T,T,T,T,T,T,T,T,T,T,T,T,T,T,T,T,T,T,T] rfl rfl (any_of HT_.out (by kernel_rfl)) (fun _ _ _ h => h) (Or.inl ⟨by rfl, ?_⟩) ?_ ?_; rotate_left
                    ·intro w'; go_simp; with_reducible rfl
                    rotate_left
                    ·simp only [Act.put, sA, sB, sC, sD, sE]; rfl
                    refine done_ (done_of HT_.out (by kernel_rfl)) ?_
                    try go_wp2
                    go_roundg kj13
                    case measure => have := HJ3.out; have := HK2.out; have := HJ13.out; omega
                    case rel => exact ⟨(wrap64 (x49_2 + 1)), (by first | rfl | (simp; done) | (simp [*]; done)), H', ⟨by have := HJ3.out; have := HK2.out; have := HJ13.out; omega⟩, ⟨by repeat (first | (with_reducible first | exact HB.out | apply bA | apply bD | apply bE) | exact HB.out)⟩⟩
                   ·rw [if_neg c31] at H; have c31b0 : (t107 == 1) = false := beq_eq_false_iff_ne.mpr c31; have c31b1 : (t107 != 1) = true := bne_iff_ne.mpr c31; obtain rfl := Option.some.inj H
                    try go_wp2
                    have n0_ := Ak (below_drew1 HB.out); clear HB; have HB := n0_; clear n0_; have p103 : 0 ≤ (a1 : Int) := of_decide_eq_true (by first | (with_reducible assumption) | assumption); have q103 : a1 < (l0.length : Int) := of_decide_eq_true (by first | (with_reducible assumption) | assumption); obtain ⟨ad103, e103, hx103_0, hx103_1⟩ := at_T27 HR0.out a1 p103 q103; have hw103_1 := hx103_1; have hw103_0 := hx103_0; cases e103; replace hx103_0 := cB HB.out hx103_0; replace hx103_1 := cB HB.out hx103_1; replace p103 := eq_true p103; replace q103 := eq_true q103; have p104 : 0 ≤ (a2 : Int) := of_decide_eq_true (by first | (with_reducible assumption) | assumption); have q104 : a2 < (l0.length : Int) := of_decide_eq_true (by first | (with_reducible assumption) | assumption); obtain ⟨ad104, e104, hx104_0, hx104_1⟩ := at_T27 HR0.out a2 p104 q104; have hw104_1 := hx104_1; have hw104_0 := hx104_0; obtain rfl : ad103 = ad104 := (by injection e104); replace hx104_0 := cB HB.out hx104_0; replace hx104_1 := cB HB.out hx104_1; replace p104 := eq_true p104; replace q104 := eq_true q104; have p105 : 0 ≤ (x49_2 : Int) := of_decide_eq_true (by first | (with_reducible assumption) | assumption); have q105 : x49_2 < (l0.length : Int) := of_decide_eq_true (by first | (with_reducible assumption) | assumption); obtain ⟨ad105, e105, hx105_0, hx105_1⟩ := at_T27 HR0.out x49_2 p105 q105; have hw105_1 := hx105_1; have hw105_0 := hx105_0; obtain rfl : ad103 = ad105 := (by injection e105); replace hx105_0 := cB HB.out hx105_0; replace hx105_1 := cB HB.out hx105_1; replace p105 := eq_true p105; replace q105 := eq_true q105; have p106 : 0 ≤ ((ji27) : Int) := of_decide_eq_true (by first | (with_reducible assumption) | assumption); have q106 : (ji27) < (l0.length : Int) := of_decide_eq_true (by first | (with_reducible assumption) | assumption); obtain ⟨ad106, e106, hx106_0, hx106_1⟩ := at_T27 HR0.out (ji27) p106 q106; have hw106_1 := hx106_1; have hw106_0 := hx106_0; obtain rfl : ad103 = ad106 := (by injection e106); replace hx106_0 := cB HB.out hx106_0; replace hx106_1 := cB HB.out hx106_1; replace p106 := eq_true p106; replace q106 := eq_true q106; refine start_ (n := 22) (S := fun w' => w'.cell? (ad103.add ((a1).toNat * 2)) = some (.int .i64 ((rd_T27 l0 a1).f0)) ∧ w'.cell? ⟨(ad103.add ((a1).toNat * 2)).block, (ad103.add ((a1).toNat * 2)).off + 1, none⟩ = some (.int .i64 ((rd_T27 l0 a1).f1)) ∧ w'.cell? (ad103.add ((a2).toNat * 2)) = some (.int .i64 ((rd_T27 l0 a2).f0)) ∧ w'.cell? ⟨(ad103.add ((a2).toNat * 2)).block, (ad103.add ((a2).toNat * 2)).off + 1, none⟩ = some (.int .i64 ((rd_T27 l0 a2).f1)) ∧ w'.cell? (ad103.add ((x49_2).toNat * 2)) = some (.int .i64 ((rd_T27 l0 x49_2).f0)) ∧ w'.cell? ⟨(ad103.add ((x49_2).toNat * 2)).block, (ad103.add ((x49_2).toNat * 2)).off + 1, none⟩ = some (.int .i64 ((rd_T27 l0 x49_2).f1)) ∧ w'.cell? (ad103.add (((ji27)).toNat * 2)) = some (.int .i64 ((rd_T27 l0 (ji27)).f0)) ∧ w'.cell? ⟨(ad103.add (((ji27)).toNat * 2)).block, (ad103.add (((ji27)).toNat * 2)).off + 1, none⟩ = some (.int .i64 ((rd_T27 l0 (ji27)).f1))) (ds := []) #[F,F,F,F,F,F,F,F,F,F,F,F,F,F,F,F,F,F,F,F,F,F] (by kernel_rfl) rfl rfl ⟨((HB.out.cell (World.block_lt_of_cell? w _ hw103_0)).trans hw103_0), ((HB.out.cell (World.block_lt_of_cell? w _ hw103_1)).trans hw103_1), ((HB.out.cell (World.block_lt_of_cell? w _ hw104_0)).trans hw104_0), ((HB.out.cell (World.block_lt_of_cell? w _ hw104_1)).trans hw104_1), ((HB.out.cell (World.block_lt_of_cell? w _ hw105_0)).trans hw105_0), ((HB.out.cell (World.block_lt_of_cell? w _ hw105_1)).trans hw105_1), ((HB.out.cell (World.block_lt_of_cell? w _ hw106_0)).trans hw106_0), ((HB.out.cell (World.block_lt_of_cell? w _ hw106_1)).trans hw106_1)⟩ (fun hHeld => ?_); refine with_tabW impl_isDiagonal.tab10 impl_isDiagonal.bits10 (fun HT_ HW_ => ?_); generalize wc.drew = w34 at HB hx103_0 hx103_1 hx104_0 hx104_1 hx105_0 hx105_1 hx106_0 hx106_1 hHeld ⊢; refine pure_ (i := 0) (N := some 76) (v := ?_) (a' := ?_) #[T,F,F,F,F,F,F,F,F,F,F,F,F,F,F,F,F,F,F,F,F,F] rfl rfl (any_of HT_.out (by kernel_rfl)) (fun _ _ _ h => h) (Or.inl ⟨by rfl, ?_⟩) ?_ ?_; rotate_left
                    ·intro w'; go_simp; with_reducible rfl
                    rotate_left
                    ·simp only [Act.put, sA, sB, sC, sD, sE]; rfl
                    refine pure_ (i := 1) (N := some 77) (v := ?_) (a' := ?_) #[T,T,F,F,F,F,F,F,F,F,F,F,F,F,F,F,F,F,F,F,F,F] rfl rfl (any_of HT_.out (by kernel_rfl)) (fun _ _ _ h => h) (Or.inl ⟨by rfl, ?_⟩) ?_ ?_; rotate_left
                    ·intro w'; go_simp; with_reducible rfl
                    rotate_left
                    ·simp only [Act.put, sA, sB, sC, sD, sE]; rfl
                    refine pure_ (i := 2) (N := some 78) (v := ?_) (a' := ?_) #[T,T,T,F,F,F,F,F,F,F,F,F,F,F,F,F,F,F,F,F,F,F] rfl rfl (any_of HT_.out (by kernel_rfl)) (fun _ _ _ h => h) (Or.inl ⟨by rfl, ?_⟩) ?_ ?_; rotate_left
                    ·intro w'; go_simp; with_reducible rfl
                    rotate_left
                    ·simp only [Act.put, sA, sB, sC, sD, sE]; rfl
                    refine pure_ (i := 4) (N := some 80) (v := ?_) (a' := ?_) #[T,T,T,F,T,F,F,F,F,F,F,F,F,F,F,F,F,F,F,F,F,F] rfl rfl (any_of HT_.out (by kernel_rfl)) (fun _ _ _ h => h) (Or.inl ⟨by rfl, ?_⟩) ?_ ?_; rotate_left
                    ·intro w'; go_simp; with_reducible rfl
                    rotate_left
                    ·simp only [Act.put, sA, sB, sC, sD, sE]; rfl
                    refine pure_ (i := 5) (N := some 81) (v := ?_) (a' := ?_) #[T,T,T,F,T,T,F,F,F,F,F,F,F,F,F,F,F,F,F,F,F,F] rfl rfl (any_of HT_.out (by kernel_rfl)) (fun _ _ _ h => h) (Or.inl ⟨by rfl, ?_⟩) ?_ ?_; rotate_left
                    ·intro w'; go_simp; with_reducible rfl
                    rotate_left
                    ·simp only [Act.put, sA, sB, sC, sD, sE]; rfl
                    refine pure_ (i := 6) (N := some 82) (v := ?_) (a' := ?_) #[T,T,T,F,T,T,T,F,F,F,F,F,F,F,F,F,F,F,F,F,F,F] rfl rfl (any_of HT_.out (by kernel_rfl)) (fun _ _ _ h => h) (Or.inl ⟨by rfl, ?_⟩) ?_ ?_; rotate_left
                    ·intro w'; go_simp; with_reducible rfl
                    rotate_left
                    ·simp only [Act.put, sA, sB, sC, sD, sE]; rfl
                    refine pure_ (i := 8) (N := some 84) (v := ?_) (a' := ?_) #[T,T,T,F,T,T,T,F,T,F,F,F,F,F,F,F,F,F,F,F,F,F] rfl rfl (any_of HT_.out (by kernel_rfl)) (fun _ _ _ h => h) (Or.inl ⟨by rfl, ?_⟩) ?_ ?_; rotate_left
                    ·intro w'; go_simp; with_reducible rfl
                    rotate_left
                    ·simp only [Act.put, sA, sB, sC, sD, sE]; rfl
                    refine pure_ (i := 9) (N := some 85) (v := ?_) (a' := ?_) #[T,T,T,F,T,T,T,F,T,T,F,F,F,F,F,F,F,F,F,F,F,F] rfl rfl (any_of HT_.out (by kernel_rfl)) (fun _ _ _ h => h) (Or.inl ⟨by rfl, ?_⟩) ?_ ?_; rotate_left
                    ·intro w'; go_simp; with_reducible rfl
                    rotate_left
                    ·simp only [Act.put, sA, sB, sC, sD, sE]; rfl
                    refine pure_ (i := 10) (N := some 86) (v := ?_) (a' := ?_) #[T,T,T,F,T,T,T,F,T,T,T,F,F,F,F,F,F,F,F,F,F,F] rfl rfl (any_of HT_.out (by kernel_rfl)) (fun _ _ _ h => h) (Or.inl ⟨by rfl, ?_⟩) ?_ ?_; rotate_left
                    ·intro w'; go_simp; with_reducible rfl
                    rotate_left
                    ·simp only [Act.put, sA, sB, sC, sD, sE]; rfl
                    refine pure_ (i := 12) (N := some 88) (v := ?_) (a' := ?_) #[T,T,T,F,T,T,T,F,T,T,T,F,T,F,F,F,F,F,F,F,F,F] rfl rfl (any_of HT_.out (by kernel_rfl)) (fun _ _ _ h => h) (Or.inl ⟨by rfl, ?_⟩) ?_ ?_; rotate_left
                    ·intro w'; go_simp; with_reducible rfl
                    rotate_left
                    ·simp only [Act.put, sA, sB, sC, sD, sE]; rfl
                    refine pure_ (i := 13) (N := some 89) (v := ?_) (a' := ?_) #[T,T,T,F,T,T,T,F,T,T,T,F,T,T,F,F,F,F,F,F,F,F] rfl rfl (any_of HT_.out (by kernel_rfl)) (fun _ _ _ h => h) (Or.inl ⟨by rfl, ?_⟩) ?_ ?_; rotate_left
                    ·intro w'; go_simp; with_reducible rfl
                    rotate_left
                    ·simp only [Act.put, sA, sB, sC, sD, sE]; rfl
                    refine pure_ (i := 14) (N := some 90) (v := ?_) (a' := ?_) #[T,T,T,F,T,T,T,F,T,T,T,F,T,T,T,F,F,F,F,F,F,F] rfl rfl (any_of HT_.out (by kernel_rfl)) (fun _ _ _ h => h) (Or.inl ⟨by rfl, ?_⟩) ?_ ?_; rotate_left
                    ·intro w'; go_simp; with_reducible rfl
                    rotate_left
                    ·simp only [Act.put, sA, sB, sC, sD, sE]; rfl
                    refine pure_ (i := 15) (N := some 91) (v := ?_) (a' := ?_) #[T,T,T,F,T,T,T,F,T,T,T,F,T,T,T,T,F,F,F,F,F,F] rfl rfl (any_of HT_.out (by kernel_rfl)) (fun _ _ _ h => h) (Or.inl ⟨by rfl, ?_⟩) ?_ ?_; rotate_left
                    ·intro w'; go_simp; with_reducible rfl
                    rotate_left
                    ·simp only [Act.put, sA, sB, sC, sD, sE]; rfl
                    refine pure_ (i := 16) (N := some 92) (v := ?_) (a' := ?_) #[T,T,T,F,T,T,T,F,T,T,T,F,T,T,T,T,T,F,F,F,F,F] rfl rfl (any_of HT_.out (by kernel_rfl)) (fun _ _ _ h => h) (Or.inl ⟨by rfl, ?_⟩) ?_ ?_; rotate_left
                    ·intro w'; go_simp; with_reducible rfl
                    rotate_left
                    ·simp only [Act.put, sA, sB, sC, sD, sE]; rfl
                    refine pure_ (i := 17) (N := some 93) (v := ?_) (a' := ?_) #[T,T,T,F,T,T,T,F,T,T,T,F,T,T,T,T,T,T,F,F,F,F] rfl rfl (any_of HT_.out (by kernel_rfl)) (fun _ _ _ h => h) (Or.inl ⟨by rfl, ?_⟩) ?_ ?_; rotate_left
                    ·intro w'; go_simp; with_reducible rfl
                    rotate_left
                    ·simp only [Act.put, sA, sB, sC, sD, sE]; rfl
                    refine pure_ (i := 20) (N := some 96) (v := ?_) (a' := ?_) #[T,T,T,F,T,T,T,F,T,T,T,F,T,T,T,T,T,T,F,F,T,F] rfl rfl (any_of HT_.out (by kernel_rfl)) (fun _ _ _ h => h) (Or.inl ⟨by rfl, ?_⟩) ?_ ?_; rotate_left
                    ·intro w'; go_simp; with_reducible rfl
                    rotate_left
                    ·simp only [Act.put, sA, sB, sC, sD, sE]; rfl
                    refine take_ (i := 3) (N := some 79) (v := ?_) (a' := ?_) #[T,T,T,T,T,T,T,F,T,T,T,F,T,T,T,T,T,T,F,F,T,F] rfl rfl (take_ofW HT_.out HW_.out (by kernel_rfl)) (fun _ _ _ h => h) (Or.inl ⟨by rfl, ?_⟩) hHeld ?_ ?_; rotate_left
                    ·rintro w' ⟨s0, s1, s2, s3, s4, s5, s6, s7⟩; go_simp; with_reducible rfl
                    rotate_left
                    ·simp only [Act.put, sA, sB, sC, sD, sE]; rfl
                    refine take_ (i := 7) (N := some 83) (v := ?_) (a' := ?_) #[T,T,T,T,T,T,T,T,T,T,T,F,T,T,T,T,T,T,F,F,T,F] rfl rfl (take_ofW HT_.out HW_.out (by kernel_rfl)) (fun _ _ _ h => h) (Or.inl ⟨by rfl, ?_⟩) hHeld ?_ ?_; rotate_left
                    ·rintro w' ⟨s0, s1, s2, s3, s4, s5, s6, s7⟩; go_simp; with_reducible rfl
                    rotate_left
                    ·simp only [Act.put, sA, sB, sC, sD, sE]; rfl
                    refine take_ (i := 11) (N := some 87) (v := ?_) (a' := ?_) #[T,T,T,T,T,T,T,T,T,T,T,T,T,T,T,T,T,T,F,F,T,F] rfl rfl (take_ofW HT_.out HW_.out (by kernel_rfl)) (fun _ _ _ h => h) (Or.inl ⟨by rfl, ?_⟩) hHeld ?_ ?_; rotate_left
                    ·rintro w' ⟨s0, s1, s2, s3, s4, s5, s6, s7⟩; go_simp; with_reducible rfl
                    rotate_left
                    ·simp only [Act.put, sA, sB, sC, sD, sE]; rfl
                    refine take_ (i := 18) (N := some 94) (v := ?_) (a' := ?_) #[T,T,T,T,T,T,T,T,T,T,T,T,T,T,T,T,T,T,T,F,T,F] rfl rfl (take_ofW HT_.out HW_.out (by kernel_rfl)) (fun _ _ _ h => h) (Or.inl ⟨by rfl, ?_⟩) hHeld ?_ ?_; rotate_left
                    ·rintro w' ⟨s0, s1, s2, s3, s4, s5, s6, s7⟩; go_simp; with_reducible rfl
                    rotate_left
                    ·simp only [Act.put, sA, sB, sC, sD, sE]; rfl
                    refine one_ (i := 19) (N := some 95) #[T,T,T,T,T,T,T,T,T,T,T,T,T,T,T,T,T,T,T,T,T,F] rfl rfl (one_of HT_.out (by kernel_rfl)) (by decide) (fun K hK => ?_); refine goes_ Try.func56 (by kernel_rfl) rfl #[.agg #[.int .i64 ((rd_T27 l0 a1).f0), .int .i64 ((rd_T27 l0 a1).f1)], .agg #[.int .i64 ((rd_T27 l0 a2).f0), .int .i64 ((rd_T27 l0 a2).f1)], .agg #[.int .i64 ((rd_T27 l0 x49_2).f0), .int .i64 ((rd_T27 l0 x49_2).f1)], .agg #[.int .i64 ((rd_T27 l0 (ji27)).f0), .int .i64 ((rd_T27 l0 (ji27)).f1)]] (by rfl) rfl rfl (by (try simp only [List.map_toArray, List.map_cons, List.map_nil]); first | done | (simp only [hji27]; rfl) | rfl | (simp only [List.length_drop, List.length_take]; rfl)) ?_
                    with_reducible refine (impl_meet.calls ((rd_T27 l0 a1).f0) ((rd_T27 l0 a1).f1) ((rd_T27 l0 a2).f0) ((rd_T27 l0 a2).f1) ((rd_T27 l0 x49_2).f0) ((rd_T27 l0 x49_2).f1) ((rd_T27 l0 (ji27)).f0) ((rd_T27 l0 (ji27)).f1) t107 _ A30.out).mono ?_
                    rintro e w35 ⟨rfl, hb⟩; refine ⟨_, rfl, ?_⟩; have n0_ := Ak (below_step (by repeat (first | exact HB.out | apply bA | apply bD | apply bE)) hb); clear HB; have HB := n0_; clear n0_; (try clear hb); (try clear hb2); (try clear hk); (try clear hi); refine hK.out _ _ ⟨((HB.out.cell (World.block_lt_of_cell? w _ hw103_0)).trans hw103_0), ((HB.out.cell (World.block_lt_of_cell? w _ hw103_1)).trans hw103_1), ((HB.out.cell (World.block_lt_of_cell? w _ hw104_0)).trans hw104_0), ((HB.out.cell (World.block_lt_of_cell? w _ hw104_1)).trans hw104_1), ((HB.out.cell (World.block_lt_of_cell? w _ hw105_0)).trans hw105_0), ((HB.out.cell (World.block_lt_of_cell? w _ hw105_1)).trans hw105_1), ((HB.out.cell (World.block_lt_of_cell? w _ hw106_0)).trans hw106_0), ((HB.out.cell (World.block_lt_of_cell? w _ hw106_1)).trans hw106_1)⟩ (fun hHeld => ?_); clear hK K; refine norm_ (a' := ?_) ?_ ?_; rotate_left
                    ·show Act.put _ (some 95) _ = _; simp only [Act.put, sA, sB, sC, sD, sE]; rfl
                    refine pure_ (i := 21) (N := some 97) (v := ?_) (a' := ?_) #[T,T,T,T,T,T,T,T,T,T,T,T,T,T,T,T,T,T,T,T,T,T] rfl rfl (any_of HT_.out (by kernel_rfl)) (fun _ _ _ h => h) (Or.inl ⟨by rfl, ?_⟩) ?_ ?_; rotate_left
                    ·intro w'; go_simp; with_reducible rfl
                    rotate_left
                    ·simp only [Act.put, sA, sB, sC, sD, sE]; rfl
                    refine done_ (done_of HT_.out (by kernel_rfl)) ?_
                    try go_wp2
                    go_ret
                    exact ⟨by first | rfl | (simp [errW_none, errW_some] <;> rfl) | (simp only [← hji27]; first | rfl | (simp [errW_none, errW_some] <;> rfl)) | (simp [*, errW_none, errW_some] <;> rfl), by repeat (first | (with_reducible first | exact HB.out | apply bA | apply bD | apply bE) | exact HB.out)⟩
                  ·rw [if_neg c29] at H; exact absurd H (by simp)
                 ·rw [if_neg c28] at H; exact absurd H (by simp)
               ·rw [if_neg c25] at H; exact absurd H (by simp)
              ·rw [if_neg c24] at H; exact absurd H (by simp)
             ·rw [if_neg c23] at H; exact absurd H (by simp)
            ·rw [if_neg c22] at H; exact absurd H (by simp)
           ·rw [if_neg c21] at H; exact absurd H (by simp)
          ·rw [if_neg c20] at H; exact absurd H (by simp)
         ·replace c19 := Bool.eq_false_iff.mpr c19; subst c19; have H1 : (if 0 ≤ a1 then (if a1 < (l0.length : Int) then (if 0 ≤ a2 then (if a2 < (l0.length : Int) then (if 0 ≤ x49_2 then (if x49_2 < (l0.length : Int) then (if (l0.length : Int) = 0 then (none) else (if 0 ≤ (Int.tmod (wrap64 (x49_2 + 1)) (l0.length : Int)) then (if (Int.tmod (wrap64 (x49_2 + 1)) (l0.length : Int)) < (l0.length : Int) then ((impl_meet.f ((rd_T27 l0 a1).f0) ((rd_T27 l0 a1).f1) ((rd_T27 l0 a2).f0) ((rd_T27 l0 a2).f1) ((rd_T27 l0 x49_2).f0) ((rd_T27 l0 x49_2).f1) ((rd_T27 l0 (Int.tmod (wrap64 (x49_2 + 1)) (l0.length : Int))).f0) ((rd_T27 l0 (Int.tmod (wrap64 (x49_2 + 1)) (l0.length : Int))).f1)).bind fun t112 => (if t112 = 0 then (impl_isDiagonal.l0 kj13 l0 a1 a2 (l0.length : Int) (l0.length : Int) (wrap64 (x49_2 + 1))) else (some false))) else (none)) else (none))) else (none)) else (none)) else (none)) else (none)) else (none)) else (none)) = some r := by rw [if_neg (show ¬ (false = true) by decide)] at H; exact H
          clear H; have H := H1; clear H1
          by_cases c36 : 0 ≤ a1
          ·rw [if_pos c36] at H; have c36b0 : decide (0 ≤ a1) = true := decide_eq_true c36; clear c36
           by_cases c37 : a1 < (l0.length : Int)
           ·rw [if_pos c37] at H; have c37b0 : decide (a1 < (l0.length : Int)) = true := decide_eq_true c37; clear c37
            by_cases c38 : 0 ≤ a2
            ·rw [if_pos c38] at H; have c38b0 : decide (0 ≤ a2) = true := decide_eq_true c38; clear c38
             by_cases c39 : a2 < (l0.length : Int)
             ·rw [if_pos c39] at H; have c39b0 : decide (a2 < (l0.length : Int)) = true := decide_eq_true c39; clear c39
              by_cases c40 : 0 ≤ x49_2
              ·rw [if_pos c40] at H; have c40b0 : decide (0 ≤ x49_2) = true := decide_eq_true c40; clear c40
               by_cases c41 : x49_2 < (l0.length : Int)
               ·rw [if_pos c41] at H; have c41b0 : decide (x49_2 < (l0.length : Int)) = true := decide_eq_true c41; clear c41
                by_cases c42 : (l0.length : Int) = 0
                ·rw [if_pos c42] at H; exact absurd H (by simp)
                ·rw [if_neg c42] at H; have c42b0 : ((l0.length : Int) == 0) = false := beq_eq_false_iff_ne.mpr c42; have c42b1 : ((l0.length : Int) != 0) = true := bne_iff_ne.mpr c42; have c42b2 : ¬ (l0 = []) := fun h_ => c42 (by rw [h_]; rfl)
                 obtain ⟨ji43, hji43⟩ : ∃ j_ : Int, (Int.tmod (wrap64 (x49_2 + 1)) (l0.length : Int)) = j_ := ⟨_, rfl⟩; replace H : (if 0 ≤ (ji43) then (if (ji43) < (l0.length : Int) then ((impl_meet.f ((rd_T27 l0 a1).f0) ((rd_T27 l0 a1).f1) ((rd_T27 l0 a2).f0) ((rd_T27 l0 a2).f1) ((rd_T27 l0 x49_2).f0) ((rd_T27 l0 x49_2).f1) ((rd_T27 l0 (ji43)).f0) ((rd_T27 l0 (ji43)).f1)).bind fun t112 => (if t112 = 0 then (impl_isDiagonal.l0 kj13 l0 a1 a2 (l0.length : Int) (l0.length : Int) (wrap64 (x49_2 + 1))) else (some false))) else (none)) else (none)) = some r := by first | (rw [hji43] at H; exact H) | (simp only [hji43] at H ⊢; exact H)
                 by_cases c44 : 0 ≤ (ji43)
                 ·rw [if_pos c44] at H; have c44b0 : decide (0 ≤ (ji43)) = true := decide_eq_true c44; clear c44
                  by_cases c45 : (ji43) < (l0.length : Int)
                  ·rw [if_pos c45] at H; have c45b0 : decide ((ji43) < (l0.length : Int)) = true := decide_eq_true c45; clear c45; replace H := Option.bind_eq_some_iff.mp H; obtain ⟨t112, A460, H⟩ := H; replace H : (if t112 = 0 then (impl_isDiagonal.l0 kj13 l0 a1 a2 (l0.length : Int) (l0.length : Int) (wrap64 (x49_2 + 1))) else (some false)) = some r := H; have A46 := Ak A460; clear A460
                   by_cases c47 : t112 = 0
                   ·rw [if_pos c47] at H; have c47b0 : (t112 == 0) = true := beq_iff_eq.mpr c47; have c47b1 : (t112 != 0) = false := bne_eq_false_iff_eq.mpr c47; clear c47; have H' := Ak H; clear H
                    try go_wp2
                    have n0_ := Ak (below_drew1 HB.out); clear HB; have HB := n0_; clear n0_; have p108 : 0 ≤ (a1 : Int) := of_decide_eq_true (by first | (with_reducible assumption) | assumption); have q108 : a1 < (l0.length : Int) := of_decide_eq_true (by first | (with_reducible assumption) | assumption); obtain ⟨ad108, e108, hx108_0, hx108_1⟩ := at_T27 HR0.out a1 p108 q108; have hw108_1 := hx108_1; have hw108_0 := hx108_0; cases e108; replace hx108_0 := cB HB.out hx108_0; replace hx108_1 := cB HB.out hx108_1; replace p108 := eq_true p108; replace q108 := eq_true q108; have p109 : 0 ≤ (a2 : Int) := of_decide_eq_true (by first | (with_reducible assumption) | assumption); have q109 : a2 < (l0.length : Int) := of_decide_eq_true (by first | (with_reducible assumption) | assumption); obtain ⟨ad109, e109, hx109_0, hx109_1⟩ := at_T27 HR0.out a2 p109 q109; have hw109_1 := hx109_1; have hw109_0 := hx109_0; obtain rfl : ad108 = ad109 := (by injection e109); replace hx109_0 := cB HB.out hx109_0; replace hx109_1 := cB HB.out hx109_1; replace p109 := eq_true p109; replace q109 := eq_true q109; have p110 : 0 ≤ (x49_2 : Int) := of_decide_eq_true (by first | (with_reducible assumption) | assumption); have q110 : x49_2 < (l0.length : Int) := of_decide_eq_true (by first | (with_reducible assumption) | assumption); obtain ⟨ad110, e110, hx110_0, hx110_1⟩ := at_T27 HR0.out x49_2 p110 q110; have hw110_1 := hx110_1; have hw110_0 := hx110_0; obtain rfl : ad108 = ad110 := (by injection e110); replace hx110_0 := cB HB.out hx110_0; replace hx110_1 := cB HB.out hx110_1; replace p110 := eq_true p110; replace q110 := eq_true q110; have p111 : 0 ≤ ((ji43) : Int) := of_decide_eq_true (by first | (with_reducible assumption) | assumption); have q111 : (ji43) < (l0.length : Int) := of_decide_eq_true (by first | (with_reducible assumption) | assumption); obtain ⟨ad111, e111, hx111_0, hx111_1⟩ := at_T27 HR0.out (ji43) p111 q111; have hw111_1 := hx111_1; have hw111_0 := hx111_0; obtain rfl : ad108 = ad111 := (by injection e111); replace hx111_0 := cB HB.out hx111_0; replace hx111_1 := cB HB.out hx111_1; replace p111 := eq_true p111; replace q111 := eq_true q111; refine start_ (n := 22) (S := fun w' => w'.cell? (ad108.add ((a1).toNat * 2)) = some (.int .i64 ((rd_T27 l0 a1).f0)) ∧ w'.cell? ⟨(ad108.add ((a1).toNat * 2)).block, (ad108.add ((a1).toNat * 2)).off + 1, none⟩ = some (.int .i64 ((rd_T27 l0 a1).f1)) ∧ w'.cell? (ad108.add ((a2).toNat * 2)) = some (.int .i64 ((rd_T27 l0 a2).f0)) ∧ w'.cell? ⟨(ad108.add ((a2).toNat * 2)).block, (ad108.add ((a2).toNat * 2)).off + 1, none⟩ = some (.int .i64 ((rd_T27 l0 a2).f1)) ∧ w'.cell? (ad108.add ((x49_2).toNat * 2)) = some (.int .i64 ((rd_T27 l0 x49_2).f0)) ∧ w'.cell? ⟨(ad108.add ((x49_2).toNat * 2)).block, (ad108.add ((x49_2).toNat * 2)).off + 1, none⟩ = some (.int .i64 ((rd_T27 l0 x49_2).f1)) ∧ w'.cell? (ad108.add (((ji43)).toNat * 2)) = some (.int .i64 ((rd_T27 l0 (ji43)).f0)) ∧ w'.cell? ⟨(ad108.add (((ji43)).toNat * 2)).block, (ad108.add (((ji43)).toNat * 2)).off + 1, none⟩ = some (.int .i64 ((rd_T27 l0 (ji43)).f1))) (ds := []) #[F,F,F,F,F,F,F,F,F,F,F,F,F,F,F,F,F,F,F,F,F,F] (by kernel_rfl) rfl rfl ⟨((HB.out.cell (World.block_lt_of_cell? w _ hw108_0)).trans hw108_0), ((HB.out.cell (World.block_lt_of_cell? w _ hw108_1)).trans hw108_1), ((HB.out.cell (World.block_lt_of_cell? w _ hw109_0)).trans hw109_0), ((HB.out.cell (World.block_lt_of_cell? w _ hw109_1)).trans hw109_1), ((HB.out.cell (World.block_lt_of_cell? w _ hw110_0)).trans hw110_0), ((HB.out.cell (World.block_lt_of_cell? w _ hw110_1)).trans hw110_1), ((HB.out.cell (World.block_lt_of_cell? w _ hw111_0)).trans hw111_0), ((HB.out.cell (World.block_lt_of_cell? w _ hw111_1)).trans hw111_1)⟩ (fun hHeld => ?_); refine with_tabW impl_isDiagonal.tab10 impl_isDiagonal.bits10 (fun HT_ HW_ => ?_); generalize wc.drew = w48 at HB hx108_0 hx108_1 hx109_0 hx109_1 hx110_0 hx110_1 hx111_0 hx111_1 hHeld ⊢; refine pure_ (i := 0) (N := some 76) (v := ?_) (a' := ?_) #[T,F,F,F,F,F,F,F,F,F,F,F,F,F,F,F,F,F,F,F,F,F] rfl rfl (any_of HT_.out (by kernel_rfl)) (fun _ _ _ h => h) (Or.inl ⟨by rfl, ?_⟩) ?_ ?_; rotate_left
                    ·intro w'; go_simp; with_reducible rfl
                    rotate_left
                    ·simp only [Act.put, sA, sB, sC, sD, sE]; rfl
                    refine pure_ (i := 1) (N := some 77) (v := ?_) (a' := ?_) #[T,T,F,F,F,F,F,F,F,F,F,F,F,F,F,F,F,F,F,F,F,F] rfl rfl (any_of HT_.out (by kernel_rfl)) (fun _ _ _ h => h) (Or.inl ⟨by rfl, ?_⟩) ?_ ?_; rotate_left
                    ·intro w'; go_simp; with_reducible rfl
                    rotate_left
                    ·simp only [Act.put, sA, sB, sC, sD, sE]; rfl
                    refine pure_ (i := 2) (N := some 78) (v := ?_) (a' := ?_) #[T,T,T,F,F,F,F,F,F,F,F,F,F,F,F,F,F,F,F,F,F,F] rfl rfl (any_of HT_.out (by kernel_rfl)) (fun _ _ _ h => h) (Or.inl ⟨by rfl, ?_⟩) ?_ ?_; rotate_left
                    ·intro w'; go_simp; with_reducible rfl
                    rotate_left
                    ·simp only [Act.put, sA, sB, sC, sD, sE]; rfl
                    refine pure_ (i := 4) (N := some 80) (v := ?_) (a' := ?_) #[T,T,T,F,T,F,F,F,F,F,F,F,F,F,F,F,F,F,F,F,F,F] rfl rfl (any_of HT_.out (by kernel_rfl)) (fun _ _ _ h => h) (Or.inl ⟨by rfl, ?_⟩) ?_ ?_; rotate_left
                    ·intro w'; go_simp; with_reducible rfl
                    rotate_left
                    ·simp only [Act.put, sA, sB, sC, sD, sE]; rfl
                    refine pure_ (i := 5) (N := some 81) (v := ?_) (a' := ?_) #[T,T,T,F,T,T,F,F,F,F,F,F,F,F,F,F,F,F,F,F,F,F] rfl rfl (any_of HT_.out (by kernel_rfl)) (fun _ _ _ h => h) (Or.inl ⟨by rfl, ?_⟩) ?_ ?_; rotate_left
                    ·intro w'; go_simp; with_reducible rfl
                    rotate_left
                    ·simp only [Act.put, sA, sB, sC, sD, sE]; rfl
                    refine pure_ (i := 6) (N := some 82) (v := ?_) (a' := ?_) #[T,T,T,F,T,T,T,F,F,F,F,F,F,F,F,F,F,F,F,F,F,F] rfl rfl (any_of HT_.out (by kernel_rfl)) (fun _ _ _ h => h) (Or.inl ⟨by rfl, ?_⟩) ?_ ?_; rotate_left
                    ·intro w'; go_simp; with_reducible rfl
                    rotate_left
                    ·simp only [Act.put, sA, sB, sC, sD, sE]; rfl
                    refine pure_ (i := 8) (N := some 84) (v := ?_) (a' := ?_) #[T,T,T,F,T,T,T,F,T,F,F,F,F,F,F,F,F,F,F,F,F,F] rfl rfl (any_of HT_.out (by kernel_rfl)) (fun _ _ _ h => h) (Or.inl ⟨by rfl, ?_⟩) ?_ ?_; rotate_left
                    ·intro w'; go_simp; with_reducible rfl
                    rotate_left
                    ·simp only [Act.put, sA, sB, sC, sD, sE]; rfl
                    refine pure_ (i := 9) (N := some 85) (v := ?_) (a' := ?_) #[T,T,T,F,T,T,T,F,T,T,F,F,F,F,F,F,F,F,F,F,F,F] rfl rfl (any_of HT_.out (by kernel_rfl)) (fun _ _ _ h => h) (Or.inl ⟨by rfl, ?_⟩) ?_ ?_; rotate_left
                    ·intro w'; go_simp; with_reducible rfl
                    rotate_left
                    ·simp only [Act.put, sA, sB, sC, sD, sE]; rfl
                    refine pure_ (i := 10) (N := some 86) (v := ?_) (a' := ?_) #[T,T,T,F,T,T,T,F,T,T,T,F,F,F,F,F,F,F,F,F,F,F] rfl rfl (any_of HT_.out (by kernel_rfl)) (fun _ _ _ h => h) (Or.inl ⟨by rfl, ?_⟩) ?_ ?_; rotate_left
                    ·intro w'; go_simp; with_reducible rfl
                    rotate_left
                    ·simp only [Act.put, sA, sB, sC, sD, sE]; rfl
                    refine pure_ (i := 12) (N := some 88) (v := ?_) (a' := ?_) #[T,T,T,F,T,T,T,F,T,T,T,F,T,F,F,F,F,F,F,F,F,F] rfl rfl (any_of HT_.out (by kernel_rfl)) (fun _ _ _ h => h) (Or.inl ⟨by rfl, ?_⟩) ?_ ?_; rotate_left
                    ·intro w'; go_simp; with_reducible rfl
                    rotate_left
                    ·simp only [Act.put, sA, sB, sC, sD, sE]; rfl
                    refine pure_ (i := 13) (N := some 89) (v := ?_) (a' := ?_) #[T,T,T,F,T,T,T,F,T,T,T,F,T,T,F,F,F,F,F,F,F,F] rfl rfl (any_of HT_.out (by kernel_rfl)) (fun _ _ _ h => h) (Or.inl ⟨by rfl, ?_⟩) ?_ ?_; rotate_left
                    ·intro w'; go_simp; with_reducible rfl
                    rotate_left
                    ·simp only [Act.put, sA, sB, sC, sD, sE]; rfl
                    refine pure_ (i := 14) (N := some 90) (v := ?_) (a' := ?_) #[T,T,T,F,T,T,T,F,T,T,T,F,T,T,T,F,F,F,F,F,F,F] rfl rfl (any_of HT_.out (by kernel_rfl)) (fun _ _ _ h => h) (Or.inl ⟨by rfl, ?_⟩) ?_ ?_; rotate_left
                    ·intro w'; go_simp; with_reducible rfl
                    rotate_left
                    ·simp only [Act.put, sA, sB, sC, sD, sE]; rfl
                    refine pure_ (i := 15) (N := some 91) (v := ?_) (a' := ?_) #[T,T,T,F,T,T,T,F,T,T,T,F,T,T,T,T,F,F,F,F,F,F] rfl rfl (any_of HT_.out (by kernel_rfl)) (fun _ _ _ h => h) (Or.inl ⟨by rfl, ?_⟩) ?_ ?_; rotate_left
                    ·intro w'; go_simp; with_reducible rfl
                    rotate_left
                    ·simp only [Act.put, sA, sB, sC, sD, sE]; rfl
                    refine pure_ (i := 16) (N := some 92) (v := ?_) (a' := ?_) #[T,T,T,F,T,T,T,F,T,T,T,F,T,T,T,T,T,F,F,F,F,F] rfl rfl (any_of HT_.out (by kernel_rfl)) (fun _ _ _ h => h) (Or.inl ⟨by rfl, ?_⟩) ?_ ?_; rotate_left
                    ·intro w'; go_simp; with_reducible rfl
                    rotate_left
                    ·simp only [Act.put, sA, sB, sC, sD, sE]; rfl
                    refine pure_ (i := 17) (N := some 93) (v := ?_) (a' := ?_) #[T,T,T,F,T,T,T,F,T,T,T,F,T,T,T,T,T,T,F,F,F,F] rfl rfl (any_of HT_.out (by kernel_rfl)) (fun _ _ _ h => h) (Or.inl ⟨by rfl, ?_⟩) ?_ ?_; rotate_left
                    ·intro w'; go_simp; with_reducible rfl
                    rotate_left
                    ·simp only [Act.put, sA, sB, sC, sD, sE]; rfl
                    refine pure_ (i := 20) (N := some 96) (v := ?_) (a' := ?_) #[T,T,T,F,T,T,T,F,T,T,T,F,T,T,T,T,T,T,F,F,T,F] rfl rfl (any_of HT_.out (by kernel_rfl)) (fun _ _ _ h => h) (Or.inl ⟨by rfl, ?_⟩) ?_ ?_; rotate_left
                    ·intro w'; go_simp; with_reducible rfl
                    rotate_left
                    ·simp only [Act.put, sA, sB, sC, sD, sE]; rfl
                    refine take_ (i := 3) (N := some 79) (v := ?_) (a' := ?_) #[T,T,T,T,T,T,T,F,T,T,T,F,T,T,T,T,T,T,F,F,T,F] rfl rfl (take_ofW HT_.out HW_.out (by kernel_rfl)) (fun _ _ _ h => h) (Or.inl ⟨by rfl, ?_⟩) hHeld ?_ ?_; rotate_left
                    ·rintro w' ⟨s0, s1, s2, s3, s4, s5, s6, s7⟩; go_simp; with_reducible rfl
                    rotate_left
                    ·simp only [Act.put, sA, sB, sC, sD, sE]; rfl
                    refine take_ (i := 7) (N := some 83) (v := ?_) (a' := ?_) #[T,T,T,T,T,T,T,T,T,T,T,F,T,T,T,T,T,T,F,F,T,F] rfl rfl (take_ofW HT_.out HW_.out (by kernel_rfl)) (fun _ _ _ h => h) (Or.inl ⟨by rfl, ?_⟩) hHeld ?_ ?_; rotate_left
                    ·rintro w' ⟨s0, s1, s2, s3, s4, s5, s6, s7⟩; go_simp; with_reducible rfl
                    rotate_left
                    ·simp only [Act.put, sA, sB, sC, sD, sE]; rfl
                    refine take_ (i := 11) (N := some 87) (v := ?_) (a' := ?_) #[T,T,T,T,T,T,T,T,T,T,T,T,T,T,T,T,T,T,F,F,T,F] rfl rfl (take_ofW HT_.out HW_.out (by kernel_rfl)) (fun _ _ _ h => h) (Or.inl ⟨by rfl, ?_⟩) hHeld ?_ ?_; rotate_left
                    ·rintro w' ⟨s0, s1, s2, s3, s4, s5, s6, s7⟩; go_simp; with_reducible rfl
                    rotate_left
                    ·simp only [Act.put, sA, sB, sC, sD, sE]; rfl
                    refine take_ (i := 18) (N := some 94) (v := ?_) (a' := ?_) #[T,T,T,T,T,T,T,T,T,T,T,T,T,T,T,T,T,T,T,F,T,F] rfl rfl (take_ofW HT_.out HW_.out (by kernel_rfl)) (fun _ _ _ h => h) (Or.inl ⟨by rfl, ?_⟩) hHeld ?_ ?_; rotate_left
                    ·rintro w' ⟨s0, s1, s2, s3, s4, s5, s6, s7⟩; go_simp; with_reducible rfl
                    rotate_left
                    ·simp only [Act.put, sA, sB, sC, sD, sE]; rfl
                    refine one_ (i := 19) (N := some 95) #[T,T,T,T,T,T,T,T,T,T,T,T,T,T,T,T,T,T,T,T,T,F] rfl rfl (one_of HT_.out (by kernel_rfl)) (by decide) (fun K hK => ?_); refine goes_ Try.func56 (by kernel_rfl) rfl #[.agg #[.int .i64 ((rd_T27 l0 a1).f0), .int .i64 ((rd_T27 l0 a1).f1)], .agg #[.int .i64 ((rd_T27 l0 a2).f0), .int .i64 ((rd_T27 l0 a2).f1)], .agg #[.int .i64 ((rd_T27 l0 x49_2).f0), .int .i64 ((rd_T27 l0 x49_2).f1)], .agg #[.int .i64 ((rd_T27 l0 (ji43)).f0), .int .i64 ((rd_T27 l0 (ji43)).f1)]] (by rfl) rfl rfl (by (try simp only [List.map_toArray, List.map_cons, List.map_nil]); first | done | (simp only [hji43]; rfl) | rfl | (simp only [List.length_drop, List.length_take]; rfl)) ?_
                    with_reducible refine (impl_meet.calls ((rd_T27 l0 a1).f0) ((rd_T27 l0 a1).f1) ((rd_T27 l0 a2).f0) ((rd_T27 l0 a2).f1) ((rd_T27 l0 x49_2).f0) ((rd_T27 l0 x49_2).f1) ((rd_T27 l0 (ji43)).f0) ((rd_T27 l0 (ji43)).f1) t112 _ A46.out).mono ?_
                    rintro e w49 ⟨rfl, hb⟩; refine ⟨_, rfl, ?_⟩; have n0_ := Ak (below_step (by repeat (first | exact HB.out | apply bA | apply bD | apply bE)) hb); clear HB; have HB := n0_; clear n0_; (try clear hb); (try clear hb2); (try clear hk); (try clear hi); refine hK.out _ _ ⟨((HB.out.cell (World.block_lt_of_cell? w _ hw108_0)).trans hw108_0), ((HB.out.cell (World.block_lt_of_cell? w _ hw108_1)).trans hw108_1), ((HB.out.cell (World.block_lt_of_cell? w _ hw109_0)).trans hw109_0), ((HB.out.cell (World.block_lt_of_cell? w _ hw109_1)).trans hw109_1), ((HB.out.cell (World.block_lt_of_cell? w _ hw110_0)).trans hw110_0), ((HB.out.cell (World.block_lt_of_cell? w _ hw110_1)).trans hw110_1), ((HB.out.cell (World.block_lt_of_cell? w _ hw111_0)).trans hw111_0), ((HB.out.cell (World.block_lt_of_cell? w _ hw111_1)).trans hw111_1)⟩ (fun hHeld => ?_); clear hK K; refine norm_ (a' := ?_) ?_ ?_; rotate_left
                    ·show Act.put _ (some 95) _ = _; simp only [Act.put, sA, sB, sC, sD, sE]; rfl
                    refine pure_ (i := 21) (N := some 97) (v := ?_) (a' := ?_) #[T,T,T,T,T,T,T,T,T,T,T,T,T,T,T,T,T,T,T,T,T,T] rfl rfl (any_of HT_.out (by kernel_rfl)) (fun _ _ _ h => h) (Or.inl ⟨by rfl, ?_⟩) ?_ ?_; rotate_left
                    ·intro w'; go_simp; with_reducible rfl
                    rotate_left
                    ·simp only [Act.put, sA, sB, sC, sD, sE]; rfl
                    refine done_ (done_of HT_.out (by kernel_rfl)) ?_
                    try go_wp2
                    go_roundg kj13
                    case measure => have := HJ3.out; have := HK2.out; have := HJ13.out; omega
                    case rel => exact ⟨(wrap64 (x49_2 + 1)), (by first | rfl | (simp; done) | (simp [*]; done)), H', ⟨by have := HJ3.out; have := HK2.out; have := HJ13.out; omega⟩, ⟨by repeat (first | (with_reducible first | exact HB.out | apply bA | apply bD | apply bE) | exact HB.out)⟩⟩
                   ·rw [if_neg c47] at H; have c47b0 : (t112 == 0) = false := beq_eq_false_iff_ne.mpr c47; have c47b1 : (t112 != 0) = true := bne_iff_ne.mpr c47; obtain rfl := Option.some.inj H
                    try go_wp2
                    have n0_ := Ak (below_drew1 HB.out); clear HB; have HB := n0_; clear n0_; have p108 : 0 ≤ (a1 : Int) := of_decide_eq_true (by first | (with_reducible assumption) | assumption); have q108 : a1 < (l0.length : Int) := of_decide_eq_true (by first | (with_reducible assumption) | assumption); obtain ⟨ad108, e108, hx108_0, hx108_1⟩ := at_T27 HR0.out a1 p108 q108; have hw108_1 := hx108_1; have hw108_0 := hx108_0; cases e108; replace hx108_0 := cB HB.out hx108_0; replace hx108_1 := cB HB.out hx108_1; replace p108 := eq_true p108; replace q108 := eq_true q108; have p109 : 0 ≤ (a2 : Int) := of_decide_eq_true (by first | (with_reducible assumption) | assumption); have q109 : a2 < (l0.length : Int) := of_decide_eq_true (by first | (with_reducible assumption) | assumption); obtain ⟨ad109, e109, hx109_0, hx109_1⟩ := at_T27 HR0.out a2 p109 q109; have hw109_1 := hx109_1; have hw109_0 := hx109_0; obtain rfl : ad108 = ad109 := (by injection e109); replace hx109_0 := cB HB.out hx109_0; replace hx109_1 := cB HB.out hx109_1; replace p109 := eq_true p109; replace q109 := eq_true q109; have p110 : 0 ≤ (x49_2 : Int) := of_decide_eq_true (by first | (with_reducible assumption) | assumption); have q110 : x49_2 < (l0.length : Int) := of_decide_eq_true (by first | (with_reducible assumption) | assumption); obtain ⟨ad110, e110, hx110_0, hx110_1⟩ := at_T27 HR0.out x49_2 p110 q110; have hw110_1 := hx110_1; have hw110_0 := hx110_0; obtain rfl : ad108 = ad110 := (by injection e110); replace hx110_0 := cB HB.out hx110_0; replace hx110_1 := cB HB.out hx110_1; replace p110 := eq_true p110; replace q110 := eq_true q110; have p111 : 0 ≤ ((ji43) : Int) := of_decide_eq_true (by first | (with_reducible assumption) | assumption); have q111 : (ji43) < (l0.length : Int) := of_decide_eq_true (by first | (with_reducible assumption) | assumption); obtain ⟨ad111, e111, hx111_0, hx111_1⟩ := at_T27 HR0.out (ji43) p111 q111; have hw111_1 := hx111_1; have hw111_0 := hx111_0; obtain rfl : ad108 = ad111 := (by injection e111); replace hx111_0 := cB HB.out hx111_0; replace hx111_1 := cB HB.out hx111_1; replace p111 := eq_true p111; replace q111 := eq_true q111; refine start_ (n := 22) (S := fun w' => w'.cell? (ad108.add ((a1).toNat * 2)) = some (.int .i64 ((rd_T27 l0 a1).f0)) ∧ w'.cell? ⟨(ad108.add ((a1).toNat * 2)).block, (ad108.add ((a1).toNat * 2)).off + 1, none⟩ = some (.int .i64 ((rd_T27 l0 a1).f1)) ∧ w'.cell? (ad108.add ((a2).toNat * 2)) = some (.int .i64 ((rd_T27 l0 a2).f0)) ∧ w'.cell? ⟨(ad108.add ((a2).toNat * 2)).block, (ad108.add ((a2).toNat * 2)).off + 1, none⟩ = some (.int .i64 ((rd_T27 l0 a2).f1)) ∧ w'.cell? (ad108.add ((x49_2).toNat * 2)) = some (.int .i64 ((rd_T27 l0 x49_2).f0)) ∧ w'.cell? ⟨(ad108.add ((x49_2).toNat * 2)).block, (ad108.add ((x49_2).toNat * 2)).off + 1, none⟩ = some (.int .i64 ((rd_T27 l0 x49_2).f1)) ∧ w'.cell? (ad108.add (((ji43)).toNat * 2)) = some (.int .i64 ((rd_T27 l0 (ji43)).f0)) ∧ w'.cell? ⟨(ad108.add (((ji43)).toNat * 2)).block, (ad108.add (((ji43)).toNat * 2)).off + 1, none⟩ = some (.int .i64 ((rd_T27 l0 (ji43)).f1))) (ds := []) #[F,F,F,F,F,F,F,F,F,F,F,F,F,F,F,F,F,F,F,F,F,F] (by kernel_rfl) rfl rfl ⟨((HB.out.cell (World.block_lt_of_cell? w _ hw108_0)).trans hw108_0), ((HB.out.cell (World.block_lt_of_cell? w _ hw108_1)).trans hw108_1), ((HB.out.cell (World.block_lt_of_cell? w _ hw109_0)).trans hw109_0), ((HB.out.cell (World.block_lt_of_cell? w _ hw109_1)).trans hw109_1), ((HB.out.cell (World.block_lt_of_cell? w _ hw110_0)).trans hw110_0), ((HB.out.cell (World.block_lt_of_cell? w _ hw110_1)).trans hw110_1), ((HB.out.cell (World.block_lt_of_cell? w _ hw111_0)).trans hw111_0), ((HB.out.cell (World.block_lt_of_cell? w _ hw111_1)).trans hw111_1)⟩ (fun hHeld => ?_); refine with_tabW impl_isDiagonal.tab10 impl_isDiagonal.bits10 (fun HT_ HW_ => ?_); generalize wc.drew = w50 at HB hx108_0 hx108_1 hx109_0 hx109_1 hx110_0 hx110_1 hx111_0 hx111_1 hHeld ⊢; refine pure_ (i := 0) (N := some 76) (v := ?_) (a' := ?_) #[T,F,F,F,F,F,F,F,F,F,F,F,F,F,F,F,F,F,F,F,F,F] rfl rfl (any_of HT_.out (by kernel_rfl)) (fun _ _ _ h => h) (Or.inl ⟨by rfl, ?_⟩) ?_ ?_; rotate_left
                    ·intro w'; go_simp; with_reducible rfl
                    rotate_left
                    ·simp only [Act.put, sA, sB, sC, sD, sE]; rfl
                    refine pure_ (i := 1) (N := some 77) (v := ?_) (a' := ?_) #[T,T,F,F,F,F,F,F,F,F,F,F,F,F,F,F,F,F,F,F,F,F] rfl rfl (any_of HT_.out (by kernel_rfl)) (fun _ _ _ h => h) (Or.inl ⟨by rfl, ?_⟩) ?_ ?_; rotate_left
                    ·intro w'; go_simp; with_reducible rfl
                    rotate_left
                    ·simp only [Act.put, sA, sB, sC, sD, sE]; rfl
                    refine pure_ (i := 2) (N := some 78) (v := ?_) (a' := ?_) #[T,T,T,F,F,F,F,F,F,F,F,F,F,F,F,F,F,F,F,F,F,F] rfl rfl (any_of HT_.out (by kernel_rfl)) (fun _ _ _ h => h) (Or.inl ⟨by rfl, ?_⟩) ?_ ?_; rotate_left
                    ·intro w'; go_simp; with_reducible rfl
                    rotate_left
                    ·simp only [Act.put, sA, sB, sC, sD, sE]; rfl
                    refine pure_ (i := 4) (N := some 80) (v := ?_) (a' := ?_) #[T,T,T,F,T,F,F,F,F,F,F,F,F,F,F,F,F,F,F,F,F,F] rfl rfl (any_of HT_.out (by kernel_rfl)) (fun _ _ _ h => h) (Or.inl ⟨by rfl, ?_⟩) ?_ ?_; rotate_left
                    ·intro w'; go_simp; with_reducible rfl
                    rotate_left
                    ·simp only [Act.put, sA, sB, sC, sD, sE]; rfl
                    refine pure_ (i := 5) (N := some 81) (v := ?_) (a' := ?_) #[T,T,T,F,T,T,F,F,F,F,F,F,F,F,F,F,F,F,F,F,F,F] rfl rfl (any_of HT_.out (by kernel_rfl)) (fun _ _ _ h => h) (Or.inl ⟨by rfl, ?_⟩) ?_ ?_; rotate_left
                    ·intro w'; go_simp; with_reducible rfl
                    rotate_left
                    ·simp only [Act.put, sA, sB, sC, sD, sE]; rfl
                    refine pure_ (i := 6) (N := some 82) (v := ?_) (a' := ?_) #[T,T,T,F,T,T,T,F,F,F,F,F,F,F,F,F,F,F,F,F,F,F] rfl rfl (any_of HT_.out (by kernel_rfl)) (fun _ _ _ h => h) (Or.inl ⟨by rfl, ?_⟩) ?_ ?_; rotate_left
                    ·intro w'; go_simp; with_reducible rfl
                    rotate_left
                    ·simp only [Act.put, sA, sB, sC, sD, sE]; rfl
                    refine pure_ (i := 8) (N := some 84) (v := ?_) (a' := ?_) #[T,T,T,F,T,T,T,F,T,F,F,F,F,F,F,F,F,F,F,F,F,F] rfl rfl (any_of HT_.out (by kernel_rfl)) (fun _ _ _ h => h) (Or.inl ⟨by rfl, ?_⟩) ?_ ?_; rotate_left
                    ·intro w'; go_simp; with_reducible rfl
                    rotate_left
                    ·simp only [Act.put, sA, sB, sC, sD, sE]; rfl
                    refine pure_ (i := 9) (N := some 85) (v := ?_) (a' := ?_) #[T,T,T,F,T,T,T,F,T,T,F,F,F,F,F,F,F,F,F,F,F,F] rfl rfl (any_of HT_.out (by kernel_rfl)) (fun _ _ _ h => h) (Or.inl ⟨by rfl, ?_⟩) ?_ ?_; rotate_left
                    ·intro w'; go_simp; with_reducible rfl
                    rotate_left
                    ·simp only [Act.put, sA, sB, sC, sD, sE]; rfl
                    refine pure_ (i := 10) (N := some 86) (v := ?_) (a' := ?_) #[T,T,T,F,T,T,T,F,T,T,T,F,F,F,F,F,F,F,F,F,F,F] rfl rfl (any_of HT_.out (by kernel_rfl)) (fun _ _ _ h => h) (Or.inl ⟨by rfl, ?_⟩) ?_ ?_; rotate_left
                    ·intro w'; go_simp; with_reducible rfl
                    rotate_left
                    ·simp only [Act.put, sA, sB, sC, sD, sE]; rfl
                    refine pure_ (i := 12) (N := some 88) (v := ?_) (a' := ?_) #[T,T,T,F,T,T,T,F,T,T,T,F,T,F,F,F,F,F,F,F,F,F] rfl rfl (any_of HT_.out (by kernel_rfl)) (fun _ _ _ h => h) (Or.inl ⟨by rfl, ?_⟩) ?_ ?_; rotate_left
                    ·intro w'; go_simp; with_reducible rfl
                    rotate_left
                    ·simp only [Act.put, sA, sB, sC, sD, sE]; rfl
                    refine pure_ (i := 13) (N := some 89) (v := ?_) (a' := ?_) #[T,T,T,F,T,T,T,F,T,T,T,F,T,T,F,F,F,F,F,F,F,F] rfl rfl (any_of HT_.out (by kernel_rfl)) (fun _ _ _ h => h) (Or.inl ⟨by rfl, ?_⟩) ?_ ?_; rotate_left
                    ·intro w'; go_simp; with_reducible rfl
                    rotate_left
                    ·simp only [Act.put, sA, sB, sC, sD, sE]; rfl
                    refine pure_ (i := 14) (N := some 90) (v := ?_) (a' := ?_) #[T,T,T,F,T,T,T,F,T,T,T,F,T,T,T,F,F,F,F,F,F,F] rfl rfl (any_of HT_.out (by kernel_rfl)) (fun _ _ _ h => h) (Or.inl ⟨by rfl, ?_⟩) ?_ ?_; rotate_left
                    ·intro w'; go_simp; with_reducible rfl
                    rotate_left
                    ·simp only [Act.put, sA, sB, sC, sD, sE]; rfl
                    refine pure_ (i := 15) (N := some 91) (v := ?_) (a' := ?_) #[T,T,T,F,T,T,T,F,T,T,T,F,T,T,T,T,F,F,F,F,F,F] rfl rfl (any_of HT_.out (by kernel_rfl)) (fun _ _ _ h => h) (Or.inl ⟨by rfl, ?_⟩) ?_ ?_; rotate_left
                    ·intro w'; go_simp; with_reducible rfl
                    rotate_left
                    ·simp only [Act.put, sA, sB, sC, sD, sE]; rfl
                    refine pure_ (i := 16) (N := some 92) (v := ?_) (a' := ?_) #[T,T,T,F,T,T,T,F,T,T,T,F,T,T,T,T,T,F,F,F,F,F] rfl rfl (any_of HT_.out (by kernel_rfl)) (fun _ _ _ h => h) (Or.inl ⟨by rfl, ?_⟩) ?_ ?_; rotate_left
                    ·intro w'; go_simp; with_reducible rfl
                    rotate_left
                    ·simp only [Act.put, sA, sB, sC, sD, sE]; rfl
                    refine pure_ (i := 17) (N := some 93) (v := ?_) (a' := ?_) #[T,T,T,F,T,T,T,F,T,T,T,F,T,T,T,T,T,T,F,F,F,F] rfl rfl (any_of HT_.out (by kernel_rfl)) (fun _ _ _ h => h) (Or.inl ⟨by rfl, ?_⟩) ?_ ?_; rotate_left
                    ·intro w'; go_simp; with_reducible rfl
                    rotate_left
                    ·simp only [Act.put, sA, sB, sC, sD, sE]; rfl
                    refine pure_ (i := 20) (N := some 96) (v := ?_) (a' := ?_) #[T,T,T,F,T,T,T,F,T,T,T,F,T,T,T,T,T,T,F,F,T,F] rfl rfl (any_of HT_.out (by kernel_rfl)) (fun _ _ _ h => h) (Or.inl ⟨by rfl, ?_⟩) ?_ ?_; rotate_left
                    ·intro w'; go_simp; with_reducible rfl
                    rotate_left
                    ·simp only [Act.put, sA, sB, sC, sD, sE]; rfl
                    refine take_ (i := 3) (N := some 79) (v := ?_) (a' := ?_) #[T,T,T,T,T,T,T,F,T,T,T,F,T,T,T,T,T,T,F,F,T,F] rfl rfl (take_ofW HT_.out HW_.out (by kernel_rfl)) (fun _ _ _ h => h) (Or.inl ⟨by rfl, ?_⟩) hHeld ?_ ?_; rotate_left
                    ·rintro w' ⟨s0, s1, s2, s3, s4, s5, s6, s7⟩; go_simp; with_reducible rfl
                    rotate_left
                    ·simp only [Act.put, sA, sB, sC, sD, sE]; rfl
                    refine take_ (i := 7) (N := some 83) (v := ?_) (a' := ?_) #[T,T,T,T,T,T,T,T,T,T,T,F,T,T,T,T,T,T,F,F,T,F] rfl rfl (take_ofW HT_.out HW_.out (by kernel_rfl)) (fun _ _ _ h => h) (Or.inl ⟨by rfl, ?_⟩) hHeld ?_ ?_; rotate_left
                    ·rintro w' ⟨s0, s1, s2, s3, s4, s5, s6, s7⟩; go_simp; with_reducible rfl
                    rotate_left
                    ·simp only [Act.put, sA, sB, sC, sD, sE]; rfl
                    refine take_ (i := 11) (N := some 87) (v := ?_) (a' := ?_) #[T,T,T,T,T,T,T,T,T,T,T,T,T,T,T,T,T,T,F,F,T,F] rfl rfl (take_ofW HT_.out HW_.out (by kernel_rfl)) (fun _ _ _ h => h) (Or.inl ⟨by rfl, ?_⟩) hHeld ?_ ?_; rotate_left
                    ·rintro w' ⟨s0, s1, s2, s3, s4, s5, s6, s7⟩; go_simp; with_reducible rfl
                    rotate_left
                    ·simp only [Act.put, sA, sB, sC, sD, sE]; rfl
                    refine take_ (i := 18) (N := some 94) (v := ?_) (a' := ?_) #[T,T,T,T,T,T,T,T,T,T,T,T,T,T,T,T,T,T,T,F,T,F] rfl rfl (take_ofW HT_.out HW_.out (by kernel_rfl)) (fun _ _ _ h => h) (Or.inl ⟨by rfl, ?_⟩) hHeld ?_ ?_; rotate_left
                    ·rintro w' ⟨s0, s1, s2, s3, s4, s5, s6, s7⟩; go_simp; with_reducible rfl
                    rotate_left
                    ·simp only [Act.put, sA, sB, sC, sD, sE]; rfl
                    refine one_ (i := 19) (N := some 95) #[T,T,T,T,T,T,T,T,T,T,T,T,T,T,T,T,T,T,T,T,T,F] rfl rfl (one_of HT_.out (by kernel_rfl)) (by decide) (fun K hK => ?_); refine goes_ Try.func56 (by kernel_rfl) rfl #[.agg #[.int .i64 ((rd_T27 l0 a1).f0), .int .i64 ((rd_T27 l0 a1).f1)], .agg #[.int .i64 ((rd_T27 l0 a2).f0), .int .i64 ((rd_T27 l0 a2).f1)], .agg #[.int .i64 ((rd_T27 l0 x49_2).f0), .int .i64 ((rd_T27 l0 x49_2).f1)], .agg #[.int .i64 ((rd_T27 l0 (ji43)).f0), .int .i64 ((rd_T27 l0 (ji43)).f1)]] (by rfl) rfl rfl (by (try simp only [List.map_toArray, List.map_cons, List.map_nil]); first | done | (simp only [hji43]; rfl) | rfl | (simp only [List.length_drop, List.length_take]; rfl)) ?_
                    with_reducible refine (impl_meet.calls ((rd_T27 l0 a1).f0) ((rd_T27 l0 a1).f1) ((rd_T27 l0 a2).f0) ((rd_T27 l0 a2).f1) ((rd_T27 l0 x49_2).f0) ((rd_T27 l0 x49_2).f1) ((rd_T27 l0 (ji43)).f0) ((rd_T27 l0 (ji43)).f1) t112 _ A46.out).mono ?_
                    rintro e w51 ⟨rfl, hb⟩; refine ⟨_, rfl, ?_⟩; have n0_ := Ak (below_step (by repeat (first | exact HB.out | apply bA | apply bD | apply bE)) hb); clear HB; have HB := n0_; clear n0_; (try clear hb); (try clear hb2); (try clear hk); (try clear hi); refine hK.out _ _ ⟨((HB.out.cell (World.block_lt_of_cell? w _ hw108_0)).trans hw108_0), ((HB.out.cell (World.block_lt_of_cell? w _ hw108_1)).trans hw108_1), ((HB.out.cell (World.block_lt_of_cell? w _ hw109_0)).trans hw109_0), ((HB.out.cell (World.block_lt_of_cell? w _ hw109_1)).trans hw109_1), ((HB.out.cell (World.block_lt_of_cell? w _ hw110_0)).trans hw110_0), ((HB.out.cell (World.block_lt_of_cell? w _ hw110_1)).trans hw110_1), ((HB.out.cell (World.block_lt_of_cell? w _ hw111_0)).trans hw111_0), ((HB.out.cell (World.block_lt_of_cell? w _ hw111_1)).trans hw111_1)⟩ (fun hHeld => ?_); clear hK K; refine norm_ (a' := ?_) ?_ ?_; rotate_left
                    ·show Act.put _ (some 95) _ = _; simp only [Act.put, sA, sB, sC, sD, sE]; rfl
                    refine pure_ (i := 21) (N := some 97) (v := ?_) (a' := ?_) #[T,T,T,T,T,T,T,T,T,T,T,T,T,T,T,T,T,T,T,T,T,T] rfl rfl (any_of HT_.out (by kernel_rfl)) (fun _ _ _ h => h) (Or.inl ⟨by rfl, ?_⟩) ?_ ?_; rotate_left
                    ·intro w'; go_simp; with_reducible rfl
                    rotate_left
                    ·simp only [Act.put, sA, sB, sC, sD, sE]; rfl
                    refine done_ (done_of HT_.out (by kernel_rfl)) ?_
                    try go_wp2
                    go_ret
                    exact ⟨by first | rfl | (simp [errW_none, errW_some] <;> rfl) | (simp only [← hji43]; first | rfl | (simp [errW_none, errW_some] <;> rfl)) | (simp [*, errW_none, errW_some] <;> rfl), by repeat (first | (with_reducible first | exact HB.out | apply bA | apply bD | apply bE) | exact HB.out)⟩
                  ·rw [if_neg c45] at H; exact absurd H (by simp)
                 ·rw [if_neg c44] at H; exact absurd H (by simp)
               ·rw [if_neg c41] at H; exact absurd H (by simp)
              ·rw [if_neg c40] at H; exact absurd H (by simp)
             ·rw [if_neg c39] at H; exact absurd H (by simp)
            ·rw [if_neg c38] at H; exact absurd H (by simp)
           ·rw [if_neg c37] at H; exact absurd H (by simp)
          ·rw [if_neg c36] at H; exact absurd H (by simp)
      ·rw [if_neg c13] at H; have c13b0 : decide (x49_2 < (l0.length : Int)) = false := decide_eq_false c13; clear c13; obtain ⟨y113, hy113⟩ : ∃ y_ : List (S27), y_ = (([] : List (S27))) := ⟨_, rfl⟩; replace H : (impl_isDiagonal.l1 k2 l0 a1 a2 y113 l0 (l0.length : Int) 0) = some r := by first | (rw [hy113]; exact H) | exact H
       have Ny113 := Ak hy113; clear hy113; have H' := Ak H; clear H
       go_wp2_with (first | ((with_reducible refine gate_dst (N := 99) rfl ?_); refine Kd.R_lit k27 _ 27 ?hg (N := 99) ?hd (xs := ([] : List (S27))) (inner := []) (ok := fun _ => True) (okp := fun _ => True) ?hr ?hp (fun _ hk => hk) trivial (Below.refl _ _) (Nat.le_refl _) (by simp) ?_; (case hd | hg => rfl); (case hr => first | (go_simp; done) | (go_simp; rfl)); (case hp => exact (Reps.none _ _)); intro v114 w52 ho53 hb hg_ hnew_; clear hg_ hnew_; (first | rw [← Ny113.out] at ho53 | (simp only [Int.reduceToNat] at ho53; rw [← Ny113.out] at ho53)); have n0_ := Ak (Kd.R_lower ho53 (below_size (by repeat (first | exact HB.out | apply bA | apply bD | apply bE)))); have n1_ := Ak (below_step (by repeat (first | exact HB.out | apply bA | apply bD | apply bE)) hb); clear HB; have HO115 := n0_; have HB := n1_; clear n0_ n1_; clear hb ho53))
       go_loopg [10, 102] k2 (fun kq v10 v102 w' => ∃ (x10_3 : List (S27)) (x102_3 : Int), v102 = .int .i64 x102_3 ∧ Aside0 (impl_isDiagonal.l1 kq l0 a1 a2 x10_3 l0 (l0.length : Int) x102_3 = some r) ∧ Aside0 (kq ≤ k2) ∧ Aside0 (Kd.R k27 27 w' w.heap.size (fun _ => True) v10 x10_3) ∧ Aside0 (Below w.heap.size w w'))
       case atStart => exact ⟨(y113), (0), (by first | rfl | (simp; done) | (simp [*]; done)), H', ⟨Nat.le_refl _⟩, ⟨by (with_reducible repeat (first | apply Kd.R_alloc | apply Kd.R_drewN | apply Kd.R_drew)); exact HO115.out⟩, ⟨by repeat (first | (with_reducible first | exact HB.out | apply bA | apply bD | apply bE) | exact HB.out)⟩⟩
       case round =>
        clear H'
        try clear c1
        try clear p1
        try clear q1
        try clear hx1
        try clear c2
        try clear p2
        try clear c3
        try clear c4
        try clear c5
        try clear p6
        try clear p10
        try clear q10
        try clear hx10
        try clear p11
        try clear q11
        try clear hx11
        try clear c13
        try clear c13b0
        try clear c19
        try clear c20
        try clear c21
        try clear c22
        try clear c23
        try clear c24
        try clear c25
        try clear c28
        try clear c29
        try clear c36
        try clear c36b0
        try clear c37
        try clear c37b0
        try clear c38
        try clear c38b0
        try clear c39
        try clear c39b0
        try clear c40
        try clear c40b0
        try clear c41
        try clear c41b0
        try clear c42
        try clear c42b0
        try clear c42b1
        try clear c42b2
        try clear c44
        try clear c44b0
        try clear c45
        try clear c45b0
        try clear c47
        try clear c47b0
        try clear c47b1
        try clear hx108_0
        try clear hx108_1
        try clear hx109_0
        try clear hx109_1
        try clear hx110_0
        try clear hx110_1
        try clear hx111_0
        try clear hx111_1
        try clear p108
        try clear p109
        try clear p110
        try clear p111
        try clear q108
        try clear q109
        try clear q110
        try clear q111
        obtain ⟨x10_3, x102_3, rfl, HA, HK3, HO_10, HB⟩ := hrel
        cases gk with
        | zero => exact absurd HA.out (by simp [impl_isDiagonal.l1])
        | succ k3 =>
         have H := HA.out; clear HA; simp only [impl_isDiagonal.l1] at H
         by_cases c54 : x102_3 < (l0.length : Int)
         ·rw [if_pos c54] at H; have c54b0 : decide (x102_3 < (l0.length : Int)) = true := decide_eq_true c54; clear c54
          by_cases c55 : 0 ≤ x102_3
          ·rw [if_pos c55] at H; have c55b0 : decide (0 ≤ x102_3) = true := decide_eq_true c55; clear c55
           by_cases c56 : x102_3 < (l0.length : Int)
           ·rw [if_pos c56] at H; have c56b0 : decide (x102_3 < (l0.length : Int)) = true := decide_eq_true c56; clear c56
            by_cases c57 : x10_3.length < 8796093022208
            ·rw [if_pos c57] at H; have LMc57 := Ak c57; clear c57; obtain ⟨y118, hy118⟩ : ∃ y_ : List (S27), y_ = (x10_3 ++ [(⟨wrap64 (2 * ((rd_T27 l0 x102_3).f0)), wrap64 (2 * ((rd_T27 l0 x102_3).f1))⟩ : S27)]) := ⟨_, rfl⟩; replace H : (impl_isDiagonal.l1 k3 l0 a1 a2 y118 l0 (l0.length : Int) (wrap64 (x102_3 + 1))) = some r := by first | (rw [hy118]; exact H) | exact H
             have Ny118 := Ak hy118; clear hy118; have H' := Ak H; clear H; have p116 : 0 ≤ (x102_3 : Int) := of_decide_eq_true (by first | (with_reducible assumption) | assumption); have q116 : x102_3 < (l0.length : Int) := of_decide_eq_true (by first | (with_reducible assumption) | assumption); obtain ⟨ad116, e116, hx116_0, hx116_1⟩ := at_T27 HR0.out x102_3 p116 q116; cases e116; replace hx116_0 := cB HB.out hx116_0; replace hx116_1 := cB HB.out hx116_1; replace p116 := eq_true p116; replace q116 := eq_true q116
             go_wp2_with (first | ((with_reducible refine gate_dst (N := 12) rfl ?_); refine box_event ?hg (N := 12) ?hd (cs := #[.int .i64 0, .int .i64 0]) (t := 27) ?hr ?_; (case hd | hg => rfl); (case hr => first | (go_simp; done) | (go_simp; rfl)); intro gb117 hg w58 hbox hb; have n0_ := Ak (Kd.R_below (Kd.R_elderB (by (with_reducible repeat (first | apply Kd.R_alloc | apply Kd.R_drewN | apply Kd.R_drew)); exact HO_10.out) gb117 (Nat.le_of_eq hg.symm)) hb); have n1_ := Ak (below_step (by repeat (first | exact HB.out | apply bA | apply bD | apply bE)) hb); have n2_ := Ak (hbox); have n3_ := Ak ((by rw [hg]; exact (below_size (by repeat (first | exact HB.out | apply bA | apply bD | apply bE))) : w.heap.size ≤ gb117)); have n4_ := n3_; clear HO_10; clear HB; have HO_10 := n0_; have HB := n1_; have BK117 := n2_; have GW117 := n3_; have GE117 := n4_; clear n0_ n1_ n2_ n3_ n4_; clear hb hbox hg; have hcz59_0 : w58.cell? ⟨gb117, 0, none⟩ = some (.int .i64 0) := (blk_cell BK117.out 0).trans rfl; have hcz59_1 : w58.cell? ⟨gb117, 1, none⟩ = some (.int .i64 0) := (blk_cell BK117.out 1).trans rfl; have hfz59_0 := blk_frozen BK117.out 0; have hfz59_1 := blk_frozen BK117.out 1) | ((with_reducible refine gate_builtin (b := .append) (xs := #[.tmp 106, .tmp 114]) rfl ?_); at_builtin; refine Kd.R_append k27 (w0 := w) w.heap.size rfl (.tmp 106) (.tmp 114) 23 27 (.agg #[(.int .i64 0), (.int .i64 0)]) 16 rfl Try.underlying23 info27 rfl (by decide) (by omega) u10 x10_3 (⟨wrap64 (2 * ((rd_T27 l0 x102_3).f0)), wrap64 (2 * ((rd_T27 l0 x102_3).f1))⟩ : S27) [.int .i64 (wrap64 (2 * ((rd_T27 l0 x102_3).f0))), .int .i64 (wrap64 (2 * ((rd_T27 l0 x102_3).f1)))] (fun k_ => k_ ≠ gb117) (fun _ => False) rfl (by first | (go_simp; done) | (go_simp; rfl)) ?aP (fun _ hk => hk.elim) ?aF ?aO ?aB ?aS ?aL ?_; (case aP => exact k27_mkM _ _ _ (⟨wrap64 (2 * ((rd_T27 l0 x102_3).f0)), wrap64 (2 * ((rd_T27 l0 x102_3).f1))⟩ : S27)); (case aB => exact (by repeat (first | exact HB.out | apply bA | apply bD | apply bE | refine below_set ?_ GE117.out))); (case aF => exact (fun k_ hk => Kd.freshB (g := gb117) (o := .cells #[.int .i64 ((rd_T27 l0 x102_3).f0), .int .i64 ((rd_T27 l0 x102_3).f1)] 27 (0, 0)) (by refine blk_put (cs := #[.int .i64 ((rd_T27 l0 x102_3).f0), .int .i64 0]) ?_ 1 _ rfl; refine blk_put (cs := #[.int .i64 0, .int .i64 0]) ?_ 0 _ rfl; exact BK117.out) k_ hk)); (case aO => exact (by (with_reducible repeat (first | apply Kd.R_alloc | apply Kd.R_drewN | apply Kd.R_drew)); exact Kd.R_mono (Kd.R_far (p := ⟨gb117, 1, none⟩) (Kd.R_far (p := ⟨gb117, 0, none⟩) (Kd.R_mono HO_10.out (fun k_ hk => (⟨hk, hk.2⟩ : _ ∧ k_ ≠ gb117))) (fun _ hk => hk.2) (.int .i64 ((rd_T27 l0 x102_3).f0))) (fun _ hk => hk.2) (.int .i64 ((rd_T27 l0 x102_3).f1))) (fun _ hk => hk.1.2))); (case aS => exact (below_size (by repeat (first | exact HB.out | apply bA | apply bD | apply bE | refine below_set ?_ GE117.out)))); (case aL => have := LMc57.out; omega); intro v119 w60 ho hb hg hat; rw [← Ny118.out] at ho; have n0_ := Ak (blk_grown (g := gb117) (o := .cells #[.int .i64 ((rd_T27 l0 x102_3).f0), .int .i64 ((rd_T27 l0 x102_3).f1)] 27 (0, 0)) (by refine blk_put (cs := #[.int .i64 ((rd_T27 l0 x102_3).f0), .int .i64 0]) ?_ 1 _ rfl; refine blk_put (cs := #[.int .i64 0, .int .i64 0]) ?_ 0 _ rfl; exact BK117.out) hg (Kd.R_away HO_10.out (fun _ hk => hk.2))); have n1_ := Ak (hb); have n2_ := Ak (ho); clear BK117; clear HB; clear HO_10; have BK117 := n0_; have HB := n1_; have HO120 := n2_; clear n0_ n1_ n2_; clear ho hb hg hat))
             go_roundg k3
             case measure => have := HJ3.out; have := HK2.out; have := HK3.out; omega
             case rel => exact ⟨(y118), (wrap64 (x102_3 + 1)), (by first | rfl | (simp; done) | (simp [*]; done)), H', ⟨by have := HJ3.out; have := HK2.out; have := HK3.out; omega⟩, ⟨by (with_reducible repeat (first | apply Kd.R_alloc | apply Kd.R_drewN | apply Kd.R_drew)); exact Kd.R_mono HO120.out (fun _ hk => trivial)⟩, ⟨by repeat (first | (with_reducible first | exact HB.out | apply bA | apply bD | apply bE | refine below_set ?_ GE117.out) | exact HB.out)⟩⟩
            ·rw [if_neg c57] at H; exact absurd H (by simp)
           ·rw [if_neg c56] at H; exact absurd H (by simp)
          ·rw [if_neg c55] at H; exact absurd H (by simp)
         ·rw [if_neg c54] at H; have c54b0 : decide (x102_3 < (l0.length : Int)) = false := decide_eq_false c54; clear c54
          by_cases c61 : 0 ≤ a1
          ·rw [if_pos c61] at H; have c61b0 : decide (0 ≤ a1) = true := decide_eq_true c61; clear c61
           by_cases c62 : a1 < (l0.length : Int)
           ·rw [if_pos c62] at H; have c62b0 : decide (a1 < (l0.length : Int)) = true := decide_eq_true c62; clear c62
            by_cases c63 : 0 ≤ a2
            ·rw [if_pos c63] at H; have c63b0 : decide (0 ≤ a2) = true := decide_eq_true c63; clear c63
             by_cases c64 : a2 < (l0.length : Int)
             ·rw [if_pos c64] at H; have c64b0 : decide (a2 < (l0.length : Int)) = true := decide_eq_true c64; clear c64; replace H := Option.bind_eq_some_iff.mp H; obtain ⟨t125, A650, H⟩ := H; replace H : (some t125) = some r := H; have A65 := Ak A650; clear A650; obtain rfl := Option.some.inj H
              try go_wp2
              have n0_ := Ak (Kd.R_drew HO_10.out); have n1_ := Ak (below_drew1 HB.out); clear HO_10 HB; have HO_10 := n0_; have HB := n1_; clear n0_ n1_; have p121 : 0 ≤ (a1 : Int) := of_decide_eq_true (by first | (with_reducible assumption) | assumption); have q121 : a1 < (l0.length : Int) := of_decide_eq_true (by first | (with_reducible assumption) | assumption); obtain ⟨ad121, e121, hx121_0, hx121_1⟩ := at_T27 HR0.out a1 p121 q121; have hw121_1 := hx121_1; have hw121_0 := hx121_0; cases e121; replace hx121_0 := cB HB.out hx121_0; replace hx121_1 := cB HB.out hx121_1; replace p121 := eq_true p121; replace q121 := eq_true q121; have p122 : 0 ≤ (a2 : Int) := of_decide_eq_true (by first | (with_reducible assumption) | assumption); have q122 : a2 < (l0.length : Int) := of_decide_eq_true (by first | (with_reducible assumption) | assumption); obtain ⟨ad122, e122, hx122_0, hx122_1⟩ := at_T27 HR0.out a2 p122 q122; have hw122_1 := hx122_1; have hw122_0 := hx122_0; obtain rfl : ad121 = ad122 := (by injection e122); replace hx122_0 := cB HB.out hx122_0; replace hx122_1 := cB HB.out hx122_1; replace p122 := eq_true p122; replace q122 := eq_true q122; have p123 : 0 ≤ (a1 : Int) := of_decide_eq_true (by first | (with_reducible assumption) | assumption); have q123 : a1 < (l0.length : Int) := of_decide_eq_true (by first | (with_reducible assumption) | assumption); obtain ⟨ad123, e123, hx123_0, hx123_1⟩ := at_T27 HR0.out a1 p123 q123; have hw123_1 := hx123_1; have hw123_0 := hx123_0; obtain rfl : ad121 = ad123 := (by injection e123); replace hx123_0 := cB HB.out hx123_0; replace hx123_1 := cB HB.out hx123_1; replace p123 := eq_true p123; replace q123 := eq_true q123; have p124 : 0 ≤ (a2 : Int) := of_decide_eq_true (by first | (with_reducible assumption) | assumption); have q124 : a2 < (l0.length : Int) := of_decide_eq_true (by first | (with_reducible assumption) | assumption); obtain ⟨ad124, e124, hx124_0, hx124_1⟩ := at_T27 HR0.out a2 p124 q124; have hw124_1 := hx124_1; have hw124_0 := hx124_0; obtain rfl : ad121 = ad124 := (by injection e124); replace hx124_0 := cB HB.out hx124_0; replace hx124_1 := cB HB.out hx124_1; replace p124 := eq_true p124; replace q124 := eq_true q124; obtain ⟨Ao67, co67, eo67⟩ := Kd.R_slice HO_10.out
              (first | subst eo67 | (injection eo67 with f1_ f2_ f3_; have f4_ := f1_.symm; have f5_ := f3_.symm; clear f1_ f2_ f3_; subst f4_; subst f5_))
              refine start_ (n := 26) (S := fun w' => w'.cell? (ad121.add ((a1).toNat * 2)) = some (.int .i64 ((rd_T27 l0 a1).f0)) ∧ w'.cell? ⟨(ad121.add ((a1).toNat * 2)).block, (ad121.add ((a1).toNat * 2)).off + 1, none⟩ = some (.int .i64 ((rd_T27 l0 a1).f1)) ∧ w'.cell? (ad121.add ((a2).toNat * 2)) = some (.int .i64 ((rd_T27 l0 a2).f0)) ∧ w'.cell? ⟨(ad121.add ((a2).toNat * 2)).block, (ad121.add ((a2).toNat * 2)).off + 1, none⟩ = some (.int .i64 ((rd_T27 l0 a2).f1)) ∧ w'.cell? (ad121.add ((a1).toNat * 2)) = some (.int .i64 ((rd_T27 l0 a1).f0)) ∧ w'.cell? ⟨(ad121.add ((a1).toNat * 2)).block, (ad121.add ((a1).toNat * 2)).off + 1, none⟩ = some (.int .i64 ((rd_T27 l0 a1).f1)) ∧ w'.cell? (ad121.add ((a2).toNat * 2)) = some (.int .i64 ((rd_T27 l0 a2).f0)) ∧ w'.cell? ⟨(ad121.add ((a2).toNat * 2)).block, (ad121.add ((a2).toNat * 2)).off + 1, none⟩ = some (.int .i64 ((rd_T27 l0 a2).f1))) (ds := []) #[F,F,F,F,F,F,F,F,F,F,F,F,F,F,F,F,F,F,F,F,F,F,F,F,F,F] (by kernel_rfl) rfl rfl ⟨((HB.out.cell (World.block_lt_of_cell? w _ hw121_0)).trans hw121_0), ((HB.out.cell (World.block_lt_of_cell? w _ hw121_1)).trans hw121_1), ((HB.out.cell (World.block_lt_of_cell? w _ hw122_0)).trans hw122_0), ((HB.out.cell (World.block_lt_of_cell? w _ hw122_1)).trans hw122_1), ((HB.out.cell (World.block_lt_of_cell? w _ hw123_0)).trans hw123_0), ((HB.out.cell (World.block_lt_of_cell? w _ hw123_1)).trans hw123_1), ((HB.out.cell (World.block_lt_of_cell? w _ hw124_0)).trans hw124_0), ((HB.out.cell (World.block_lt_of_cell? w _ hw124_1)).trans hw124_1)⟩ (fun hHeld => ?_); refine with_tabW impl_isDiagonal.tab19 impl_isDiagonal.bits19 (fun HT_ HW_ => ?_); generalize wr.drew = w66 at HO_10 HB hx121_0 hx121_1 hx122_0 hx122_1 hx123_0 hx123_1 hx124_0 hx124_1 hHeld ⊢; refine pure_ (i := 0) (N := some 117) (v := ?_) (a' := ?_) #[T,F,F,F,F,F,F,F,F,F,F,F,F,F,F,F,F,F,F,F,F,F,F,F,F,F] rfl rfl (any_of HT_.out (by kernel_rfl)) (fun _ _ _ h => h) (Or.inl ⟨by rfl, ?_⟩) ?_ ?_; rotate_left
              ·intro w'; go_simp; with_reducible rfl
              rotate_left
              ·simp only [Act.put, sA, sB, sC, sD, sE]; rfl
              refine pure_ (i := 1) (N := some 118) (v := ?_) (a' := ?_) #[T,T,F,F,F,F,F,F,F,F,F,F,F,F,F,F,F,F,F,F,F,F,F,F,F,F] rfl rfl (any_of HT_.out (by kernel_rfl)) (fun _ _ _ h => h) (Or.inl ⟨by rfl, ?_⟩) ?_ ?_; rotate_left
              ·intro w'; go_simp; with_reducible rfl
              rotate_left
              ·simp only [Act.put, sA, sB, sC, sD, sE]; rfl
              refine pure_ (i := 2) (N := some 119) (v := ?_) (a' := ?_) #[T,T,T,F,F,F,F,F,F,F,F,F,F,F,F,F,F,F,F,F,F,F,F,F,F,F] rfl rfl (any_of HT_.out (by kernel_rfl)) (fun _ _ _ h => h) (Or.inl ⟨by rfl, ?_⟩) ?_ ?_; rotate_left
              ·intro w'; go_simp; with_reducible rfl
              rotate_left
              ·simp only [Act.put, sA, sB, sC, sD, sE]; rfl
              refine pure_ (i := 3) (N := some 120) (v := ?_) (a' := ?_) #[T,T,T,T,F,F,F,F,F,F,F,F,F,F,F,F,F,F,F,F,F,F,F,F,F,F] rfl rfl (any_of HT_.out (by kernel_rfl)) (fun _ _ _ h => h) (Or.inl ⟨by rfl, ?_⟩) ?_ ?_; rotate_left
              ·intro w'; go_simp; with_reducible rfl
              rotate_left
              ·simp only [Act.put, sA, sB, sC, sD, sE]; rfl
              refine pure_ (i := 4) (N := some 121) (v := ?_) (a' := ?_) #[T,T,T,T,T,F,F,F,F,F,F,F,F,F,F,F,F,F,F,F,F,F,F,F,F,F] rfl rfl (any_of HT_.out (by kernel_rfl)) (fun _ _ _ h => h) (Or.inl ⟨by rfl, ?_⟩) ?_ ?_; rotate_left
              ·intro w'; go_simp; with_reducible rfl
              rotate_left
              ·simp only [Act.put, sA, sB, sC, sD, sE]; rfl
              refine pure_ (i := 6) (N := some 123) (v := ?_) (a' := ?_) #[T,T,T,T,T,F,T,F,F,F,F,F,F,F,F,F,F,F,F,F,F,F,F,F,F,F] rfl rfl (any_of HT_.out (by kernel_rfl)) (fun _ _ _ h => h) (Or.inl ⟨by rfl, ?_⟩) ?_ ?_; rotate_left
              ·intro w'; go_simp; with_reducible rfl
              rotate_left
              ·simp only [Act.put, sA, sB, sC, sD, sE]; rfl
              refine pure_ (i := 7) (N := some 124) (v := ?_) (a' := ?_) #[T,T,T,T,T,F,T,T,F,F,F,F,F,F,F,F,F,F,F,F,F,F,F,F,F,F] rfl rfl (any_of HT_.out (by kernel_rfl)) (fun _ _ _ h => h) (Or.inl ⟨by rfl, ?_⟩) ?_ ?_; rotate_left
              ·intro w'; go_simp; with_reducible rfl
              rotate_left
              ·simp only [Act.put, sA, sB, sC, sD, sE]; rfl
              refine pure_ (i := 8) (N := some 125) (v := ?_) (a' := ?_) #[T,T,T,T,T,F,T,T,T,F,F,F,F,F,F,F,F,F,F,F,F,F,F,F,F,F] rfl rfl (any_of HT_.out (by kernel_rfl)) (fun _ _ _ h => h) (Or.inl ⟨by rfl, ?_⟩) ?_ ?_; rotate_left
              ·intro w'; go_simp; with_reducible rfl
              rotate_left
              ·simp only [Act.put, sA, sB, sC, sD, sE]; rfl
              refine pure_ (i := 9) (N := some 126) (v := ?_) (a' := ?_) #[T,T,T,T,T,F,T,T,T,T,F,F,F,F,F,F,F,F,F,F,F,F,F,F,F,F] rfl rfl (any_of HT_.out (by kernel_rfl)) (fun _ _ _ h => h) (Or.inl ⟨by rfl, ?_⟩) ?_ ?_; rotate_left
              ·intro w'; go_simp; with_reducible rfl
              rotate_left
              ·simp only [Act.put, sA, sB, sC, sD, sE]; rfl
              refine pure_ (i := 12) (N := some 129) (v := ?_) (a' := ?_) #[T,T,T,T,T,F,T,T,T,T,F,F,T,F,F,F,F,F,F,F,F,F,F,F,F,F] rfl rfl (any_of HT_.out (by kernel_rfl)) (fun _ _ _ h => h) (Or.inl ⟨by rfl, ?_⟩) ?_ ?_; rotate_left
              ·intro w'; go_simp; with_reducible rfl
              rotate_left
              ·simp only [Act.put, sA, sB, sC, sD, sE]; rfl
              refine pure_ (i := 13) (N := some 130) (v := ?_) (a' := ?_) #[T,T,T,T,T,F,T,T,T,T,F,F,T,T,F,F,F,F,F,F,F,F,F,F,F,F] rfl rfl (any_of HT_.out (by kernel_rfl)) (fun _ _ _ h => h) (Or.inl ⟨by rfl, ?_⟩) ?_ ?_; rotate_left
              ·intro w'; go_simp; with_reducible rfl
              rotate_left
              ·simp only [Act.put, sA, sB, sC, sD, sE]; rfl
              refine pure_ (i := 14) (N := some 131) (v := ?_) (a' := ?_) #[T,T,T,T,T,F,T,T,T,T,F,F,T,T,T,F,F,F,F,F,F,F,F,F,F,F] rfl rfl (any_of HT_.out (by kernel_rfl)) (fun _ _ _ h => h) (Or.inl ⟨by rfl, ?_⟩) ?_ ?_; rotate_left
              ·intro w'; go_simp; with_reducible rfl
              rotate_left
              ·simp only [Act.put, sA, sB, sC, sD, sE]; rfl
              refine pure_ (i := 15) (N := some 132) (v := ?_) (a' := ?_) #[T,T,T,T,T,F,T,T,T,T,F,F,T,T,T,T,F,F,F,F,F,F,F,F,F,F] rfl rfl (any_of HT_.out (by kernel_rfl)) (fun _ _ _ h => h) (Or.inl ⟨by rfl, ?_⟩) ?_ ?_; rotate_left
              ·intro w'; go_simp; with_reducible rfl
              rotate_left
              ·simp only [Act.put, sA, sB, sC, sD, sE]; rfl
              refine pure_ (i := 17) (N := some 134) (v := ?_) (a' := ?_) #[T,T,T,T,T,F,T,T,T,T,F,F,T,T,T,T,F,T,F,F,F,F,F,F,F,F] rfl rfl (any_of HT_.out (by kernel_rfl)) (fun _ _ _ h => h) (Or.inl ⟨by rfl, ?_⟩) ?_ ?_; rotate_left
              ·intro w'; go_simp; with_reducible rfl
              rotate_left
              ·simp only [Act.put, sA, sB, sC, sD, sE]; rfl
              refine pure_ (i := 18) (N := some 135) (v := ?_) (a' := ?_) #[T,T,T,T,T,F,T,T,T,T,F,F,T,T,T,T,F,T,T,F,F,F,F,F,F,F] rfl rfl (any_of HT_.out (by kernel_rfl)) (fun _ _ _ h => h) (Or.inl ⟨by rfl, ?_⟩) ?_ ?_; rotate_left
              ·intro w'; go_simp; with_reducible rfl
              rotate_left
              ·simp only [Act.put, sA, sB, sC, sD, sE]; rfl
              refine pure_ (i := 19) (N := some 136) (v := ?_) (a' := ?_) #[T,T,T,T,T,F,T,T,T,T,F,F,T,T,T,T,F,T,T,T,F,F,F,F,F,F] rfl rfl (any_of HT_.out (by kernel_rfl)) (fun _ _ _ h => h) (Or.inl ⟨by rfl, ?_⟩) ?_ ?_; rotate_left
              ·intro w'; go_simp; with_reducible rfl
              rotate_left
              ·simp only [Act.put, sA, sB, sC, sD, sE]; rfl
              refine pure_ (i := 20) (N := some 137) (v := ?_) (a' := ?_) #[T,T,T,T,T,F,T,T,T,T,F,F,T,T,T,T,F,T,T,T,T,F,F,F,F,F] rfl rfl (any_of HT_.out (by kernel_rfl)) (fun _ _ _ h => h) (Or.inl ⟨by rfl, ?_⟩) ?_ ?_; rotate_left
              ·intro w'; go_simp; with_reducible rfl
              rotate_left
              ·simp only [Act.put, sA, sB, sC, sD, sE]; rfl
              refine take_ (i := 5) (N := some 122) (v := ?_) (a' := ?_) #[T,T,T,T,T,T,T,T,T,T,F,F,T,T,T,T,F,T,T,T,T,F,F,F,F,F] rfl rfl (take_ofW HT_.out HW_.out (by kernel_rfl)) (fun _ _ _ h => h) (Or.inl ⟨by rfl, ?_⟩) hHeld ?_ ?_; rotate_left
              ·rintro w' ⟨s0, s1, s2, s3, s4, s5, s6, s7⟩; go_simp; with_reducible rfl
              rotate_left
              ·simp only [Act.put, sA, sB, sC, sD, sE]; rfl
              refine take_ (i := 10) (N := some 127) (v := ?_) (a' := ?_) #[T,T,T,T,T,T,T,T,T,T,T,F,T,T,T,T,F,T,T,T,T,F,F,F,F,F] rfl rfl (take_ofW HT_.out HW_.out (by kernel_rfl)) (fun _ _ _ h => h) (Or.inl ⟨by rfl, ?_⟩) hHeld ?_ ?_; rotate_left
              ·rintro w' ⟨s0, s1, s2, s3, s4, s5, s6, s7⟩; go_simp; with_reducible rfl
              rotate_left
              ·simp only [Act.put, sA, sB, sC, sD, sE]; rfl
              refine pure_ (i := 11) (N := some 128) (v := ?_) (a' := ?_) #[T,T,T,T,T,T,T,T,T,T,T,T,T,T,T,T,F,T,T,T,T,F,F,F,F,F] rfl rfl (any_of HT_.out (by kernel_rfl)) (fun _ _ _ h => h) (Or.inl ⟨by rfl, ?_⟩) ?_ ?_; rotate_left
              ·intro w'; go_simp; with_reducible rfl
              rotate_left
              ·simp only [Act.put, sA, sB, sC, sD, sE]; rfl
              refine take_ (i := 16) (N := some 133) (v := ?_) (a' := ?_) #[T,T,T,T,T,T,T,T,T,T,T,T,T,T,T,T,T,T,T,T,T,F,F,F,F,F] rfl rfl (take_ofW HT_.out HW_.out (by kernel_rfl)) (fun _ _ _ h => h) (Or.inl ⟨by rfl, ?_⟩) hHeld ?_ ?_; rotate_left
              ·rintro w' ⟨s0, s1, s2, s3, s4, s5, s6, s7⟩; go_simp; with_reducible rfl
              rotate_left
              ·simp only [Act.put, sA, sB, sC, sD, sE]; rfl
              refine take_ (i := 21) (N := some 138) (v := ?_) (a' := ?_) #[T,T,T,T,T,T,T,T,T,T,T,T,T,T,T,T,T,T,T,T,T,T,F,F,F,F] rfl rfl (take_ofW HT_.out HW_.out (by kernel_rfl)) (fun _ _ _ h => h) (Or.inl ⟨by rfl, ?_⟩) hHeld ?_ ?_; rotate_left
              ·rintro w' ⟨s0, s1, s2, s3, s4, s5, s6, s7⟩; go_simp; with_reducible rfl
              rotate_left
              ·simp only [Act.put, sA, sB, sC, sD, sE]; rfl
              refine pure_ (i := 22) (N := some 139) (v := ?_) (a' := ?_) #[T,T,T,T,T,T,T,T,T,T,T,T,T,T,T,T,T,T,T,T,T,T,T,F,F,F] rfl rfl (any_of HT_.out (by kernel_rfl)) (fun _ _ _ h => h) (Or.inl ⟨by rfl, ?_⟩) ?_ ?_; rotate_left
              ·intro w'; go_simp; with_reducible rfl
              rotate_left
              ·simp only [Act.put, sA, sB, sC, sD, sE]; rfl
              refine pure_ (i := 23) (N := some 140) (v := ?_) (a' := ?_) #[T,T,T,T,T,T,T,T,T,T,T,T,T,T,T,T,T,T,T,T,T,T,T,T,F,F] rfl rfl (any_of HT_.out (by kernel_rfl)) (fun _ _ _ h => h) (Or.inl ⟨by rfl, ?_⟩) ?_ ?_; rotate_left
              ·intro w'; go_simp; with_reducible rfl
              rotate_left
              ·simp only [Act.put, sA, sB, sC, sD, sE]; rfl
              refine one_ (i := 24) (N := some 141) #[T,T,T,T,T,T,T,T,T,T,T,T,T,T,T,T,T,T,T,T,T,T,T,T,T,F] rfl rfl (one_of HT_.out (by kernel_rfl)) (by decide) (fun K hK => ?_); refine goes_ Try.func62 (by kernel_rfl) rfl #[.slice Ao67 x10_3.length co67, .agg #[.int .i64 (wrap64 (((rd_T27 l0 a1).f0) + ((rd_T27 l0 a2).f0))), .int .i64 (wrap64 (((rd_T27 l0 a1).f1) + ((rd_T27 l0 a2).f1)))]] (by rfl) rfl rfl (by (try simp only [List.map_toArray, List.map_cons, List.map_nil]); first | done | rfl | (simp only [List.length_drop, List.length_take]; rfl)) ?_
              with_reducible refine (impl_isIn.calls k3 _ _ x10_3 (wrap64 (((rd_T27 l0 a1).f0) + ((rd_T27 l0 a2).f0))) (wrap64 (((rd_T27 l0 a1).f1) + ((rd_T27 l0 a2).f1))) t125 _ ?side1 ?side2 A65.out).mono ?_
              (case side1 => repeat (first | exact (Kd.R_reads' HO_10.out).2.2 | (with_reducible refine Kd.C_alloc ?_ _) | (with_reducible refine Kd.C_drewN ?_ _) | (with_reducible refine Kd.C_drew ?_)))
              (case side2 => exact (Kd.R_reads' HO_10.out).2.1)
              rintro e w68 ⟨rfl, hb⟩; refine ⟨_, rfl, ?_⟩; have n0_ := Ak (Kd.R_below (by (with_reducible repeat (first | apply Kd.R_alloc | apply Kd.R_drewN | apply Kd.R_drew)); exact HO_10.out) hb); have n1_ := Ak (below_step (by repeat (first | exact HB.out | apply bA | apply bD | apply bE)) hb); clear HO_10 HB; have HO_10 := n0_; have HB := n1_; clear n0_ n1_; (try clear hb); (try clear hb2); (try clear hk); (try clear hi); refine hK.out _ _ ⟨((HB.out.cell (World.block_lt_of_cell? w _ hw121_0)).trans hw121_0), ((HB.out.cell (World.block_lt_of_cell? w _ hw121_1)).trans hw121_1), ((HB.out.cell (World.block_lt_of_cell? w _ hw122_0)).trans hw122_0), ((HB.out.cell (World.block_lt_of_cell? w _ hw122_1)).trans hw122_1), ((HB.out.cell (World.block_lt_of_cell? w _ hw123_0)).trans hw123_0), ((HB.out.cell (World.block_lt_of_cell? w _ hw123_1)).trans hw123_1), ((HB.out.cell (World.block_lt_of_cell? w _ hw124_0)).trans hw124_0), ((HB.out.cell (World.block_lt_of_cell? w _ hw124_1)).trans hw124_1)⟩ (fun hHeld => ?_); clear hK K; refine norm_ (a' := ?_) ?_ ?_; rotate_left
              ·show Act.put _ (some 141) _ = _; simp only [Act.put, sA, sB, sC, sD, sE]; rfl
              refine pure_ (i := 25) (N := some 6) (v := ?_) (a' := ?_) #[T,T,T,T,T,T,T,T,T,T,T,T,T,T,T,T,T,T,T,T,T,T,T,T,T,T] rfl rfl (any_of HT_.out (by kernel_rfl)) (fun _ _ _ h => h) (Or.inl ⟨by rfl, ?_⟩) ?_ ?_; rotate_left
              ·intro w'; go_simp; with_reducible rfl
              rotate_left
              ·simp only [Act.put, sA, sB, sC, sD, sE]; rfl
              refine done_ (done_of HT_.out (by kernel_rfl)) ?_
              try go_wp2
              go_ret
              exact ⟨by first | rfl | (simp [*, errW_none, errW_some] <;> rfl), by repeat (first | (with_reducible first | exact HB.out | apply bA | apply bD | apply bE) | exact HB.out)⟩
             ·rw [if_neg c64] at H; exact absurd H (by simp)
            ·rw [if_neg c63] at H; exact absurd H (by simp)
           ·rw [if_neg c62] at H; exact absurd H (by simp)
          ·rw [if_neg c61] at H; exact absurd H (by simp)

end Go.Proofs.Ytlccpkggdmngaaa.G
