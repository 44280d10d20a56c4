/- A Go function as a plain Lean function, and the proof that Go's call comes to its answer. No conditions but those in the theorem. Written by gen.py (a program of this session over the kit's print). -/
-- SHRUNK by pack.py
import Derived.Test.YtlccpkggdmngaaaG0
import Derived.Test.YtlccpkggdmngaaaF74
namespace Go.Proofs.Ytlccpkggdmngaaa.G
open Go.RowKit Go.Proofs.YtlccpkggdmngaaaW.PrintWords Go.Proofs.YtlccpkggdmngaaaW.PrintLast Go.Proofs.YtlccpkggdmngaaaW.PrintMore Go.Proofs.YtlccpkggdmngaaaW.PrintBits
attribute [local go_sem] max2_int min2_int max_two min_two max_three min_three max_four min_four   -- for this text's walks alone
set_option linter.unusedVariables false
set_option linter.unusedSimpArgs false

/-! ### impl_CountTriangulations_1: function 73 -/
def impl_CountTriangulations_1.f (k : Nat) (a0 : Int) (a1 : Int) (a2 : Int) (l3 : List (S27)) : Option (Bool) := if a1 = (wrap64 (a0 + 1)) then (some true) else (if a0 = 0 then (if a1 = (wrap64 (a2 - 1)) then (some true) else ((impl_isDiagonal.f k l3 a0 a1).bind fun t101 => (some t101))) else ((impl_isDiagonal.f k l3 a0 a1).bind fun t102 => (some t102)))
theorem impl_CountTriangulations_1.mono : ∀ a0 a1 a2 a3 k, LeO (impl_CountTriangulations_1.f k a0 a1 a2 a3) (impl_CountTriangulations_1.f (k + 1) a0 a1 a2 a3) := by
 intro a0 a1 a2 a3 k
 unfold impl_CountTriangulations_1.f
 repeat' first
   | (with_reducible exact impl_isDiagonal.mono _ _ _ _)
   | (with_reducible exact LeO.refl _)
   | (with_reducible exact LeO.none _)
   | (with_reducible refine LeO.ite ?_ ?_)
   | (with_reducible refine LeO.bind ?_ (fun _ => ?_))
   | exact impl_isDiagonal.mono _ _ _ _
   | exact LeO.none _
   | refine LeO.ite ?_ ?_
   | refine LeO.bind ?_ (fun _ => ?_)
set_option maxHeartbeats 8000000 in
set_option maxRecDepth 100000 in
theorem impl_CountTriangulations_1.calls (k : Nat) (a0 : Int) (a1 : Int) (a2 : Int) (A3 : Option Addr) (c3 : Nat) (l3 : List (S27)) (r : Bool) (w : World) (gn gp : Nat) (hgn : w.cell? ⟨gn, 0, none⟩ = some (.int .i64 a2)) (hgp : w.cell? ⟨gp, 0, none⟩ = some (.slice A3 l3.length c3)) (hr3 : Kd.C k27 w A3 l3.length l3) (hc3 : l3.length ≤ c3) (h : impl_CountTriangulations_1.f k a0 a1 a2 l3 = some r) :
  Calls Try.prog 73 #[.int .i64 a0, .int .i64 a1, .pointer (some ⟨gn, 0, none⟩), .pointer (some ⟨gp, 0, none⟩)] w fun e w' => e = .returned (.bool r) ∧ Below w.heap.size w w' := by
 have HR3 := Ak hr3; have HC3 := Ak hc3; clear hr3 hc3; have HB := Ak (Below.refl w.heap.size w); have H : (if a1 = (wrap64 (a0 + 1)) then (some true) else (if a0 = 0 then (if a1 = (wrap64 (a2 - 1)) then (some true) else ((impl_isDiagonal.f k l3 a0 a1).bind fun t101 => (some t101))) else ((impl_isDiagonal.f k l3 a0 a1).bind fun t102 => (some t102)))) = some r := h; clear h
 by_cases c5 : a1 = (wrap64 (a0 + 1))
 ·rw [if_pos c5] at H; have c5b0 : (a1 == (wrap64 (a0 + 1))) = true := beq_iff_eq.mpr c5; have c5b1 : (a1 != (wrap64 (a0 + 1))) = false := bne_eq_false_iff_eq.mpr c5; clear c5; obtain rfl := Option.some.inj H
  go_enter Try.func73, Try.ntmps73
  go_wp2
  go_ret
  exact ⟨by first | rfl | (simp [*, errW_none, errW_some] <;> rfl), by repeat (first | (with_reducible first | exact HB.out | apply bA | apply bD | apply bE) | exact HB.out)⟩
 ·rw [if_neg c5] at H; have c5b0 : (a1 == (wrap64 (a0 + 1))) = false := beq_eq_false_iff_ne.mpr c5; have c5b1 : (a1 != (wrap64 (a0 + 1))) = true := bne_iff_ne.mpr c5
  by_cases c6 : a0 = 0
  ·rw [if_pos c6] at H; have c6b0 : (a0 == 0) = true := beq_iff_eq.mpr c6; have c6b1 : (a0 != 0) = false := bne_eq_false_iff_eq.mpr c6; clear c6
   by_cases c7 : a1 = (wrap64 (a2 - 1))
   ·rw [if_pos c7] at H; have c7b0 : (a1 == (wrap64 (a2 - 1))) = true := beq_iff_eq.mpr c7; have c7b1 : (a1 != (wrap64 (a2 - 1))) = false := bne_eq_false_iff_eq.mpr c7; clear c7; obtain rfl := Option.some.inj H
    go_enter Try.func73, Try.ntmps73
    go_wp2
    go_ret
    exact ⟨by first | rfl | (simp [*, errW_none, errW_some] <;> rfl), by repeat (first | (with_reducible first | exact HB.out | apply bA | apply bD | apply bE) | exact HB.out)⟩
   ·rw [if_neg c7] at H; have c7b0 : (a1 == (wrap64 (a2 - 1))) = false := beq_eq_false_iff_ne.mpr c7; have c7b1 : (a1 != (wrap64 (a2 - 1))) = true := bne_iff_ne.mpr c7; replace H := Option.bind_eq_some_iff.mp H; obtain ⟨t101, A80, H⟩ := H; replace H : (some t101) = some r := H; have A8 := Ak A80; clear A80; obtain rfl := Option.some.inj H
    go_enter Try.func73, Try.ntmps73
    go_wp2_with (first | (go_at_call 74; (with_reducible refine (impl_isDiagonal.calls k _ _ l3 a0 a1 t101 _ ?side1 ?side2 A8.out).mono ?_); (case side1 => repeat (first | exact HR3.out | (with_reducible refine Kd.C_alloc ?_ _) | (with_reducible refine Kd.C_drewN ?_ _) | (with_reducible refine Kd.C_drew ?_))); (case side2 => exact HC3.out); rintro e w9 ⟨rfl, hb⟩; have n0_ := Ak (below_step (by repeat (first | exact HB.out | apply bA | apply bD | apply bE)) hb); clear HB; have HB := n0_; clear n0_; (try clear hb); (try clear hb2); (try clear hk); (try clear hi)))
    go_ret
    exact ⟨by first | rfl | (simp [*, errW_none, errW_some] <;> rfl), by repeat (first | (with_reducible first | exact HB.out | apply bA | apply bD | apply bE) | exact HB.out)⟩
  ·rw [if_neg c6] at H; have c6b0 : (a0 == 0) = false := beq_eq_false_iff_ne.mpr c6; have c6b1 : (a0 != 0) = true := bne_iff_ne.mpr c6; replace H := Option.bind_eq_some_iff.mp H; obtain ⟨t102, A100, H⟩ := H; replace H : (some t102) = some r := H; have A10 := Ak A100; clear A100; obtain rfl := Option.some.inj H
   go_enter Try.func73, Try.ntmps73
   go_wp2_with (first | (go_at_call 74; (with_reducible refine (impl_isDiagonal.calls k _ _ l3 a0 a1 t102 _ ?side1 ?side2 A10.out).mono ?_); (case side1 => repeat (first | exact HR3.out | (with_reducible refine Kd.C_alloc ?_ _) | (with_reducible refine Kd.C_drewN ?_ _) | (with_reducible refine Kd.C_drew ?_))); (case side2 => exact HC3.out); rintro e w11 ⟨rfl, hb⟩; have n0_ := Ak (below_step (by repeat (first | exact HB.out | apply bA | apply bD | apply bE)) hb); clear HB; have HB := n0_; clear n0_; (try clear hb); (try clear hb2); (try clear hk); (try clear hi)))
   go_ret
   exact ⟨by first | rfl | (simp [*, errW_none, errW_some] <;> rfl), by repeat (first | (with_reducible first | exact HB.out | apply bA | apply bD | apply bE) | exact HB.out)⟩

end Go.Proofs.Ytlccpkggdmngaaa.G
