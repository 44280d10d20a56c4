/- A Go function as a plain Lean function, and the proof that Go's call comes to its answer. No conditions but those in the theorem. Written by gen.py (a program of this session over the kit's print). -/
-- SHRUNK by pack.py
import Derived.Test.YtobhabampbekcaaG0
namespace Go.Proofs.Ytobhabampbekcaa.G
open Go.RowKit Go.Proofs.YtobhabampbekcaaW.PrintWords Go.Proofs.YtobhabampbekcaaW.PrintLast Go.Proofs.YtobhabampbekcaaW.PrintMore Go.Proofs.YtobhabampbekcaaW.PrintBits
attribute [local go_sem] max2_int min2_int max_two min_two max_three min_three max_four min_four   -- for this text's walks alone
set_option linter.unusedVariables false
set_option linter.unusedSimpArgs false

/-! ### spec_l07Before: function 43 -/
def spec_l07Before.f (l0 : List Int) (l1 : List Int) : Option (Bool) := if 1 < (l0.length : Int) then (if 1 < (l1.length : Int) then (if (rd l0 1) < (rd l1 1) then (some true) else (if (rd l0 1) = (rd l1 1) then (if 0 < (l0.length : Int) then (if 0 < (l1.length : Int) then (some (decide ((rd l0 0) < (rd l1 0)))) else (none)) else (none)) else (some false))) else (none)) else (none)
set_option maxHeartbeats 8000000 in
set_option maxRecDepth 100000 in
theorem spec_l07Before.calls (A0 : Option Addr) (c0 : Nat) (l0 : List Int) (A1 : Option Addr) (c1 : Nat) (l1 : List Int) (r : Bool) (w : World) (hr0 : Kd.C (Kd.int .i64) w A0 l0.length l0) (hc0 : l0.length ≤ c0) (hr1 : Kd.C (Kd.int .i64) w A1 l1.length l1) (hc1 : l1.length ≤ c1) (h : spec_l07Before.f l0 l1 = some r) :
  Calls Try.prog 43 #[.slice A0 l0.length c0, .slice A1 l1.length c1] w fun e w' => e = .returned (.bool r) ∧ Drawn0 w w' := by
 have HR0 := Ak hr0
 have HC0 := Ak hc0
 clear hr0 hc0
 have HR1 := Ak hr1
 have HC1 := Ak hc1
 clear hr1 hc1
 have H : (if 1 < (l0.length : Int) then (if 1 < (l1.length : Int) then (if (rd l0 1) < (rd l1 1) then (some true) else (if (rd l0 1) = (rd l1 1) then (if 0 < (l0.length : Int) then (if 0 < (l1.length : Int) then (some (decide ((rd l0 0) < (rd l1 0)))) else (none)) else (none)) else (some false))) else (none)) else (none)) = some r := h
 clear h
 by_cases c3 : 1 < (l0.length : Int)
 ·rw [if_pos c3] at H
  have c3b0 : decide (1 < (l0.length : Int)) = true := decide_eq_true c3
  have c3b1 : decide (1 < l0.length) = true := decide_eq_true (by omega)
  clear c3
  by_cases c4 : 1 < (l1.length : Int)
  ·rw [if_pos c4] at H
   have c4b0 : decide (1 < (l1.length : Int)) = true := decide_eq_true c4
   have c4b1 : decide (1 < l1.length) = true := decide_eq_true (by omega)
   clear c4
   by_cases c5 : (rd l0 1) < (rd l1 1)
   ·rw [if_pos c5] at H
    have c5b0 : decide ((rd l0 1) < (rd l1 1)) = true := decide_eq_true c5
    clear c5
    obtain rfl := Option.some.inj H
    have p101 : 0 ≤ (1 : Int) := (by omega)
    have q101 : 1 < (l0.length : Int) := of_decide_eq_true (by first | (with_reducible assumption) | assumption)
    obtain ⟨ad101, e101, hx101_0⟩ := Kd.at_int HR0.out 1 p101 q101
    cases e101
    (try simp only [show (1 : Int).toNat = 1 from rfl, Nat.reduceMul, Nat.reduceEqDiff, Go.Addr.add, ↓reduceIte] at hx101_0)
    have qi101 : (1 < l0.length) = True := eq_true (by omega)
    (try rw [show ((1 : Int)).toNat = 1 from rfl] at hx101_0)
    replace p101 := eq_true p101
    replace q101 := eq_true q101
    have p102 : 0 ≤ (1 : Int) := (by omega)
    have q102 : 1 < (l1.length : Int) := of_decide_eq_true (by first | (with_reducible assumption) | assumption)
    obtain ⟨ad102, e102, hx102_0⟩ := Kd.at_int HR1.out 1 p102 q102
    cases e102
    (try simp only [show (1 : Int).toNat = 1 from rfl, Nat.reduceMul, Nat.reduceEqDiff, Go.Addr.add, ↓reduceIte] at hx102_0)
    have qi102 : (1 < l1.length) = True := eq_true (by omega)
    (try rw [show ((1 : Int)).toNat = 1 from rfl] at hx102_0)
    replace p102 := eq_true p102
    replace q102 := eq_true q102
    go_enter Try.func43, Try.ntmps43
    go_wp2
    repeat (go_quiet (fail); try go_wp2)
    go_ret
    exact ⟨by first | rfl | (simp; done) | (simp [*]; done), by repeat (first | exact Drawn0.refl _ | apply Drawn0.step)⟩
   ·rw [if_neg c5] at H
    have c5b0 : decide ((rd l0 1) < (rd l1 1)) = false := decide_eq_false c5
    clear c5
    by_cases c6 : (rd l0 1) = (rd l1 1)
    ·rw [if_pos c6] at H
     have c6b0 : ((rd l0 1) == (rd l1 1)) = true := beq_iff_eq.mpr c6
     have c6b1 : ((rd l0 1) != (rd l1 1)) = false := bne_eq_false_iff_eq.mpr c6
     clear c6
     by_cases c7 : 0 < (l0.length : Int)
     ·rw [if_pos c7] at H
      have c7b0 : decide (0 < (l0.length : Int)) = true := decide_eq_true c7
      have c7b1 : decide (0 < l0.length) = true := decide_eq_true (by omega)
      clear c7
      by_cases c8 : 0 < (l1.length : Int)
      ·rw [if_pos c8] at H
       have c8b0 : decide (0 < (l1.length : Int)) = true := decide_eq_true c8
       have c8b1 : decide (0 < l1.length) = true := decide_eq_true (by omega)
       clear c8
       obtain rfl := Option.some.inj H
       have p101 : 0 ≤ (1 : Int) := (by omega)
       have q101 : 1 < (l0.length : Int) := of_decide_eq_true (by first | (with_reducible assumption) | assumption)
       obtain ⟨ad101, e101, hx101_0⟩ := Kd.at_int HR0.out 1 p101 q101
       cases e101
       (try simp only [show (1 : Int).toNat = 1 from rfl, Nat.reduceMul, Nat.reduceEqDiff, Go.Addr.add, ↓reduceIte] at hx101_0)
       have qi101 : (1 < l0.length) = True := eq_true (by omega)
       (try rw [show ((1 : Int)).toNat = 1 from rfl] at hx101_0)
       replace p101 := eq_true p101
       replace q101 := eq_true q101
       have p102 : 0 ≤ (1 : Int) := (by omega)
       have q102 : 1 < (l1.length : Int) := of_decide_eq_true (by first | (with_reducible assumption) | assumption)
       obtain ⟨ad102, e102, hx102_0⟩ := Kd.at_int HR1.out 1 p102 q102
       cases e102
       (try simp only [show (1 : Int).toNat = 1 from rfl, Nat.reduceMul, Nat.reduceEqDiff, Go.Addr.add, ↓reduceIte] at hx102_0)
       have qi102 : (1 < l1.length) = True := eq_true (by omega)
       (try rw [show ((1 : Int)).toNat = 1 from rfl] at hx102_0)
       replace p102 := eq_true p102
       replace q102 := eq_true q102
       have p103 : 0 ≤ (1 : Int) := (by omega)
       have q103 : 1 < (l0.length : Int) := of_decide_eq_true (by first | (with_reducible assumption) | assumption)
       obtain ⟨ad103, e103, hx103_0⟩ := Kd.at_int HR0.out 1 p103 q103
       obtain rfl : ad101 = ad103 := (by injection e103)
       (try simp only [show (1 : Int).toNat = 1 from rfl, Nat.reduceMul, Nat.reduceEqDiff, Go.Addr.add, ↓reduceIte] at hx103_0)
       have qi103 : (1 < l0.length) = True := eq_true (by omega)
       (try rw [show ((1 : Int)).toNat = 1 from rfl] at hx103_0)
       replace p103 := eq_true p103
       replace q103 := eq_true q103
       have p104 : 0 ≤ (1 : Int) := (by omega)
       have q104 : 1 < (l1.length : Int) := of_decide_eq_true (by first | (with_reducible assumption) | assumption)
       obtain ⟨ad104, e104, hx104_0⟩ := Kd.at_int HR1.out 1 p104 q104
       obtain rfl : ad102 = ad104 := (by injection e104)
       (try simp only [show (1 : Int).toNat = 1 from rfl, Nat.reduceMul, Nat.reduceEqDiff, Go.Addr.add, ↓reduceIte] at hx104_0)
       have qi104 : (1 < l1.length) = True := eq_true (by omega)
       (try rw [show ((1 : Int)).toNat = 1 from rfl] at hx104_0)
       replace p104 := eq_true p104
       replace q104 := eq_true q104
       have p105 : 0 ≤ (0 : Int) := (by omega)
       have q105 : 0 < (l0.length : Int) := of_decide_eq_true (by first | (with_reducible assumption) | assumption)
       obtain ⟨ad105, e105, hx105_0⟩ := Kd.at_int HR0.out 0 p105 q105
       obtain rfl : ad101 = ad105 := (by injection e105)
       have qi105 : (0 < l0.length) = True := eq_true (by omega)
       (try rw [show ((0 : Int)).toNat = 0 from rfl] at hx105_0)
       (try rw [Addr.add_zero'] at hx105_0)
       replace p105 := eq_true p105
       replace q105 := eq_true q105
       have p106 : 0 ≤ (0 : Int) := (by omega)
       have q106 : 0 < (l1.length : Int) := of_decide_eq_true (by first | (with_reducible assumption) | assumption)
       obtain ⟨ad106, e106, hx106_0⟩ := Kd.at_int HR1.out 0 p106 q106
       obtain rfl : ad102 = ad106 := (by injection e106)
       have qi106 : (0 < l1.length) = True := eq_true (by omega)
       (try rw [show ((0 : Int)).toNat = 0 from rfl] at hx106_0)
       (try rw [Addr.add_zero'] at hx106_0)
       replace p106 := eq_true p106
       replace q106 := eq_true q106
       go_enter Try.func43, Try.ntmps43
       go_wp2
       repeat (go_quiet (fail); try go_wp2)
       go_ret
       exact ⟨by first | rfl | (simp; done) | (simp [*]; done), by repeat (first | exact Drawn0.refl _ | apply Drawn0.step)⟩
      ·rw [if_neg c8] at H
       exact absurd H (by simp)
     ·rw [if_neg c7] at H
      exact absurd H (by simp)
    ·rw [if_neg c6] at H
     have c6b0 : ((rd l0 1) == (rd l1 1)) = false := beq_eq_false_iff_ne.mpr c6
     have c6b1 : ((rd l0 1) != (rd l1 1)) = true := bne_iff_ne.mpr c6
     obtain rfl := Option.some.inj H
     have p101 : 0 ≤ (1 : Int) := (by omega)
     have q101 : 1 < (l0.length : Int) := of_decide_eq_true (by first | (with_reducible assumption) | assumption)
     obtain ⟨ad101, e101, hx101_0⟩ := Kd.at_int HR0.out 1 p101 q101
     cases e101
     (try simp only [show (1 : Int).toNat = 1 from rfl, Nat.reduceMul, Nat.reduceEqDiff, Go.Addr.add, ↓reduceIte] at hx101_0)
     have qi101 : (1 < l0.length) = True := eq_true (by omega)
     (try rw [show ((1 : Int)).toNat = 1 from rfl] at hx101_0)
     replace p101 := eq_true p101
     replace q101 := eq_true q101
     have p102 : 0 ≤ (1 : Int) := (by omega)
     have q102 : 1 < (l1.length : Int) := of_decide_eq_true (by first | (with_reducible assumption) | assumption)
     obtain ⟨ad102, e102, hx102_0⟩ := Kd.at_int HR1.out 1 p102 q102
     cases e102
     (try simp only [show (1 : Int).toNat = 1 from rfl, Nat.reduceMul, Nat.reduceEqDiff, Go.Addr.add, ↓reduceIte] at hx102_0)
     have qi102 : (1 < l1.length) = True := eq_true (by omega)
     (try rw [show ((1 : Int)).toNat = 1 from rfl] at hx102_0)
     replace p102 := eq_true p102
     replace q102 := eq_true q102
     have p103 : 0 ≤ (1 : Int) := (by omega)
     have q103 : 1 < (l0.length : Int) := of_decide_eq_true (by first | (with_reducible assumption) | assumption)
     obtain ⟨ad103, e103, hx103_0⟩ := Kd.at_int HR0.out 1 p103 q103
     obtain rfl : ad101 = ad103 := (by injection e103)
     (try simp only [show (1 : Int).toNat = 1 from rfl, Nat.reduceMul, Nat.reduceEqDiff, Go.Addr.add, ↓reduceIte] at hx103_0)
     have qi103 : (1 < l0.length) = True := eq_true (by omega)
     (try rw [show ((1 : Int)).toNat = 1 from rfl] at hx103_0)
     replace p103 := eq_true p103
     replace q103 := eq_true q103
     have p104 : 0 ≤ (1 : Int) := (by omega)
     have q104 : 1 < (l1.length : Int) := of_decide_eq_true (by first | (with_reducible assumption) | assumption)
     obtain ⟨ad104, e104, hx104_0⟩ := Kd.at_int HR1.out 1 p104 q104
     obtain rfl : ad102 = ad104 := (by injection e104)
     (try simp only [show (1 : Int).toNat = 1 from rfl, Nat.reduceMul, Nat.reduceEqDiff, Go.Addr.add, ↓reduceIte] at hx104_0)
     have qi104 : (1 < l1.length) = True := eq_true (by omega)
     (try rw [show ((1 : Int)).toNat = 1 from rfl] at hx104_0)
     replace p104 := eq_true p104
     replace q104 := eq_true q104
     go_enter Try.func43, Try.ntmps43
     go_wp2
     repeat (go_quiet (fail); try go_wp2)
     go_ret
     exact ⟨by first | rfl | (simp; done) | (simp [*]; done), by repeat (first | exact Drawn0.refl _ | apply Drawn0.step)⟩
  ·rw [if_neg c4] at H
   exact absurd H (by simp)
 ·rw [if_neg c3] at H
  exact absurd H (by simp)

end Go.Proofs.Ytobhabampbekcaa.G
