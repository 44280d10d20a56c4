/- A Go function as a plain Lean function, and the proof that Go's call comes to its answer. No conditions but those in the theorem. Written by gen.py (a program of this session over the kit's print). -/
-- SHRUNK by pack.py
import Derived.Test.YtbcndlfnmhmigaaDoorG0
import Derived.Test.YtbcndlfnmhmigaaDoorF13
namespace Go.Proofs.YtbcndlfnmhmigaaDoor.G
open Go.RowKit Go.Proofs.YtbcndlfnmhmigaaDoorW.PrintWords Go.Proofs.YtbcndlfnmhmigaaDoorW.PrintLast Go.Proofs.YtbcndlfnmhmigaaDoorW.PrintMore Go.Proofs.YtbcndlfnmhmigaaDoorW.PrintBits
attribute [local go_sem] max2_int min2_int max_two min_two max_three min_three max_four min_four   -- for this text's walks alone
set_option linter.unusedVariables false
set_option linter.unusedSimpArgs false

/-! ### impl_SplitLines: function 15 -/
def impl_SplitLines.f (k : Nat) (a0 : ByteArray) : Option (List ByteArray) := (impl_SplitAny.f k a0 (⟨#[10]⟩ : ByteArray)).bind fun t101 => (if 0 ≤ (wrap64 ((t101.length : Int) - 1)) then (if (wrap64 ((t101.length : Int) - 1)) < (t101.length : Int) then (if (rdOf ByteArray.empty t101 (wrap64 ((t101.length : Int) - 1))).toList = ([] : List UInt8) then (if (wrap64 ((t101.length : Int) - 1)) ≤ (t101.length : Int) then (some (t101.take ((wrap64 ((t101.length : Int) - 1)) : Int).toNat)) else (none)) else (some t101)) else (none)) else (none))
theorem impl_SplitLines.mono : ∀ a0 k, LeO (impl_SplitLines.f k a0) (impl_SplitLines.f (k + 1) a0) := by
 intro a0 k
 unfold impl_SplitLines.f
 repeat' first
   | (with_reducible exact impl_SplitAny.mono _ _ _)
   | (with_reducible exact LeO.refl _)
   | (with_reducible exact LeO.none _)
   | (with_reducible refine LeO.ite ?_ ?_)
   | (with_reducible refine LeO.bind ?_ (fun _ => ?_))
   | exact impl_SplitAny.mono _ _ _
   | exact LeO.none _
   | refine LeO.ite ?_ ?_
   | refine LeO.bind ?_ (fun _ => ?_)
set_option maxHeartbeats 8000000 in
set_option maxRecDepth 100000 in
theorem impl_SplitLines.calls (k : Nat) (a0 : ByteArray) (r : List ByteArray) (w : World) (h : impl_SplitLines.f k a0 = some r) :
  Calls Tryd.prog 15 #[.string a0] w fun e w' => ∃ v0_ : Value, e = .returned (v0_) ∧ Aside0 (∃ (A_ : Option Addr) (cc_ cp_ : Nat), v0_ = .slice A_ r.length cc_ ∧ r.length ≤ cc_ ∧ Kd.R Kd.string 9 w' w.heap.size (fun _ => True) (.slice A_ r.length cp_) r) ∧ Below w.heap.size w w' := by
 have HB := Ak (Below.refl w.heap.size w); have H : ((impl_SplitAny.f k a0 (⟨#[10]⟩ : ByteArray)).bind fun t101 => (if 0 ≤ (wrap64 ((t101.length : Int) - 1)) then (if (wrap64 ((t101.length : Int) - 1)) < (t101.length : Int) then (if (rdOf ByteArray.empty t101 (wrap64 ((t101.length : Int) - 1))).toList = ([] : List UInt8) then (if (wrap64 ((t101.length : Int) - 1)) ≤ (t101.length : Int) then (some (t101.take ((wrap64 ((t101.length : Int) - 1)) : Int).toNat)) else (none)) else (some t101)) else (none)) else (none))) = some r := h; clear h; replace H := Option.bind_eq_some_iff.mp H; obtain ⟨t101, A20, H⟩ := H; replace H : (if 0 ≤ (wrap64 ((t101.length : Int) - 1)) then (if (wrap64 ((t101.length : Int) - 1)) < (t101.length : Int) then (if (rdOf ByteArray.empty t101 (wrap64 ((t101.length : Int) - 1))).toList = ([] : List UInt8) then (if (wrap64 ((t101.length : Int) - 1)) ≤ (t101.length : Int) then (some (t101.take ((wrap64 ((t101.length : Int) - 1)) : Int).toNat)) else (none)) else (some t101)) else (none)) else (none)) = some r := H; have A2 := Ak A20; clear A20; obtain ⟨ji3, hji3⟩ : ∃ j_ : Int, (wrap64 ((t101.length : Int) - 1)) = j_ := ⟨_, rfl⟩; replace H : (if 0 ≤ (ji3) then (if (ji3) < (t101.length : Int) then (if (rdOf ByteArray.empty t101 (ji3)).toList = ([] : List UInt8) then (if (ji3) ≤ (t101.length : Int) then (some (t101.take ((ji3) : Int).toNat)) else (none)) else (some t101)) else (none)) else (none)) = some r := by first | (rw [hji3] at H; exact H) | (simp only [hji3] at H ⊢; exact H)
 (try rw [hji3] at A2); have hji3w : (IntKind.i64.wrap ((t101.length : Int) - 1)) = ji3 := (i64_w _).trans hji3
 by_cases c4 : 0 ≤ (ji3)
 ·rw [if_pos c4] at H; have c4b0 : decide (0 ≤ (ji3)) = true := decide_eq_true c4; clear c4
  by_cases c5 : (ji3) < (t101.length : Int)
  ·rw [if_pos c5] at H; have c5b0 : decide ((ji3) < (t101.length : Int)) = true := decide_eq_true c5; clear c5
   by_cases c6 : (rdOf ByteArray.empty t101 (ji3)).toList = ([] : List UInt8)
   ·rw [if_pos c6] at H; have c6b0 : ((rdOf ByteArray.empty t101 (ji3)).toList == ([] : List UInt8)) = true := beq_iff_eq.mpr c6; have c6b1 : ((rdOf ByteArray.empty t101 (ji3)).toList != ([] : List UInt8)) = false := bne_eq_false_iff_eq.mpr c6; clear c6
    by_cases c7 : (ji3) ≤ (t101.length : Int)
    ·rw [if_pos c7] at H; have c7b0 := eq_true c7; have c7b1 : decide ((ji3) ≤ (t101.length : Int)) = true := decide_eq_true c7; clear c7; obtain ⟨y105, hy105⟩ : ∃ y_ : List ByteArray, y_ = (t101.take ((ji3) : Int).toNat) := ⟨_, rfl⟩; replace H : (some y105) = some r := by first | (rw [hy105]; exact H) | exact H
     have Ny105 := Ak hy105; clear hy105; obtain rfl := Option.some.inj H
     go_enter Tryd.func15, Tryd.ntmps15
     go_wp2_with (first | ((with_reducible refine gate_callee (f := 13) rfl ?_); refine goesL_ (some 6) rfl rfl Tryd.func13 (by kernel_rfl) rfl #[.string a0, .string (⟨#[10]⟩ : ByteArray)] rfl (by (try simp only [List.map_toArray, List.map_cons, List.map_nil]); first | done | rfl | (simp only [List.length_drop, List.length_take]; rfl)) ?_; (with_reducible refine (impl_SplitAny.calls k a0 (⟨#[10]⟩ : ByteArray) t101 _ A2.out).mono ?_); rintro e w8 ⟨v102, rfl, ho0, hb⟩; refine ⟨_, rfl, ?_⟩; have n0_ := Ak (Kd.R_lower ho0 (below_size (by repeat (first | exact HB.out | apply bA | apply bD | apply bE)))); have n1_ := Ak (below_step (by repeat (first | exact HB.out | apply bA | apply bD | apply bE)) hb); clear HB; have HO103 := n0_; have HB := n1_; clear n0_ n1_; (try clear hb); (try clear hb2); (try clear hk); (try clear hi); (try clear ho0); obtain ⟨Ao9, co9, eo9⟩ := Kd.R_slice HO103.out; subst eo9; have p104 : 0 ≤ ((ji3) : Int) := of_decide_eq_true (by first | (with_reducible assumption) | assumption); have q104 : (ji3) < (t101.length : Int) := of_decide_eq_true (by first | (with_reducible assumption) | assumption); obtain ⟨ad104, e104, hx104_0⟩ := Kd.at_string (Kd.R_reads' HO103.out).2.2 (ji3) p104 q104; cases e104; replace p104 := eq_true p104; replace q104 := eq_true q104; have q10 : ((ji3) : Int) ≤ ((t101.length : Int) : Int) := of_decide_eq_true (by first | (with_reducible assumption) | assumption); obtain ⟨i010, hi010, _, hsz10, _⟩ := info_parts info9; have hcut10 := cut_to (P := Tryd.prog) 31 9 .i64 Tryd.underlying31 hi010 (some ad104) t101.length co9 (ji3) (of_decide_eq_true (by first | (with_reducible assumption) | assumption)) q10 (Kd.R_reads' HO103.out).2.1; have qc_ : (ji3 ≤ ((co9 : Nat) : Int)) = True := eq_true (by have := (Kd.R_reads' HO103.out).2.1; omega); have hr10 := Kd.R_take (m := ((ji3) : Int).toNat) HO103.out (by omega); have hy10 : y105.length = ((ji3) : Int).toNat := (by rw [Ny105.out, List.length_take]; omega); rw [← Ny105.out] at hr10; rw [← hy10] at hr10 hcut10; have HYL := Ak hy10; clear hy10 hi010 hsz10 HO103; have HO107 := Ak hr10; clear hr10; replace q10 := eq_true q10))
     go_ret
     refine ⟨_, rfl, ⟨_, ?cc_, ?e_, ?l_, _, by (with_reducible repeat (first | apply Kd.R_alloc | apply Kd.R_drewN | apply Kd.R_drew)); exact HO107.out⟩, by repeat (first | (with_reducible first | exact HB.out | apply bA | apply bD | apply bE) | exact HB.out)⟩; (case e_ => rw [HYL.out]; first | rfl | (simp [*] <;> rfl)); (case l_ => rw [HYL.out]; exact Nat.le_refl _)
    ·rw [if_neg c7] at H; exact absurd H (by simp)
   ·rw [if_neg c6] at H; have c6b0 : ((rdOf ByteArray.empty t101 (ji3)).toList == ([] : List UInt8)) = false := beq_eq_false_iff_ne.mpr c6; have c6b1 : ((rdOf ByteArray.empty t101 (ji3)).toList != ([] : List UInt8)) = true := bne_iff_ne.mpr c6; obtain rfl := Option.some.inj H
    go_enter Tryd.func15, Tryd.ntmps15
    go_wp2_with (first | ((with_reducible refine gate_callee (f := 13) rfl ?_); refine goesL_ (some 6) rfl rfl Tryd.func13 (by kernel_rfl) rfl #[.string a0, .string (⟨#[10]⟩ : ByteArray)] rfl (by (try simp only [List.map_toArray, List.map_cons, List.map_nil]); first | done | rfl | (simp only [List.length_drop, List.length_take]; rfl)) ?_; (with_reducible refine (impl_SplitAny.calls k a0 (⟨#[10]⟩ : ByteArray) t101 _ A2.out).mono ?_); rintro e w11 ⟨v102, rfl, ho0, hb⟩; refine ⟨_, rfl, ?_⟩; have n0_ := Ak (Kd.R_lower ho0 (below_size (by repeat (first | exact HB.out | apply bA | apply bD | apply bE)))); have n1_ := Ak (below_step (by repeat (first | exact HB.out | apply bA | apply bD | apply bE)) hb); clear HB; have HO103 := n0_; have HB := n1_; clear n0_ n1_; (try clear hb); (try clear hb2); (try clear hk); (try clear hi); (try clear ho0); obtain ⟨Ao12, co12, eo12⟩ := Kd.R_slice HO103.out; subst eo12; have p104 : 0 ≤ ((ji3) : Int) := of_decide_eq_true (by first | (with_reducible assumption) | assumption); have q104 : (ji3) < (t101.length : Int) := of_decide_eq_true (by first | (with_reducible assumption) | assumption); obtain ⟨ad104, e104, hx104_0⟩ := Kd.at_string (Kd.R_reads' HO103.out).2.2 (ji3) p104 q104; cases e104; replace p104 := eq_true p104; replace q104 := eq_true q104))
    go_ret
    refine ⟨_, rfl, ⟨_, ?cd_, ?ed_, ?ld_, _, by (with_reducible repeat (first | apply Kd.R_alloc | apply Kd.R_drewN | apply Kd.R_drew)); exact HO103.out⟩, by repeat (first | (with_reducible first | exact HB.out | apply bA | apply bD | apply bE) | exact HB.out)⟩; (case ed_ => rfl); (case ld_ => exact (Kd.R_reads' HO103.out).2.1)
  ·rw [if_neg c5] at H; exact absurd H (by simp)
 ·rw [if_neg c4] at H; exact absurd H (by simp)

end Go.Proofs.YtbcndlfnmhmigaaDoor.G
