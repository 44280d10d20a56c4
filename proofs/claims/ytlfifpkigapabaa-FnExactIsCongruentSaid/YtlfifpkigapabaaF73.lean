/- A Go function as a plain Lean function, and the proof that Go's call comes to its answer. No conditions but those in the theorem. Written by gen.py (a program of this session over the kit's print). -/
-- SHRUNK by pack.py
import Derived.Test.YtlfifpkigapabaaG0
namespace Go.Proofs.Ytlfifpkigapabaa.G
open Go.RowKit Go.Proofs.YtlfifpkigapabaaW.PrintWords Go.Proofs.YtlfifpkigapabaaW.PrintLast Go.Proofs.YtlfifpkigapabaaW.PrintMore Go.Proofs.YtlfifpkigapabaaW.PrintBits
attribute [local go_sem] max2_int min2_int max_two min_two max_three min_three max_four min_four   -- for this text's walks alone
set_option linter.unusedVariables false
set_option linter.unusedSimpArgs false

/-! ### impl_Point_73: function 73 -/
def impl_Point_73.f (l0 : List (S38)) (a1 : Int) : Option ((List (S38))) := if a1 < 0 then (none) else (if (wrap64 (a1)) > 0 then (if 0 ≤ (wrap64 (a1)) then (if ([] : List (S38)).length + (wrap64 (a1) : Int).toNat < 8796093022208 then ((some (([] : List (S38)) ++ List.replicate (wrap64 (a1) : Int).toNat z38 : List (S38))).bind fun y101 => (if 0 ≤ (y101.length : Int) then (some (y101.take (0 : Int).toNat)) else (none))) else (none)) else (none)) else (some ([] : List (S38))))
set_option maxHeartbeats 8000000 in
set_option maxRecDepth 100000 in
theorem impl_Point_73.calls (A0 : Option Addr) (c0 : Nat) (l0 : List (S38)) (a1 : Int) (r : List (S38)) (w : World) (hnil : A0 = none ∧ c0 = 0 ∧ l0 = []) (hr0 : Kd.C k38 w A0 l0.length l0) (hc0 : l0.length ≤ c0) (h : impl_Point_73.f l0 a1 = some r) :
  Calls Try.prog 73 #[.slice A0 l0.length c0, .int .i64 a1] w fun e w' => ∃ v0_ : Value, e = .returned (v0_) ∧ Kd.R k38 38 w' w.heap.size (fun _ => True) v0_ r ∧ Below w.heap.size w w' := by
 obtain ⟨rfl, rfl, rfl⟩ := hnil; show Calls Try.prog 73 #[.slice none 0 0, .int .i64 a1] w _; have HR0 := Ak hr0; have HC0 := Ak hc0; clear hr0 hc0; have HB := Ak (Below.refl w.heap.size w); have H : (if a1 < 0 then (none) else (if (wrap64 (a1)) > 0 then (if 0 ≤ (wrap64 (a1)) then (if ([] : List (S38)).length + (wrap64 (a1) : Int).toNat < 8796093022208 then ((some (([] : List (S38)) ++ List.replicate (wrap64 (a1) : Int).toNat z38 : List (S38))).bind fun y101 => (if 0 ≤ (y101.length : Int) then (some (y101.take (0 : Int).toNat)) else (none))) else (none)) else (none)) else (some ([] : List (S38))))) = some r := h; clear h
 by_cases c3 : a1 < 0
 ·rw [if_pos c3] at H; exact absurd H (by simp)
 ·rw [if_neg c3] at H; have c3b0 : decide (a1 < 0) = false := decide_eq_false c3; clear c3
  by_cases c4 : (wrap64 (a1)) > 0
  ·rw [if_pos c4] at H; have c4b0 : decide (0 < (wrap64 (a1))) = true := decide_eq_true c4; clear c4; obtain ⟨ji5, hji5⟩ : ∃ j_ : Int, (wrap64 (a1)) = j_ := ⟨_, rfl⟩; replace H : (if 0 ≤ (ji5) then (if ([] : List (S38)).length + (ji5 : Int).toNat < 8796093022208 then ((some (([] : List (S38)) ++ List.replicate (ji5 : Int).toNat z38 : List (S38))).bind fun y101 => (if 0 ≤ (y101.length : Int) then (some (y101.take (0 : Int).toNat)) else (none))) else (none)) else (none)) = some r := by first | (rw [hji5] at H; exact H) | (simp only [hji5] at H ⊢; exact H)
   (try rw [hji5] at c4b0); have hji5w : (IntKind.i64.wrap (a1)) = ji5 := (i64_w _).trans hji5
   by_cases c6 : 0 ≤ (ji5)
   ·rw [if_pos c6] at H; have c6b0 := eq_true c6; have c6b1 : decide (0 ≤ (ji5)) = true := decide_eq_true c6; clear c6
    by_cases c7 : ([] : List (S38)).length + (ji5 : Int).toNat < 8796093022208
    ·rw [if_pos c7] at H; have LMc7 := Ak c7; clear c7; obtain ⟨y101, hy101⟩ : ∃ y_ : List (S38), y_ = (([] : List (S38)) ++ List.replicate (ji5 : Int).toNat z38) := ⟨_, rfl⟩; replace H : (if 0 ≤ (y101.length : Int) then (some (y101.take (0 : Int).toNat)) else (none)) = some r := by first | (rw [hy101]; exact H) | exact H
     have Ny101 := Ak hy101; clear hy101
     by_cases c8 : 0 ≤ (y101.length : Int)
     ·rw [if_pos c8] at H; have c8b0 := eq_true c8; have c8b1 : decide (0 ≤ (y101.length : Int)) = true := decide_eq_true c8; clear c8; obtain ⟨y104, hy104⟩ : ∃ y_ : List (S38), y_ = (y101.take (0 : Int).toNat) := ⟨_, rfl⟩; replace H : (some y104) = some r := by first | (rw [hy104]; exact H) | exact H
      have Ny104 := Ak hy104; clear hy104; obtain rfl := Option.some.inj H
      go_enter Try.func73, Try.ntmps73
      go_wp2_with (first | (at_builtin; refine Kd.R_append_zeros k38 (w0 := w) w.heap.size rfl (.tmp 20) (.tmp 21) 29 3 38 (.agg #[(.int .i64 0), (.int .i64 0)]) 16 rfl Try.underlying29 Try.underlying3 info38 rfl (by decide) (by omega) (.slice none 0 0) ([] : List (S38)) z38 (ji5 : Int) (fun _ => True) rfl rfl (k38_mkM _ _ _ z38 ) ?aF ?aO (of_decide_eq_true (by first | (with_reducible assumption) | assumption)) ?aB ?aS ?aL ?_; (case aB => exact (by repeat (first | exact HB.out | apply bA | apply bD | apply bE))); (case aF => exact (fun _ _ => trivial)); (case aO => exact ((Kd.R_nil _ _ _ _ (fun _ => True)))); (case aS => exact (below_size (by repeat (first | exact HB.out | apply bA | apply bD | apply bE)))); (case aL => have := LMc7.out; omega); intro v102 w9 ho hb hg hat; rw [← Ny101.out] at ho; have n0_ := Ak (hb); have n1_ := Ak (ho); clear HB; have HB := n0_; have HO103 := n1_; clear n0_ n1_; clear ho hb hg hat; obtain ⟨Ao10, co10, eo10⟩ := Kd.R_slice HO103.out; subst eo10; have q11 : (0 : Int) ≤ ((y101.length : Int) : Int) := of_decide_eq_true (by first | (with_reducible assumption) | assumption); obtain ⟨i011, hi011, _, hsz11, _⟩ := info_parts info38; have hcut11 := cut_to (P := Try.prog) 29 38 .i64 Try.underlying29 hi011 Ao10 y101.length co10 0 (by omega) q11 (Kd.R_reads' HO103.out).2.1; have hr11 := Kd.R_take (m := (0 : Int).toNat) HO103.out (by omega); have hy11 : y104.length = (0 : Int).toNat := (by rw [Ny104.out, List.length_take]; omega); rw [← Ny104.out] at hr11; rw [← hy11] at hr11 hcut11; clear hy11 hi011 hsz11 HO103; have HO106 := Ak hr11; clear hr11; replace q11 := eq_true q11))
      go_ret
      exact ⟨_, by first | rfl | (simp [errW_none, errW_some] <;> rfl) | (simp only [← hji5]; first | rfl | (simp [errW_none, errW_some] <;> rfl)) | (simp [*, errW_none, errW_some] <;> rfl), by (with_reducible repeat (first | apply Kd.R_alloc | apply Kd.R_drewN | apply Kd.R_drew)); exact HO106.out, by repeat (first | (with_reducible first | exact HB.out | apply bA | apply bD | apply bE) | exact HB.out)⟩
     ·rw [if_neg c8] at H; exact absurd H (by simp)
    ·rw [if_neg c7] at H; exact absurd H (by simp)
   ·rw [if_neg c6] at H; exact absurd H (by simp)
  ·rw [if_neg c4] at H; have c4b0 : decide (0 < (wrap64 (a1))) = false := decide_eq_false c4; clear c4; obtain rfl := Option.some.inj H
   go_enter Try.func73, Try.ntmps73
   go_wp2
   go_ret
   exact ⟨_, by first | rfl | (simp [*, errW_none, errW_some] <;> rfl), by first | exact Kd.R_nil _ _ _ _ _ | exact Kd.N_nil _ _ _ _ _ | exact Kd.V_nil _ _ _ _ _ | exact Kd.Q_nil _ _ _ _ _ | exact Kd.S_nil _ _ _ _ _, by repeat (first | (with_reducible first | exact HB.out | apply bA | apply bD | apply bE) | exact HB.out)⟩

end Go.Proofs.Ytlfifpkigapabaa.G
