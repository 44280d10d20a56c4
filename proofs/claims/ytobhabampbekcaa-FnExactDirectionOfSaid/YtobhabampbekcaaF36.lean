/- A Go function as a plain Lean function, and the proof that Go's call comes to its answer. No conditions but those in the theorem. Written by gen.py (a program of this session over the kit's print). -/
-- SHRUNK by pack.py
import Derived.Test.YtobhabampbekcaaG0
import Derived.Test.YtobhabampbekcaaF50
namespace Go.Proofs.Ytobhabampbekcaa.G
open Go.RowKit Go.Proofs.YtobhabampbekcaaW.PrintWords Go.Proofs.YtobhabampbekcaaW.PrintLast Go.Proofs.YtobhabampbekcaaW.PrintMore Go.Proofs.YtobhabampbekcaaW.PrintBits
attribute [local go_sem] max2_int min2_int max_two min_two max_three min_three max_four min_four   -- for this text's walks alone
set_option linter.unusedVariables false
set_option linter.unusedSimpArgs false

/-! ### spec_l07Direction: function 36 -/
def spec_l07Direction.f (k : Nat) (a0 : Int) (a1 : Int) : Option (List Int) := (spec_l02Gcd.f k a0 a1).bind fun t101 => (if t101 = 0 then (none) else (if (wrap64 (Int.tdiv a1 t101)) < 0 then (some (([wrap64 (-(wrap64 (Int.tdiv a0 t101))), wrap64 (-(wrap64 (Int.tdiv a1 t101)))] : List Int))) else (if (wrap64 (Int.tdiv a1 t101)) = 0 then (if (wrap64 (Int.tdiv a0 t101)) < 0 then (some (([wrap64 (-(wrap64 (Int.tdiv a0 t101))), wrap64 (-(wrap64 (Int.tdiv a1 t101)))] : List Int))) else (some (([wrap64 (Int.tdiv a0 t101), wrap64 (Int.tdiv a1 t101)] : List Int)))) else (some (([wrap64 (Int.tdiv a0 t101), wrap64 (Int.tdiv a1 t101)] : List Int))))))
theorem spec_l07Direction.mono : ∀ a0 a1 k, LeO (spec_l07Direction.f k a0 a1) (spec_l07Direction.f (k + 1) a0 a1) := by
 intro a0 a1 k
 unfold spec_l07Direction.f
 repeat' first
   | (with_reducible exact spec_l02Gcd.mono _ _ _)
   | (with_reducible exact LeO.refl _)
   | (with_reducible exact LeO.none _)
   | (with_reducible refine LeO.ite ?_ ?_)
   | (with_reducible refine LeO.bind ?_ (fun _ => ?_))
   | exact spec_l02Gcd.mono _ _ _
   | exact LeO.none _
   | refine LeO.ite ?_ ?_
   | refine LeO.bind ?_ (fun _ => ?_)
set_option maxHeartbeats 8000000 in
set_option maxRecDepth 100000 in
theorem spec_l07Direction.calls (k : Nat) (a0 : Int) (a1 : Int) (r : List Int) (w : World) (h : spec_l07Direction.f k a0 a1 = some r) :
  Calls Try.prog 36 #[.int .i64 a0, .int .i64 a1] w fun e w' => ∃ v0_ : Value, e = .returned (v0_) ∧ Kd.R (Kd.int .i64) 3 w' w.heap.size (fun _ => True) v0_ r ∧ Below w.heap.size w w' := by
 have HB := Ak (Below.refl w.heap.size w)
 have H : ((spec_l02Gcd.f k a0 a1).bind fun t101 => (if t101 = 0 then (none) else (if (wrap64 (Int.tdiv a1 t101)) < 0 then (some (([wrap64 (-(wrap64 (Int.tdiv a0 t101))), wrap64 (-(wrap64 (Int.tdiv a1 t101)))] : List Int))) else (if (wrap64 (Int.tdiv a1 t101)) = 0 then (if (wrap64 (Int.tdiv a0 t101)) < 0 then (some (([wrap64 (-(wrap64 (Int.tdiv a0 t101))), wrap64 (-(wrap64 (Int.tdiv a1 t101)))] : List Int))) else (some (([wrap64 (Int.tdiv a0 t101), wrap64 (Int.tdiv a1 t101)] : List Int)))) else (some (([wrap64 (Int.tdiv a0 t101), wrap64 (Int.tdiv a1 t101)] : List Int))))))) = some r := h
 clear h
 replace H := Option.bind_eq_some_iff.mp H
 obtain ⟨t101, A30, H⟩ := H
 replace H : (if t101 = 0 then (none) else (if (wrap64 (Int.tdiv a1 t101)) < 0 then (some (([wrap64 (-(wrap64 (Int.tdiv a0 t101))), wrap64 (-(wrap64 (Int.tdiv a1 t101)))] : List Int))) else (if (wrap64 (Int.tdiv a1 t101)) = 0 then (if (wrap64 (Int.tdiv a0 t101)) < 0 then (some (([wrap64 (-(wrap64 (Int.tdiv a0 t101))), wrap64 (-(wrap64 (Int.tdiv a1 t101)))] : List Int))) else (some (([wrap64 (Int.tdiv a0 t101), wrap64 (Int.tdiv a1 t101)] : List Int)))) else (some (([wrap64 (Int.tdiv a0 t101), wrap64 (Int.tdiv a1 t101)] : List Int)))))) = some r := H
 have A3 := Ak A30
 clear A30
 by_cases c4 : t101 = 0
 ·rw [if_pos c4] at H
  exact absurd H (by simp)
 ·rw [if_neg c4] at H
  have c4b0 : (t101 == 0) = false := beq_eq_false_iff_ne.mpr c4
  have c4b1 : (t101 != 0) = true := bne_iff_ne.mpr c4
  by_cases c5 : (wrap64 (Int.tdiv a1 t101)) < 0
  ·rw [if_pos c5] at H
   have c5b0 : decide ((wrap64 (Int.tdiv a1 t101)) < 0) = true := decide_eq_true c5
   clear c5
   obtain ⟨y102, hy102⟩ : ∃ y_ : List Int, y_ = (([wrap64 (-(wrap64 (Int.tdiv a0 t101))), wrap64 (-(wrap64 (Int.tdiv a1 t101)))] : List Int)) := ⟨_, rfl⟩
   replace H : (some y102) = some r := by first | (rw [hy102]; exact H) | exact H
   have Ny102 := Ak hy102
   clear hy102
   obtain rfl := Option.some.inj H
   go_enter Try.func36, Try.ntmps36
   go_wp2_with (first | ((with_reducible refine gate_callee (f := 50) rfl ?_); refine goesL_ (some 8) rfl rfl Try.func50 (by kernel_rfl) rfl #[.int .i64 a0, .int .i64 a1] rfl (by (try simp only [List.map_toArray, List.map_cons, List.map_nil]); first | done | rfl | (simp only [List.length_drop, List.length_take]; rfl)) ?_; (with_reducible refine (spec_l02Gcd.calls k a0 a1 t101 _ A3.out).mono ?_); rintro e w6 ⟨rfl, hb⟩; refine ⟨_, rfl, ?_⟩; have n0_ := Ak (below_step (by repeat (first | exact HB.out | apply bA | apply bD | apply bE)) hb); clear HB; have HB := n0_; clear n0_; (try clear hb); (try clear hb2); (try clear hk); (try clear hi)) | ((with_reducible refine gate_dst (N := 31) rfl ?_); refine Kd.R_lit (Kd.int .i64) _ 3 ?hg (N := 31) ?hd (xs := ([wrap64 (-(wrap64 (Int.tdiv a0 t101))), wrap64 (-(wrap64 (Int.tdiv a1 t101)))] : List Int)) (inner := [.int .i64 (wrap64 (-(wrap64 (Int.tdiv a0 t101)))), .int .i64 (wrap64 (-(wrap64 (Int.tdiv a1 t101))))]) (ok := fun _ => True) (okp := fun _ => True) ?hr ?hp (fun _ hk => hk) trivial (Below.refl _ _) (Nat.le_refl _) (by simp) ?_; (case hd | hg => rfl); (case hr => first | (go_simp; done) | (go_simp; rfl)); (case hp => exact (Reps.one (show Kd.M (Kd.int .i64) _ _ _ (wrap64 (-(wrap64 (Int.tdiv a0 t101)))) [.int .i64 (wrap64 (-(wrap64 (Int.tdiv a0 t101))))] from rfl) (Reps.one (show Kd.M (Kd.int .i64) _ _ _ (wrap64 (-(wrap64 (Int.tdiv a1 t101)))) [.int .i64 (wrap64 (-(wrap64 (Int.tdiv a1 t101))))] from rfl) (Reps.none _ _)))); intro v103 w7 ho8 hb hg_ hnew_; clear hg_ hnew_; (first | rw [← Ny102.out] at ho8 | (simp only [Int.reduceToNat] at ho8; rw [← Ny102.out] at ho8)); have n0_ := Ak (Kd.R_lower ho8 (below_size (by repeat (first | exact HB.out | apply bA | apply bD | apply bE)))); have n1_ := Ak (below_step (by repeat (first | exact HB.out | apply bA | apply bD | apply bE)) hb); clear HB; have HO104 := n0_; have HB := n1_; clear n0_ n1_; clear hb ho8))
   go_ret
   exact ⟨_, by first | rfl | (simp [*, errW_none, errW_some] <;> rfl), by (with_reducible repeat (first | apply Kd.R_alloc | apply Kd.R_drewN | apply Kd.R_drew)); exact HO104.out, by repeat (first | (with_reducible first | exact HB.out | apply bA | apply bD | apply bE) | exact HB.out)⟩
  ·rw [if_neg c5] at H
   have c5b0 : decide ((wrap64 (Int.tdiv a1 t101)) < 0) = false := decide_eq_false c5
   clear c5
   by_cases c9 : (wrap64 (Int.tdiv a1 t101)) = 0
   ·rw [if_pos c9] at H
    have c9b0 : ((wrap64 (Int.tdiv a1 t101)) == 0) = true := beq_iff_eq.mpr c9
    have c9b1 : ((wrap64 (Int.tdiv a1 t101)) != 0) = false := bne_eq_false_iff_eq.mpr c9
    clear c9
    by_cases c10 : (wrap64 (Int.tdiv a0 t101)) < 0
    ·rw [if_pos c10] at H
     have c10b0 : decide ((wrap64 (Int.tdiv a0 t101)) < 0) = true := decide_eq_true c10
     clear c10
     obtain ⟨y105, hy105⟩ : ∃ y_ : List Int, y_ = (([wrap64 (-(wrap64 (Int.tdiv a0 t101))), wrap64 (-(wrap64 (Int.tdiv a1 t101)))] : List Int)) := ⟨_, rfl⟩
     replace H : (some y105) = some r := by first | (rw [hy105]; exact H) | exact H
     have Ny105 := Ak hy105
     clear hy105
     obtain rfl := Option.some.inj H
     go_enter Try.func36, Try.ntmps36
     go_wp2_with (first | ((with_reducible refine gate_callee (f := 50) rfl ?_); refine goesL_ (some 8) rfl rfl Try.func50 (by kernel_rfl) rfl #[.int .i64 a0, .int .i64 a1] rfl (by (try simp only [List.map_toArray, List.map_cons, List.map_nil]); first | done | rfl | (simp only [List.length_drop, List.length_take]; rfl)) ?_; (with_reducible refine (spec_l02Gcd.calls k a0 a1 t101 _ A3.out).mono ?_); rintro e w11 ⟨rfl, hb⟩; refine ⟨_, rfl, ?_⟩; have n0_ := Ak (below_step (by repeat (first | exact HB.out | apply bA | apply bD | apply bE)) hb); clear HB; have HB := n0_; clear n0_; (try clear hb); (try clear hb2); (try clear hk); (try clear hi)) | ((with_reducible refine gate_dst (N := 31) rfl ?_); refine Kd.R_lit (Kd.int .i64) _ 3 ?hg (N := 31) ?hd (xs := ([wrap64 (-(wrap64 (Int.tdiv a0 t101))), wrap64 (-(wrap64 (Int.tdiv a1 t101)))] : List Int)) (inner := [.int .i64 (wrap64 (-(wrap64 (Int.tdiv a0 t101)))), .int .i64 (wrap64 (-(wrap64 (Int.tdiv a1 t101))))]) (ok := fun _ => True) (okp := fun _ => True) ?hr ?hp (fun _ hk => hk) trivial (Below.refl _ _) (Nat.le_refl _) (by simp) ?_; (case hd | hg => rfl); (case hr => first | (go_simp; done) | (go_simp; rfl)); (case hp => exact (Reps.one (show Kd.M (Kd.int .i64) _ _ _ (wrap64 (-(wrap64 (Int.tdiv a0 t101)))) [.int .i64 (wrap64 (-(wrap64 (Int.tdiv a0 t101))))] from rfl) (Reps.one (show Kd.M (Kd.int .i64) _ _ _ (wrap64 (-(wrap64 (Int.tdiv a1 t101)))) [.int .i64 (wrap64 (-(wrap64 (Int.tdiv a1 t101))))] from rfl) (Reps.none _ _)))); intro v106 w12 ho13 hb hg_ hnew_; clear hg_ hnew_; (first | rw [← Ny105.out] at ho13 | (simp only [Int.reduceToNat] at ho13; rw [← Ny105.out] at ho13)); have n0_ := Ak (Kd.R_lower ho13 (below_size (by repeat (first | exact HB.out | apply bA | apply bD | apply bE)))); have n1_ := Ak (below_step (by repeat (first | exact HB.out | apply bA | apply bD | apply bE)) hb); clear HB; have HO107 := n0_; have HB := n1_; clear n0_ n1_; clear hb ho13))
     go_ret
     exact ⟨_, by first | rfl | (simp [*, errW_none, errW_some] <;> rfl), by (with_reducible repeat (first | apply Kd.R_alloc | apply Kd.R_drewN | apply Kd.R_drew)); exact HO107.out, by repeat (first | (with_reducible first | exact HB.out | apply bA | apply bD | apply bE) | exact HB.out)⟩
    ·rw [if_neg c10] at H
     have c10b0 : decide ((wrap64 (Int.tdiv a0 t101)) < 0) = false := decide_eq_false c10
     clear c10
     obtain ⟨y108, hy108⟩ : ∃ y_ : List Int, y_ = (([wrap64 (Int.tdiv a0 t101), wrap64 (Int.tdiv a1 t101)] : List Int)) := ⟨_, rfl⟩
     replace H : (some y108) = some r := by first | (rw [hy108]; exact H) | exact H
     have Ny108 := Ak hy108
     clear hy108
     obtain rfl := Option.some.inj H
     go_enter Try.func36, Try.ntmps36
     go_wp2_with (first | ((with_reducible refine gate_callee (f := 50) rfl ?_); refine goesL_ (some 8) rfl rfl Try.func50 (by kernel_rfl) rfl #[.int .i64 a0, .int .i64 a1] rfl (by (try simp only [List.map_toArray, List.map_cons, List.map_nil]); first | done | rfl | (simp only [List.length_drop, List.length_take]; rfl)) ?_; (with_reducible refine (spec_l02Gcd.calls k a0 a1 t101 _ A3.out).mono ?_); rintro e w14 ⟨rfl, hb⟩; refine ⟨_, rfl, ?_⟩; have n0_ := Ak (below_step (by repeat (first | exact HB.out | apply bA | apply bD | apply bE)) hb); clear HB; have HB := n0_; clear n0_; (try clear hb); (try clear hb2); (try clear hk); (try clear hi)) | ((with_reducible refine gate_dst (N := 31) rfl ?_); refine Kd.R_lit (Kd.int .i64) _ 3 ?hg (N := 31) ?hd (xs := ([wrap64 (Int.tdiv a0 t101), wrap64 (Int.tdiv a1 t101)] : List Int)) (inner := [.int .i64 (wrap64 (Int.tdiv a0 t101)), .int .i64 (wrap64 (Int.tdiv a1 t101))]) (ok := fun _ => True) (okp := fun _ => True) ?hr ?hp (fun _ hk => hk) trivial (Below.refl _ _) (Nat.le_refl _) (by simp) ?_; (case hd | hg => rfl); (case hr => first | (go_simp; done) | (go_simp; rfl)); (case hp => exact (Reps.one (show Kd.M (Kd.int .i64) _ _ _ (wrap64 (Int.tdiv a0 t101)) [.int .i64 (wrap64 (Int.tdiv a0 t101))] from rfl) (Reps.one (show Kd.M (Kd.int .i64) _ _ _ (wrap64 (Int.tdiv a1 t101)) [.int .i64 (wrap64 (Int.tdiv a1 t101))] from rfl) (Reps.none _ _)))); intro v109 w15 ho16 hb hg_ hnew_; clear hg_ hnew_; (first | rw [← Ny108.out] at ho16 | (simp only [Int.reduceToNat] at ho16; rw [← Ny108.out] at ho16)); have n0_ := Ak (Kd.R_lower ho16 (below_size (by repeat (first | exact HB.out | apply bA | apply bD | apply bE)))); have n1_ := Ak (below_step (by repeat (first | exact HB.out | apply bA | apply bD | apply bE)) hb); clear HB; have HO110 := n0_; have HB := n1_; clear n0_ n1_; clear hb ho16))
     go_ret
     exact ⟨_, by first | rfl | (simp [*, errW_none, errW_some] <;> rfl), by (with_reducible repeat (first | apply Kd.R_alloc | apply Kd.R_drewN | apply Kd.R_drew)); exact HO110.out, by repeat (first | (with_reducible first | exact HB.out | apply bA | apply bD | apply bE) | exact HB.out)⟩
   ·rw [if_neg c9] at H
    have c9b0 : ((wrap64 (Int.tdiv a1 t101)) == 0) = false := beq_eq_false_iff_ne.mpr c9
    have c9b1 : ((wrap64 (Int.tdiv a1 t101)) != 0) = true := bne_iff_ne.mpr c9
    obtain ⟨y111, hy111⟩ : ∃ y_ : List Int, y_ = (([wrap64 (Int.tdiv a0 t101), wrap64 (Int.tdiv a1 t101)] : List Int)) := ⟨_, rfl⟩
    replace H : (some y111) = some r := by first | (rw [hy111]; exact H) | exact H
    have Ny111 := Ak hy111
    clear hy111
    obtain rfl := Option.some.inj H
    go_enter Try.func36, Try.ntmps36
    go_wp2_with (first | ((with_reducible refine gate_callee (f := 50) rfl ?_); refine goesL_ (some 8) rfl rfl Try.func50 (by kernel_rfl) rfl #[.int .i64 a0, .int .i64 a1] rfl (by (try simp only [List.map_toArray, List.map_cons, List.map_nil]); first | done | rfl | (simp only [List.length_drop, List.length_take]; rfl)) ?_; (with_reducible refine (spec_l02Gcd.calls k a0 a1 t101 _ A3.out).mono ?_); rintro e w17 ⟨rfl, hb⟩; refine ⟨_, rfl, ?_⟩; have n0_ := Ak (below_step (by repeat (first | exact HB.out | apply bA | apply bD | apply bE)) hb); clear HB; have HB := n0_; clear n0_; (try clear hb); (try clear hb2); (try clear hk); (try clear hi)) | ((with_reducible refine gate_dst (N := 31) rfl ?_); refine Kd.R_lit (Kd.int .i64) _ 3 ?hg (N := 31) ?hd (xs := ([wrap64 (Int.tdiv a0 t101), wrap64 (Int.tdiv a1 t101)] : List Int)) (inner := [.int .i64 (wrap64 (Int.tdiv a0 t101)), .int .i64 (wrap64 (Int.tdiv a1 t101))]) (ok := fun _ => True) (okp := fun _ => True) ?hr ?hp (fun _ hk => hk) trivial (Below.refl _ _) (Nat.le_refl _) (by simp) ?_; (case hd | hg => rfl); (case hr => first | (go_simp; done) | (go_simp; rfl)); (case hp => exact (Reps.one (show Kd.M (Kd.int .i64) _ _ _ (wrap64 (Int.tdiv a0 t101)) [.int .i64 (wrap64 (Int.tdiv a0 t101))] from rfl) (Reps.one (show Kd.M (Kd.int .i64) _ _ _ (wrap64 (Int.tdiv a1 t101)) [.int .i64 (wrap64 (Int.tdiv a1 t101))] from rfl) (Reps.none _ _)))); intro v112 w18 ho19 hb hg_ hnew_; clear hg_ hnew_; (first | rw [← Ny111.out] at ho19 | (simp only [Int.reduceToNat] at ho19; rw [← Ny111.out] at ho19)); have n0_ := Ak (Kd.R_lower ho19 (below_size (by repeat (first | exact HB.out | apply bA | apply bD | apply bE)))); have n1_ := Ak (below_step (by repeat (first | exact HB.out | apply bA | apply bD | apply bE)) hb); clear HB; have HO113 := n0_; have HB := n1_; clear n0_ n1_; clear hb ho19))
    go_ret
    exact ⟨_, by first | rfl | (simp [*, errW_none, errW_some] <;> rfl), by (with_reducible repeat (first | apply Kd.R_alloc | apply Kd.R_drewN | apply Kd.R_drew)); exact HO113.out, by repeat (first | (with_reducible first | exact HB.out | apply bA | apply bD | apply bE) | exact HB.out)⟩

end Go.Proofs.Ytobhabampbekcaa.G
