/- A Go function as a plain Lean function, and the proof that Go's call comes to its answer. No conditions but those in the theorem. Written by gen.py (a program of this session over the kit's print). -/
-- SHRUNK by pack.py
import Derived.Test.YtlccpkggdmngaaaG0
namespace Go.Proofs.Ytlccpkggdmngaaa.G
open Go.RowKit Go.Proofs.YtlccpkggdmngaaaW.PrintWords Go.Proofs.YtlccpkggdmngaaaW.PrintLast Go.Proofs.YtlccpkggdmngaaaW.PrintMore Go.Proofs.YtlccpkggdmngaaaW.PrintBits
attribute [local go_sem] max2_int min2_int max_two min_two max_three min_three max_four min_four   -- for this text's walks alone
set_option linter.unusedVariables false
set_option linter.unusedSimpArgs false

/-! ### spec_l05Three: function 88 -/
def spec_l05Three.f (a0 : Int) (a1 : Int) (a2 : Int) : Option (List Int) := some (([mn (mn a0 a1) a2, wrap64 ((wrap64 ((wrap64 ((wrap64 (a0 + a1)) + a2)) - (mn (mn a0 a1) a2))) - (mx (mx a0 a1) a2)), mx (mx a0 a1) a2] : List Int))
set_option maxHeartbeats 8000000 in
set_option maxRecDepth 100000 in
theorem spec_l05Three.calls (a0 : Int) (a1 : Int) (a2 : Int) (r : List Int) (w : World) (h : spec_l05Three.f a0 a1 a2 = some r) :
  Calls Try.prog 88 #[.int .i64 a0, .int .i64 a1, .int .i64 a2] w fun e w' => ∃ v0_ : Value, e = .returned (v0_) ∧ Kd.R (Kd.int .i64) 3 w' w.heap.size (fun _ => True) v0_ r ∧ Below w.heap.size w w' := by
 have HB := Ak (Below.refl w.heap.size w); have H : (some (([mn (mn a0 a1) a2, wrap64 ((wrap64 ((wrap64 ((wrap64 (a0 + a1)) + a2)) - (mn (mn a0 a1) a2))) - (mx (mx a0 a1) a2)), mx (mx a0 a1) a2] : List Int))) = some r := h; clear h; obtain ⟨ji4, hji4⟩ : ∃ j_ : Int, (mn a0 a1) = j_ := ⟨_, rfl⟩; replace H : (some (([mn (ji4) a2, wrap64 ((wrap64 ((wrap64 ((wrap64 (a0 + a1)) + a2)) - (mn (ji4) a2))) - (mx (mx a0 a1) a2)), mx (mx a0 a1) a2] : List Int))) = some r := by first | (rw [hji4] at H; exact H) | (simp only [hji4] at H ⊢; exact H)
 have hji4_ : (if a1 < a0 then a1 else a0) = ji4 := hji4; obtain ⟨ji5, hji5⟩ : ∃ j_ : Int, (mn (ji4) a2) = j_ := ⟨_, rfl⟩; replace H : (some (([ji5, wrap64 ((wrap64 ((wrap64 ((wrap64 (a0 + a1)) + a2)) - (ji5))) - (mx (mx a0 a1) a2)), mx (mx a0 a1) a2] : List Int))) = some r := by first | (rw [hji5] at H; exact H) | (simp only [hji5] at H ⊢; exact H)
 have hji5_ : (if a2 < (ji4) then a2 else (ji4)) = ji5 := hji5; obtain ⟨ji6, hji6⟩ : ∃ j_ : Int, (mx a0 a1) = j_ := ⟨_, rfl⟩; replace H : (some (([ji5, wrap64 ((wrap64 ((wrap64 ((wrap64 (a0 + a1)) + a2)) - (ji5))) - (mx (ji6) a2)), mx (ji6) a2] : List Int))) = some r := by first | (rw [hji6] at H; exact H) | (simp only [hji6] at H ⊢; exact H)
 have hji6_ : (if a0 < a1 then a1 else a0) = ji6 := hji6; obtain ⟨ji7, hji7⟩ : ∃ j_ : Int, (mx (ji6) a2) = j_ := ⟨_, rfl⟩; replace H : (some (([ji5, wrap64 ((wrap64 ((wrap64 ((wrap64 (a0 + a1)) + a2)) - (ji5))) - (ji7)), ji7] : List Int))) = some r := by first | (rw [hji7] at H; exact H) | (simp only [hji7] at H ⊢; exact H)
 have hji7_ : (if (ji6) < a2 then a2 else (ji6)) = ji7 := hji7; obtain ⟨y101, hy101⟩ : ∃ y_ : List Int, y_ = (([ji5, wrap64 ((wrap64 ((wrap64 ((wrap64 (a0 + a1)) + a2)) - (ji5))) - (ji7)), ji7] : List Int)) := ⟨_, rfl⟩; replace H : (some y101) = some r := by first | (rw [hy101]; exact H) | exact H
 have Ny101 := Ak hy101; clear hy101; obtain rfl := Option.some.inj H
 go_enter Try.func88, Try.ntmps88
 go_wp2_with (first | ((with_reducible refine gate_dst (N := 28) rfl ?_); refine Kd.R_lit (Kd.int .i64) _ 3 ?hg (N := 28) ?hd (xs := ([ji5, wrap64 ((wrap64 ((wrap64 ((wrap64 (a0 + a1)) + a2)) - (ji5))) - (ji7)), ji7] : List Int)) (inner := [.int .i64 ji5, .int .i64 (wrap64 ((wrap64 ((wrap64 ((wrap64 (a0 + a1)) + a2)) - (ji5))) - (ji7))), .int .i64 ji7]) (ok := fun _ => True) (okp := fun _ => True) ?hr ?hp (fun _ hk => hk) trivial (Below.refl _ _) (Nat.le_refl _) (by simp) ?_; (case hd | hg => rfl); (case hr => first | (go_simp; done) | (go_simp; rfl)); (case hp => exact (Reps.one (show Kd.M (Kd.int .i64) _ _ _ ji5 [.int .i64 ji5] from rfl) (Reps.one (show Kd.M (Kd.int .i64) _ _ _ (wrap64 ((wrap64 ((wrap64 ((wrap64 (a0 + a1)) + a2)) - (ji5))) - (ji7))) [.int .i64 (wrap64 ((wrap64 ((wrap64 ((wrap64 (a0 + a1)) + a2)) - (ji5))) - (ji7)))] from rfl) (Reps.one (show Kd.M (Kd.int .i64) _ _ _ ji7 [.int .i64 ji7] from rfl) (Reps.none _ _))))); intro v102 w8 ho9 hb hg_ hnew_; clear hg_ hnew_; (first | rw [← Ny101.out] at ho9 | (simp only [Int.reduceToNat] at ho9; rw [← Ny101.out] at ho9)); have n0_ := Ak (Kd.R_lower ho9 (below_size (by repeat (first | exact HB.out | apply bA | apply bD | apply bE)))); have n1_ := Ak (below_step (by repeat (first | exact HB.out | apply bA | apply bD | apply bE)) hb); clear HB; have HO103 := n0_; have HB := n1_; clear n0_ n1_; clear hb ho9))
 go_ret
 exact ⟨_, by first | rfl | (simp [errW_none, errW_some] <;> rfl) | (simp only [← hji4, ← hji5, ← hji6, ← hji7]; first | rfl | (simp [errW_none, errW_some] <;> rfl)) | (simp [*, errW_none, errW_some] <;> rfl), by (with_reducible repeat (first | apply Kd.R_alloc | apply Kd.R_drewN | apply Kd.R_drew)); exact HO103.out, by repeat (first | (with_reducible first | exact HB.out | apply bA | apply bD | apply bE) | exact HB.out)⟩

end Go.Proofs.Ytlccpkggdmngaaa.G
