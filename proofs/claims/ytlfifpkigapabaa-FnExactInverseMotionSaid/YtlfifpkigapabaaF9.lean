/- A Go function as a plain Lean function, and the proof that Go's call comes to its answer. No conditions but those in the theorem. Written by gen.py (a program of this session over the kit's print). -/
-- SHRUNK by pack.py
import Derived.Test.YtlfifpkigapabaaG0
import Derived.Test.YtlfifpkigapabaaF26
import Derived.Test.YtlfifpkigapabaaF25
import Derived.Test.YtlfifpkigapabaaF27
namespace Go.Proofs.Ytlfifpkigapabaa.G
open Go.RowKit Go.Proofs.YtlfifpkigapabaaW.PrintWords Go.Proofs.YtlfifpkigapabaaW.PrintLast Go.Proofs.YtlfifpkigapabaaW.PrintMore Go.Proofs.YtlfifpkigapabaaW.PrintBits
attribute [local go_sem] max2_int min2_int max_two min_two max_three min_three max_four min_four   -- for this text's walks alone
set_option linter.unusedVariables false
set_option linter.unusedSimpArgs false

/-! ### impl_ComposeMotions: function 9 -/
def impl_ComposeMotions.j0 : Nat → Int → Int → Bool → Option (Int)
 | 0, _, _, _ => none
 | k + 1, x0, x1, x13 => if x13 = true then (some (-1)) else ((impl_moved.f k 1 0 x0).bind fun bt103 => ((impl_moved.f k bt103.1 bt103.2 x1).bind fun bt105 => ((impl_moved.f k 0 1 x0).bind fun bt107 => ((impl_moved.f k bt107.1 bt107.2 x1).bind fun bt109 => ((slices_IndexFunc_int_int.f k (([0, 1, 2, 3, 4, 5, 6, 7] : List Int)) (([(⟨bt105.1, bt105.2⟩ : S38), (⟨bt109.1, bt109.2⟩ : S38)] : List (S38)))).bind fun t117 => (some t117))))))
def impl_ComposeMotions.f (k : Nat) (a0 : Int) (a1 : Int) : Option (Int) := (impl_isMotion.f a0).bind fun t101 => (if t101 = true then ((impl_isMotion.f a1).bind fun t102 => (impl_ComposeMotions.j0 k a0 a1 (!t102))) else (impl_ComposeMotions.j0 k a0 a1 true))
theorem impl_ComposeMotions.mono_l : ∀ k, (∀ y0 y1 y2, LeO (impl_ComposeMotions.j0 k y0 y1 y2) (impl_ComposeMotions.j0 (k + 1) y0 y1 y2))
 | 0 => fun _ _ _ r h => by simp [impl_ComposeMotions.j0] at h
 | k + 1 => by
  have ih0 := impl_ComposeMotions.mono_l k
  ·intro y0 y1 y2
   unfold impl_ComposeMotions.j0
   repeat' first
   | (with_reducible exact ih0 _ _ _)
   | (with_reducible exact impl_moved.mono _ _ _ _)
   | (with_reducible exact slices_IndexFunc_int_int.mono _ _ _)
   | (with_reducible exact LeO.refl _)
   | (with_reducible exact LeO.none _)
   | (with_reducible refine LeO.ite ?_ ?_)
   | (with_reducible refine LeO.bind ?_ (fun _ => ?_))
   | exact ih0 _ _ _
   | exact impl_moved.mono _ _ _ _
   | exact slices_IndexFunc_int_int.mono _ _ _
   | exact LeO.none _
   | refine LeO.ite ?_ ?_
   | refine LeO.bind ?_ (fun _ => ?_)
theorem impl_ComposeMotions.mono : ∀ a0 a1 k, LeO (impl_ComposeMotions.f k a0 a1) (impl_ComposeMotions.f (k + 1) a0 a1) := by
 intro a0 a1 k
 have ih0 := impl_ComposeMotions.mono_l k
 unfold impl_ComposeMotions.f
 repeat' first
   | (with_reducible exact ih0 _ _ _)
   | (with_reducible exact impl_moved.mono _ _ _ _)
   | (with_reducible exact slices_IndexFunc_int_int.mono _ _ _)
   | (with_reducible exact LeO.refl _)
   | (with_reducible exact LeO.none _)
   | (with_reducible refine LeO.ite ?_ ?_)
   | (with_reducible refine LeO.bind ?_ (fun _ => ?_))
   | exact ih0 _ _ _
   | exact impl_moved.mono _ _ _ _
   | exact slices_IndexFunc_int_int.mono _ _ _
   | exact LeO.none _
   | refine LeO.ite ?_ ?_
   | refine LeO.bind ?_ (fun _ => ?_)
set_option maxHeartbeats 8000000 in
set_option maxRecDepth 100000 in
theorem impl_ComposeMotions.calls (k : Nat) (a0 : Int) (a1 : Int) (r : Int) (w : World) (h : impl_ComposeMotions.f k a0 a1 = some r) :
  Calls Try.prog 9 #[.int .i64 a0, .int .i64 a1] w fun e w' => e = .returned (.int .i64 r) ∧ Below w.heap.size w w' := by
 have hu38 := Try.underlying38; have HB := Ak (Below.refl w.heap.size w); have H : ((impl_isMotion.f a0).bind fun t101 => (if t101 = true then ((impl_isMotion.f a1).bind fun t102 => (impl_ComposeMotions.j0 k a0 a1 (!t102))) else (impl_ComposeMotions.j0 k a0 a1 true))) = some r := h; clear h; have HC3 := Ak H; clear H
 go_enter Try.func9, Try.ntmps9
 go_upto_region 1 with (fail)
 go_cut [13] (fun v13 wc => ∃ (kq : Nat) (x13_2 : Bool), v13 = .bool x13_2 ∧ Aside0 (impl_ComposeMotions.j0 kq a0 a1 x13_2 = some r) ∧ Aside0 (kq ≤ k) ∧ Aside0 (Below w.heap.size w wc))
 case first =>
  have H := HC3.out; clear HC3; replace H := Option.bind_eq_some_iff.mp H; obtain ⟨t101, A40, H⟩ := H; replace H : (if t101 = true then ((impl_isMotion.f a1).bind fun t102 => (impl_ComposeMotions.j0 k a0 a1 (!t102))) else (impl_ComposeMotions.j0 k a0 a1 true)) = some r := H; have A4 := Ak A40; clear A40
  by_cases c5 : t101 = true
  ·subst c5; have H1 : ((impl_isMotion.f a1).bind fun t102 => (impl_ComposeMotions.j0 k a0 a1 (!t102))) = some r := by rw [if_pos rfl] at H; exact H
   clear H; have H := H1; clear H1; replace H := Option.bind_eq_some_iff.mp H; obtain ⟨t102, A60, H⟩ := H; replace H : (impl_ComposeMotions.j0 k a0 a1 (!t102)) = some r := H; have A6 := Ak A60; clear A60; have H' := Ak H; clear H
   go_wp2_with (first | ((with_reducible refine gate_callee (f := 25) rfl ?_); refine goesL_ (some 7) rfl rfl Try.func25 (by kernel_rfl) rfl #[.int .i64 a0] rfl (by (try simp only [List.map_toArray, List.map_cons, List.map_nil]); first | done | rfl | (simp only [List.length_drop, List.length_take]; rfl)) ?_; (with_reducible refine (impl_isMotion.calls a0 true _ A4.out).mono ?_); rintro e w' ⟨rfl, ⟨nd, rfl⟩⟩; refine ⟨_, rfl, ?_⟩) | (go_at_call 25; (with_reducible refine (impl_isMotion.calls a1 t102 _ A6.out).mono ?_); rintro e w' ⟨rfl, ⟨nd, rfl⟩⟩))
   go_meet
   case rel => exact ⟨_, (!t102), (by first | rfl | (simp; done) | (simp [*]; done)), H', ⟨by first | omega | exact Nat.le_refl _⟩, ⟨by repeat (first | (with_reducible first | exact HB.out | apply bA | apply bD | apply bE) | exact HB.out)⟩⟩
  ·replace c5 := Bool.eq_false_iff.mpr c5; subst c5; have H1 : (impl_ComposeMotions.j0 k a0 a1 true) = some r := by rw [if_neg (show ¬ (false = true) by decide)] at H; exact H
   clear H; have H := H1; clear H1; have H' := Ak H; clear H
   go_wp2_with (first | ((with_reducible refine gate_callee (f := 25) rfl ?_); refine goesL_ (some 7) rfl rfl Try.func25 (by kernel_rfl) rfl #[.int .i64 a0] rfl (by (try simp only [List.map_toArray, List.map_cons, List.map_nil]); first | done | rfl | (simp only [List.length_drop, List.length_take]; rfl)) ?_; (with_reducible refine (impl_isMotion.calls a0 false _ A4.out).mono ?_); rintro e w' ⟨rfl, ⟨nd, rfl⟩⟩; refine ⟨_, rfl, ?_⟩))
   go_meet
   case rel => exact ⟨_, (true), (by first | rfl | (simp; done) | (simp [*]; done)), H', ⟨by first | omega | exact Nat.le_refl _⟩, ⟨by repeat (first | (with_reducible first | exact HB.out | apply bA | apply bD | apply bE) | exact HB.out)⟩⟩
 case rest =>
  clear HC3
  try clear c2
  try clear p2
  try clear c5
  obtain ⟨kq, x13_2, rfl, HA, HJ2, HB⟩ := hcut
  cases kq with
  | zero => exact absurd HA.out (by simp [impl_ComposeMotions.j0])
  | succ kj2 =>
   have H := HA.out; clear HA; simp only [impl_ComposeMotions.j0] at H
   by_cases c7 : x13_2 = true
   ·subst c7; have H1 : (some (-1)) = some r := by rw [if_pos rfl] at H; exact H
    clear H; have H := H1; clear H1; obtain rfl := Option.some.inj H
    go_wp2
    go_ret
    exact ⟨by first | rfl | (simp [*, errW_none, errW_some] <;> rfl), by repeat (first | (with_reducible first | exact HB.out | apply bA | apply bD | apply bE) | exact HB.out)⟩
   ·replace c7 := Bool.eq_false_iff.mpr c7; subst c7; have H1 : ((impl_moved.f kj2 1 0 a0).bind fun bt103 => ((impl_moved.f kj2 bt103.1 bt103.2 a1).bind fun bt105 => ((impl_moved.f kj2 0 1 a0).bind fun bt107 => ((impl_moved.f kj2 bt107.1 bt107.2 a1).bind fun bt109 => ((slices_IndexFunc_int_int.f kj2 (([0, 1, 2, 3, 4, 5, 6, 7] : List Int)) (([(⟨bt105.1, bt105.2⟩ : S38), (⟨bt109.1, bt109.2⟩ : S38)] : List (S38)))).bind fun t117 => (some t117)))))) = some r := by rw [if_neg (show ¬ (false = true) by decide)] at H; exact H
    clear H; have H := H1; clear H1; replace H := Option.bind_eq_some_iff.mp H; obtain ⟨⟨t103, t104⟩, A80, H⟩ := H; replace H : ((impl_moved.f kj2 t103 t104 a1).bind fun bt105 => ((impl_moved.f kj2 0 1 a0).bind fun bt107 => ((impl_moved.f kj2 bt107.1 bt107.2 a1).bind fun bt109 => ((slices_IndexFunc_int_int.f kj2 (([0, 1, 2, 3, 4, 5, 6, 7] : List Int)) (([(⟨bt105.1, bt105.2⟩ : S38), (⟨bt109.1, bt109.2⟩ : S38)] : List (S38)))).bind fun t117 => (some t117))))) = some r := H; have A8 := Ak A80; clear A80; replace H := Option.bind_eq_some_iff.mp H; obtain ⟨⟨t105, t106⟩, A90, H⟩ := H; replace H : ((impl_moved.f kj2 0 1 a0).bind fun bt107 => ((impl_moved.f kj2 bt107.1 bt107.2 a1).bind fun bt109 => ((slices_IndexFunc_int_int.f kj2 (([0, 1, 2, 3, 4, 5, 6, 7] : List Int)) (([(⟨t105, t106⟩ : S38), (⟨bt109.1, bt109.2⟩ : S38)] : List (S38)))).bind fun t117 => (some t117)))) = some r := H; have A9 := Ak A90; clear A90; replace H := Option.bind_eq_some_iff.mp H; obtain ⟨⟨t107, t108⟩, A100, H⟩ := H; replace H : ((impl_moved.f kj2 t107 t108 a1).bind fun bt109 => ((slices_IndexFunc_int_int.f kj2 (([0, 1, 2, 3, 4, 5, 6, 7] : List Int)) (([(⟨t105, t106⟩ : S38), (⟨bt109.1, bt109.2⟩ : S38)] : List (S38)))).bind fun t117 => (some t117))) = some r := H; have A10 := Ak A100; clear A100; replace H := Option.bind_eq_some_iff.mp H; obtain ⟨⟨t109, t110⟩, A110, H⟩ := H; replace H : ((slices_IndexFunc_int_int.f kj2 (([0, 1, 2, 3, 4, 5, 6, 7] : List Int)) (([(⟨t105, t106⟩ : S38), (⟨t109, t110⟩ : S38)] : List (S38)))).bind fun t117 => (some t117)) = some r := H; have A11 := Ak A110; clear A110; obtain ⟨y111, hy111⟩ : ∃ y_ : List (S38), y_ = (([(⟨t105, t106⟩ : S38), (⟨t109, t110⟩ : S38)] : List (S38))) := ⟨_, rfl⟩; replace H : ((slices_IndexFunc_int_int.f kj2 (([0, 1, 2, 3, 4, 5, 6, 7] : List Int)) y111).bind fun t117 => (some t117)) = some r := by first | (rw [hy111]; exact H) | exact H
    have Ny111 := Ak hy111; clear hy111; obtain ⟨y114, hy114⟩ : ∃ y_ : List Int, y_ = (([0, 1, 2, 3, 4, 5, 6, 7] : List Int)) := ⟨_, rfl⟩; replace H : ((slices_IndexFunc_int_int.f kj2 y114 y111).bind fun t117 => (some t117)) = some r := by first | (rw [hy114]; exact H) | exact H
    have Ny114 := Ak hy114; clear hy114; replace H := Option.bind_eq_some_iff.mp H; obtain ⟨t117, A120, H⟩ := H; replace H : (some t117) = some r := H; have A12 := Ak A120; clear A120; obtain rfl := Option.some.inj H
    go_wp2_with (first | ((with_reducible refine gate_callee (f := 26) rfl ?_); refine goesL_ (some 16) rfl rfl Try.func26 (by kernel_rfl) rfl #[.agg #[.int .i64 1, .int .i64 0], .int .i64 a0] rfl (by (try simp only [List.map_toArray, List.map_cons, List.map_nil]); first | done | rfl | (simp only [List.length_drop, List.length_take]; rfl)) ?_; (with_reducible refine (impl_moved.calls kj2 1 0 a0 t103 t104 _ A8.out).mono ?_); rintro e w13 ⟨rfl, hb⟩; refine ⟨_, rfl, ?_⟩; have n0_ := Ak (below_step (by repeat (first | exact HB.out | apply bA | apply bD | apply bE)) hb); clear HB; have HB := n0_; clear n0_; (try clear hb); (try clear hb2); (try clear hk); (try clear hi)) | ((with_reducible refine gate_callee (f := 26) rfl ?_); refine goesL_ (some 18) rfl rfl Try.func26 (by kernel_rfl) rfl #[.agg #[.int .i64 t103, .int .i64 t104], .int .i64 a1] rfl (by (try simp only [List.map_toArray, List.map_cons, List.map_nil]); first | done | rfl | (simp only [List.length_drop, List.length_take]; rfl)) ?_; (with_reducible refine (impl_moved.calls kj2 t103 t104 a1 t105 t106 _ A9.out).mono ?_); rintro e w14 ⟨rfl, hb⟩; refine ⟨_, rfl, ?_⟩; have n0_ := Ak (below_step (by repeat (first | exact HB.out | apply bA | apply bD | apply bE)) hb); clear HB; have HB := n0_; clear n0_; (try clear hb); (try clear hb2); (try clear hk); (try clear hi)) | ((with_reducible refine gate_callee (f := 26) rfl ?_); refine goesL_ (some 21) rfl rfl Try.func26 (by kernel_rfl) rfl #[.agg #[.int .i64 0, .int .i64 1], .int .i64 a0] rfl (by (try simp only [List.map_toArray, List.map_cons, List.map_nil]); first | done | rfl | (simp only [List.length_drop, List.length_take]; rfl)) ?_; (with_reducible refine (impl_moved.calls kj2 0 1 a0 t107 t108 _ A10.out).mono ?_); rintro e w15 ⟨rfl, hb⟩; refine ⟨_, rfl, ?_⟩; have n0_ := Ak (below_step (by repeat (first | exact HB.out | apply bA | apply bD | apply bE)) hb); clear HB; have HB := n0_; clear n0_; (try clear hb); (try clear hb2); (try clear hk); (try clear hi)) | ((with_reducible refine gate_callee (f := 26) rfl ?_); refine goesL_ (some 23) rfl rfl Try.func26 (by kernel_rfl) rfl #[.agg #[.int .i64 t107, .int .i64 t108], .int .i64 a1] rfl (by (try simp only [List.map_toArray, List.map_cons, List.map_nil]); first | done | rfl | (simp only [List.length_drop, List.length_take]; rfl)) ?_; (with_reducible refine (impl_moved.calls kj2 t107 t108 a1 t109 t110 _ A11.out).mono ?_); rintro e w16 ⟨rfl, hb⟩; refine ⟨_, rfl, ?_⟩; have n0_ := Ak (below_step (by repeat (first | exact HB.out | apply bA | apply bD | apply bE)) hb); clear HB; have HB := n0_; clear n0_; (try clear hb); (try clear hb2); (try clear hk); (try clear hi)) | ((with_reducible refine gate_dst (N := 24) rfl ?_); refine Kd.R_lit k38 _ 38 ?hg (N := 24) ?hd (xs := ([(⟨t105, t106⟩ : S38), (⟨t109, t110⟩ : S38)] : List (S38))) (inner := [.int .i64 t105, .int .i64 t106, .int .i64 t109, .int .i64 t110]) (ok := fun _ => True) (okp := fun _ => True) ?hr ?hp (fun _ hk => hk) trivial (Below.refl _ _) (Nat.le_refl _) (by simp) ?_; (case hd | hg => rfl); (case hr => first | (go_simp; done) | (go_simp; rfl)); (case hp => exact (Reps.c2 (show Kd.M k38 _ _ _ (⟨t105, t106⟩ : S38) [.int .i64 t105, .int .i64 t106] from (k38_mkM _ _ _ (⟨t105, t106⟩ : S38) )) (Reps.c2 (show Kd.M k38 _ _ _ (⟨t109, t110⟩ : S38) [.int .i64 t109, .int .i64 t110] from (k38_mkM _ _ _ (⟨t109, t110⟩ : S38) )) (Reps.none _ _)))); intro v112 w17 ho18 hb hg_ hnew_; clear hg_ hnew_; (first | rw [← Ny111.out] at ho18 | (simp only [Int.reduceToNat] at ho18; rw [← Ny111.out] at ho18)); have n0_ := Ak (Kd.R_lower ho18 (below_size (by repeat (first | exact HB.out | apply bA | apply bD | apply bE)))); have n1_ := Ak (below_step (by repeat (first | exact HB.out | apply bA | apply bD | apply bE)) hb); clear HB; have HO113 := n0_; have HB := n1_; clear n0_ n1_; clear hb ho18; obtain ⟨Aow, cow, eow⟩ := Kd.R_slice HO113.out; subst eow) | ((with_reducible refine gate_dst (N := 5) rfl ?_); refine box_event ?hg (N := 5) ?hd (cs := #[.slice none 0 0]) (t := 29) ?hr ?_; (case hd | hg => rfl); (case hr => first | (go_simp; done) | (go_simp; rfl)); intro gb hgb w30 hbox hb; have GE := Ak (show w.heap.size ≤ gb from hgb ▸ below_size (by repeat (first | exact HB.out | apply bA | apply bD | apply bE))); have n0_ := Ak (Kd.R_below (by (with_reducible repeat (first | apply Kd.R_alloc | apply Kd.R_drewN | apply Kd.R_drew)); exact HO113.out) hb); have nB_ := Ak (below_step (by repeat (first | exact HB.out | apply bA | apply bD | apply bE)) hb); clear HO113 HB hgb hb; have HO113 := n0_; have HB := nB_; clear n0_ nB_; have BKw := Ak hbox; clear hbox; have hcw : w30.cell? ⟨gb, 0, none⟩ = some (.slice none 0 0) := (blk_cell BKw.out 0).trans rfl; have hfw := blk_frozen BKw.out 0) | ((with_reducible refine gate_store (t := 29) (p := 5) rfl ?_); refine store_event (t := 29) (p := 5) (v := ?vo_) (w1 := (w30.setCell ⟨gb, 0, none⟩ (.slice Aow y111.length cow))) ?hg ?ho ?hn ?hr ?_; (case ho => rfl); (case hg => rfl); (case hn => rfl); (case hr => first | (go_simp; done) | (go_simp; rfl)); intro w31 hw; have n0_ := Ak (by rw [hw]; exact Kd.R_far (Kd.R_far1 HO113.out rfl (Kd.R_ne HO113.out BKw.out (by decide))) (p := ⟨gb, 0, none⟩) (fun k_ hk_ => hk_.2) _ : Kd.R k38 38 w31 w.heap.size (fun k_ => True ∧ k_ ≠ gb) (.slice Aow y111.length cow) y111); have nB_ := Ak (by rw [hw]; exact below_set (by repeat (first | exact HB.out | apply bA | apply bD | apply bE)) GE.out : Below w.heap.size w w31); have nK_ := Ak (by rw [hw]; exact blk_put BKw.out 0 _ rfl : w31.heap[gb]? = some (.cells #[.slice Aow y111.length cow] 29 (0, 0))); clear HO113 HB BKw hcw hfw hw; have HO113 := n0_; have HB := nB_; have BKw := nK_; clear n0_ nB_ nK_) | ((with_reducible refine gate_dst (N := 25) rfl ?_); refine Kd.R_lit (Kd.int .i64) _ 3 ?hg (N := 25) ?hd (xs := ([0, 1, 2, 3, 4, 5, 6, 7] : List Int)) (inner := [.int .i64 0, .int .i64 1, .int .i64 2, .int .i64 3, .int .i64 4, .int .i64 5, .int .i64 6, .int .i64 7]) (ok := fun _ => True) (okp := fun _ => True) ?hr ?hp (fun _ hk => hk) trivial (Below.refl _ _) (Nat.le_refl _) (by simp) ?_; (case hd | hg => rfl); (case hr => first | (go_simp; done) | (go_simp; rfl)); (case hp => exact (Reps.one (show Kd.M (Kd.int .i64) _ _ _ 0 [.int .i64 0] from rfl) (Reps.one (show Kd.M (Kd.int .i64) _ _ _ 1 [.int .i64 1] from rfl) (Reps.one (show Kd.M (Kd.int .i64) _ _ _ 2 [.int .i64 2] from rfl) (Reps.one (show Kd.M (Kd.int .i64) _ _ _ 3 [.int .i64 3] from rfl) (Reps.one (show Kd.M (Kd.int .i64) _ _ _ 4 [.int .i64 4] from rfl) (Reps.one (show Kd.M (Kd.int .i64) _ _ _ 5 [.int .i64 5] from rfl) (Reps.one (show Kd.M (Kd.int .i64) _ _ _ 6 [.int .i64 6] from rfl) (Reps.one (show Kd.M (Kd.int .i64) _ _ _ 7 [.int .i64 7] from rfl) (Reps.none _ _)))))))))); intro v115 w19 ho20 hb hg_ hnew_; clear hg_ hnew_; have nK_ := Ak (blk_below BKw.out hb); clear BKw; have BKw := nK_; clear nK_; have hgw := (blk_cell BKw.out 0); (first | rw [← Ny114.out] at ho20 | (simp only [Int.reduceToNat] at ho20; rw [← Ny114.out] at ho20)); have n0_ := Ak (Kd.R_below (by (with_reducible repeat (first | apply Kd.R_alloc | apply Kd.R_drewN | apply Kd.R_drew)); exact HO113.out) hb); have n1_ := Ak (Kd.R_lower ho20 (below_size (by repeat (first | exact HB.out | apply bA | apply bD | apply bE)))); have n2_ := Ak (below_step (by repeat (first | exact HB.out | apply bA | apply bD | apply bE)) hb); clear HO113; clear HB; have HO113 := n0_; have HO116 := n1_; have HB := n2_; clear n0_ n1_ n2_; clear hb ho20; obtain ⟨Ao21, co21, eo21⟩ := Kd.R_slice HO116.out; subst eo21) | ((with_reducible refine gate_callee (f := 27) rfl ?_); refine goesL_ (some 27) rfl rfl Try.func27 (by kernel_rfl) rfl #[.slice Ao21 y114.length co21, .func (.func 28) #[] #[.pointer (some ⟨gb, 0, none⟩)]] rfl (by (try simp only [List.map_toArray, List.map_cons, List.map_nil]); first | done | rfl | (simp only [List.length_drop, List.length_take]; rfl)) ?_; (with_reducible refine (slices_IndexFunc_int_int.calls kj2 _ _ y114 _ _ y111 t117 _ gb ((blk_cell BKw.out 0).trans rfl) ?side1 ?side2 ?side3 ?side4 A12.out).mono ?_); (case side1 => repeat (first | exact (Kd.R_reads' HO116.out).2.2 | (with_reducible refine Kd.C_alloc ?_ _) | (with_reducible refine Kd.C_drewN ?_ _) | (with_reducible refine Kd.C_drew ?_))); (case side2 => exact (Kd.R_reads' HO116.out).2.1); (case side3 => repeat (first | exact (Kd.R_reads' HO113.out).2.2 | (with_reducible refine Kd.C_alloc ?_ _) | (with_reducible refine Kd.C_drewN ?_ _) | (with_reducible refine Kd.C_drew ?_))); (case side4 => exact (Kd.R_reads' HO113.out).2.1); rintro e w23 ⟨rfl, hb⟩; refine ⟨_, rfl, ?_⟩; have n0_ := Ak (Kd.R_below (by (with_reducible repeat (first | apply Kd.R_alloc | apply Kd.R_drewN | apply Kd.R_drew)); exact HO113.out) hb); have n1_ := Ak (Kd.R_below (by (with_reducible repeat (first | apply Kd.R_alloc | apply Kd.R_drewN | apply Kd.R_drew)); exact HO116.out) hb); have n2_ := Ak (below_step (by repeat (first | exact HB.out | apply bA | apply bD | apply bE)) hb); clear HO113; clear HO116; clear HB; have HO113 := n0_; have HO116 := n1_; have HB := n2_; clear n0_ n1_ n2_; (try clear hb); (try clear hb2); (try clear hk); (try clear hi)))
    go_ret
    exact ⟨by first | rfl | (simp [*, errW_none, errW_some] <;> rfl), by repeat (first | (with_reducible first | exact HB.out | apply bA | apply bD | apply bE) | exact HB.out)⟩

end Go.Proofs.Ytlfifpkigapabaa.G
