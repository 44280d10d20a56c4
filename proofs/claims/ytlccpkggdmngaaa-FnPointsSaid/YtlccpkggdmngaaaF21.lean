/- A Go function as a plain Lean function, and the proof that Go's call comes to its answer. No conditions but those in the theorem. Written by gen.py (a program of this session over the kit's print). -/
-- SHRUNK by pack.py
import Derived.Test.YtlccpkggdmngaaaG0
import Derived.Test.YtlccpkggdmngaaaF25
namespace Go.Proofs.Ytlccpkggdmngaaa.G
open Go.RowKit Go.Proofs.YtlccpkggdmngaaaW.PrintWords Go.Proofs.YtlccpkggdmngaaaW.PrintLast Go.Proofs.YtlccpkggdmngaaaW.PrintMore Go.Proofs.YtlccpkggdmngaaaW.PrintBits
attribute [local go_sem] max2_int min2_int max_two min_two max_three min_three max_four min_four   -- for this text's walks alone
set_option linter.unusedVariables false
set_option linter.unusedSimpArgs false

/-! ### impl_PointsOn: function 21 -/
def impl_PointsOn.l0 : Nat → Int → List (S27) → Int → Int → Int → Int → Int → Option ((List (S27)))
 | 0, _, _, _, _, _, _, _ => none
 | k + 1, x5, x6, x7, x102000, x102001, x103000, x103001 => if x7 ≤ x5 then (if x5 = 0 then (none) else (if x6.length < 8796093022208 then (impl_PointsOn.l0 k x5 (x6 ++ [(⟨wrap64 (x102000 + (wrap64 ((wrap64 (Int.tdiv (wrap64 (x103000 - x102000)) x5)) * x7))), wrap64 (x102001 + (wrap64 ((wrap64 (Int.tdiv (wrap64 (x103001 - x102001)) x5)) * x7)))⟩ : S27)]) (wrap64 (x7 + 1)) x102000 x102001 x103000 x103001) else (none))) else (some x6)
def impl_PointsOn.f (k : Nat) (a0_0 : Int) (a0_1 : Int) (a1_0 : Int) (a1_1 : Int) : Option ((List (S27))) := (impl_StepsOf.f k a0_0 a0_1 a1_0 a1_1).bind fun t103 => (if t103 < 0 then (some ([] : List (S27))) else (impl_PointsOn.l0 k t103 (([(⟨a0_0, a0_1⟩ : S27)] : List (S27))) 1 a0_0 a0_1 a1_0 a1_1))
theorem impl_PointsOn.mono_l : ∀ k, (∀ y0 y1 y2 y3 y4 y5 y6, LeO (impl_PointsOn.l0 k y0 y1 y2 y3 y4 y5 y6) (impl_PointsOn.l0 (k + 1) y0 y1 y2 y3 y4 y5 y6))
 | 0 => fun _ _ _ _ _ _ _ r h => by simp [impl_PointsOn.l0] at h
 | k + 1 => by
  have ih0 := impl_PointsOn.mono_l k
  ·intro y0 y1 y2 y3 y4 y5 y6
   unfold impl_PointsOn.l0
   repeat' first
   | (with_reducible exact ih0 _ _ _ _ _ _ _)
   | (with_reducible exact impl_StepsOf.mono _ _ _ _ _)
   | (with_reducible exact LeO.refl _)
   | (with_reducible exact LeO.none _)
   | (with_reducible refine LeO.ite ?_ ?_)
   | (with_reducible refine LeO.bind ?_ (fun _ => ?_))
   | exact ih0 _ _ _ _ _ _ _
   | exact impl_StepsOf.mono _ _ _ _ _
   | exact LeO.none _
   | refine LeO.ite ?_ ?_
   | refine LeO.bind ?_ (fun _ => ?_)
theorem impl_PointsOn.mono : ∀ a0 a1 a2 a3 k, LeO (impl_PointsOn.f k a0 a1 a2 a3) (impl_PointsOn.f (k + 1) a0 a1 a2 a3) := by
 intro a0 a1 a2 a3 k
 have ih0 := impl_PointsOn.mono_l k
 unfold impl_PointsOn.f
 repeat' first
   | (with_reducible exact ih0 _ _ _ _ _ _ _)
   | (with_reducible exact impl_StepsOf.mono _ _ _ _ _)
   | (with_reducible exact LeO.refl _)
   | (with_reducible exact LeO.none _)
   | (with_reducible refine LeO.ite ?_ ?_)
   | (with_reducible refine LeO.bind ?_ (fun _ => ?_))
   | exact ih0 _ _ _ _ _ _ _
   | exact impl_StepsOf.mono _ _ _ _ _
   | exact LeO.none _
   | refine LeO.ite ?_ ?_
   | refine LeO.bind ?_ (fun _ => ?_)
def impl_PointsOn.T8 : Bool × List (List Nat × List Nat) := (true, [([], []), ([], []), ([1], [1]), ([], []), ([3], [3]), ([], []), ([5], [5]), ([4, 6], [4, 6]), ([], []), ([7, 8], [7, 8]), ([], []), ([9, 10], [9, 10]), ([2, 11], [2, 11]), ([], []), ([13], [13]), ([], []), ([15], [15]), ([], []), ([17], [17]), ([16, 18], [16, 18]), ([], []), ([19, 20], [19, 20]), ([], []), ([21, 22], [21, 22]), ([14, 23], [14, 23]), ([12, 24], [12, 24]), ([25], [25]), ([0, 26], [0, 26]), ([27, 27, 0, 1, 2, 3, 4, 5, 6, 7, 8, 9, 10, 11, 12, 13, 14, 15, 16, 17, 18, 19, 20, 21, 22, 23, 24, 25, 26, 27], [0, 27])])
def impl_PointsOn.B8 : List Nat := [0, 0, 2, 0, 8, 0, 32, 120, 0, 504, 0, 2040, 4094, 0, 8192, 0, 32768, 0, 131072, 491520, 0, 2064384, 0, 8355840, 16769024, 33554430, 67108862, 134217727, 268435455]
theorem impl_PointsOn.tab8 : rtab .any (opsOf Try.f21 8) = impl_PointsOn.T8 := by kernel_rfl
theorem impl_PointsOn.bits8 : waitsOk impl_PointsOn.T8.2 impl_PointsOn.B8 = true := by kernel_rfl
set_option maxHeartbeats 8000000 in
set_option maxRecDepth 100000 in
theorem impl_PointsOn.calls (k : Nat) (a0_0 : Int) (a0_1 : Int) (a1_0 : Int) (a1_1 : Int) (r : List (S27)) (w : World) (h : impl_PointsOn.f k a0_0 a0_1 a1_0 a1_1 = some r) :
  Calls Try.prog 21 #[.agg #[.int .i64 a0_0, .int .i64 a0_1], .agg #[.int .i64 a1_0, .int .i64 a1_1]] w fun e w' => ∃ v0_ : Value, e = .returned (v0_) ∧ Kd.R k27 27 w' w.heap.size (fun _ => True) v0_ r ∧ Below w.heap.size w w' := by
 have hu27 := Try.underlying27; have HB := Ak (Below.refl w.heap.size w); have H : ((impl_StepsOf.f k a0_0 a0_1 a1_0 a1_1).bind fun t103 => (if t103 < 0 then (some ([] : List (S27))) else (impl_PointsOn.l0 k t103 (([(⟨a0_0, a0_1⟩ : S27)] : List (S27))) 1 a0_0 a0_1 a1_0 a1_1))) = some r := h; clear h; replace H := Option.bind_eq_some_iff.mp H; obtain ⟨t103, A30, H⟩ := H; replace H : (if t103 < 0 then (some ([] : List (S27))) else (impl_PointsOn.l0 k t103 (([(⟨a0_0, a0_1⟩ : S27)] : List (S27))) 1 a0_0 a0_1 a1_0 a1_1)) = some r := H; have A3 := Ak A30; clear A30
 by_cases c4 : t103 < 0
 ·rw [if_pos c4] at H; have c4b0 : decide (t103 < 0) = true := decide_eq_true c4; clear c4; obtain rfl := Option.some.inj H
  go_enter Try.func21, Try.ntmps21
  go_wp2_with (first | ((with_reducible refine gate_dst (N := 2) rfl ?_); refine box_event ?hg (N := 2) ?hd (cs := #[.int .i64 a0_0, .int .i64 a0_1]) (t := 27) ?hr ?_; (case hd | hg => rfl); (case hr => first | (go_simp; done) | (go_simp; rfl)); intro gb101 hg w5 hbox hb; have n0_ := Ak (below_step (by repeat (first | exact HB.out | apply bA | apply bD | apply bE)) hb); have n1_ := Ak (hbox); have n2_ := Ak ((by rw [hg]; exact (below_size (by repeat (first | exact HB.out | apply bA | apply bD | apply bE))) : w.heap.size ≤ gb101)); have n3_ := n2_; clear HB; have HB := n0_; have BK101 := n1_; have GW101 := n2_; have GE101 := n3_; clear n0_ n1_ n2_ n3_; clear hb hbox hg) | ((with_reducible refine gate_dst (N := 3) rfl ?_); refine box_event ?hg (N := 3) ?hd (cs := #[.int .i64 a1_0, .int .i64 a1_1]) (t := 27) ?hr ?_; (case hd | hg => rfl); (case hr => first | (go_simp; done) | (go_simp; rfl)); intro gb102 hg w6 hbox hb; have m0_ := bK (g := gb101) (o := .cells #[.int .i64 a0_0, .int .i64 a0_1] 27 (0, 0)) (by exact BK101.out) hb; have n0_ := Ak (blk_below m0_ hb); have n1_ := Ak (below_step (by repeat (first | exact HB.out | apply bA | apply bD | apply bE | refine below_set ?_ GE101.out)) hb); have n2_ := Ak (hbox); have n3_ := Ak ((by rw [hg]; exact (below_size (by repeat (first | exact HB.out | apply bA | apply bD | apply bE | refine below_set ?_ GE101.out))) : w.heap.size ≤ gb102)); have n4_ := n3_; have n5_ := Ak ((by rw [hg]; exact Nat.ne_of_lt (blk_lt m0_) : gb101 ≠ gb102)); have n6_ := Ak n5_.out.symm; clear BK101; clear HB; have BK101 := n0_; have HB := n1_; have BK102 := n2_; have GW102 := n3_; have GE102 := n4_; have NB101_102 := n5_; have NB102_101 := n6_; clear n0_ n1_ n2_ n3_ n4_ n5_ n6_; clear hb hbox hg; have hnb7 := NB101_102.out; have hnc7 := NB102_101.out; have hcz8_0 : w6.cell? ⟨gb101, 0, none⟩ = some (.int .i64 a0_0) := (blk_cell BK101.out 0).trans rfl; have hcz8_1 : w6.cell? ⟨gb101, 1, none⟩ = some (.int .i64 a0_1) := (blk_cell BK101.out 1).trans rfl; have hfz8_0 := blk_frozen BK101.out 0; have hfz8_1 := blk_frozen BK101.out 1; have hcz9_0 : w6.cell? ⟨gb102, 0, none⟩ = some (.int .i64 a1_0) := (blk_cell BK102.out 0).trans rfl; have hcz9_1 : w6.cell? ⟨gb102, 1, none⟩ = some (.int .i64 a1_1) := (blk_cell BK102.out 1).trans rfl; have hfz9_0 := blk_frozen BK102.out 0; have hfz9_1 := blk_frozen BK102.out 1) | ((with_reducible refine gate_callee (f := 25) rfl ?_); refine goesL_ (some 10) rfl rfl Try.func25 (by kernel_rfl) rfl #[.agg #[.int .i64 a0_0, .int .i64 a0_1], .agg #[.int .i64 a1_0, .int .i64 a1_1]] rfl (by (try simp only [List.map_toArray, List.map_cons, List.map_nil]); first | done | rfl | (simp only [List.length_drop, List.length_take]; rfl)) ?_; (with_reducible refine (impl_StepsOf.calls k a0_0 a0_1 a1_0 a1_1 t103 _ A3.out).mono ?_); rintro e w10 ⟨rfl, hb⟩; refine ⟨_, rfl, ?_⟩; have n0_ := Ak (blk_below (g := gb101) (o := .cells #[.int .i64 a0_0, .int .i64 a0_1] 27 (0, 0)) (by exact BK101.out) hb); have n1_ := Ak (blk_below (g := gb102) (o := .cells #[.int .i64 a1_0, .int .i64 a1_1] 27 (0, 0)) (by exact BK102.out) hb); have n2_ := Ak (below_step (by repeat (first | exact HB.out | apply bA | apply bD | apply bE | refine below_set ?_ GE101.out | refine below_set ?_ GE102.out)) hb); clear BK101; clear BK102; clear HB; have BK101 := n0_; have BK102 := n1_; have HB := n2_; clear n0_ n1_ n2_; (try clear hb); (try clear hb2); (try clear hk); (try clear hi)))
  go_ret
  exact ⟨_, by first | rfl | (simp [*, errW_none, errW_some] <;> rfl), by first | exact Kd.R_nil _ _ _ _ _ | exact Kd.N_nil _ _ _ _ _ | exact Kd.V_nil _ _ _ _ _ | exact Kd.Q_nil _ _ _ _ _ | exact Kd.S_nil _ _ _ _ _, by repeat (first | (with_reducible first | exact HB.out | apply bA | apply bD | apply bE | refine below_set ?_ GE101.out | refine below_set ?_ GE102.out) | exact HB.out)⟩
 ·rw [if_neg c4] at H; have c4b0 : decide (t103 < 0) = false := decide_eq_false c4; clear c4; obtain ⟨y104, hy104⟩ : ∃ y_ : List (S27), y_ = (([(⟨a0_0, a0_1⟩ : S27)] : List (S27))) := ⟨_, rfl⟩; replace H : (impl_PointsOn.l0 k t103 y104 1 a0_0 a0_1 a1_0 a1_1) = some r := by first | (rw [hy104]; exact H) | exact H
  have Ny104 := Ak hy104; clear hy104; have H' := Ak H; clear H
  go_enter Try.func21, Try.ntmps21
  go_wp2_with (first | ((with_reducible refine gate_dst (N := 2) rfl ?_); refine box_event ?hg (N := 2) ?hd (cs := #[.int .i64 a0_0, .int .i64 a0_1]) (t := 27) ?hr ?_; (case hd | hg => rfl); (case hr => first | (go_simp; done) | (go_simp; rfl)); intro gb101 hg w11 hbox hb; have n0_ := Ak (below_step (by repeat (first | exact HB.out | apply bA | apply bD | apply bE)) hb); have n1_ := Ak (hbox); have n2_ := Ak ((by rw [hg]; exact (below_size (by repeat (first | exact HB.out | apply bA | apply bD | apply bE))) : w.heap.size ≤ gb101)); have n3_ := n2_; clear HB; have HB := n0_; have BK101 := n1_; have GW101 := n2_; have GE101 := n3_; clear n0_ n1_ n2_ n3_; clear hb hbox hg) | ((with_reducible refine gate_dst (N := 3) rfl ?_); refine box_event ?hg (N := 3) ?hd (cs := #[.int .i64 a1_0, .int .i64 a1_1]) (t := 27) ?hr ?_; (case hd | hg => rfl); (case hr => first | (go_simp; done) | (go_simp; rfl)); intro gb102 hg w12 hbox hb; have m0_ := bK (g := gb101) (o := .cells #[.int .i64 a0_0, .int .i64 a0_1] 27 (0, 0)) (by exact BK101.out) hb; have n0_ := Ak (blk_below m0_ hb); have n1_ := Ak (below_step (by repeat (first | exact HB.out | apply bA | apply bD | apply bE | refine below_set ?_ GE101.out)) hb); have n2_ := Ak (hbox); have n3_ := Ak ((by rw [hg]; exact (below_size (by repeat (first | exact HB.out | apply bA | apply bD | apply bE | refine below_set ?_ GE101.out))) : w.heap.size ≤ gb102)); have n4_ := n3_; have n5_ := Ak ((by rw [hg]; exact Nat.ne_of_lt (blk_lt m0_) : gb101 ≠ gb102)); have n6_ := Ak n5_.out.symm; clear BK101; clear HB; have BK101 := n0_; have HB := n1_; have BK102 := n2_; have GW102 := n3_; have GE102 := n4_; have NB101_102 := n5_; have NB102_101 := n6_; clear n0_ n1_ n2_ n3_ n4_ n5_ n6_; clear hb hbox hg; have hnb13 := NB101_102.out; have hnc13 := NB102_101.out; have hcz14_0 : w12.cell? ⟨gb101, 0, none⟩ = some (.int .i64 a0_0) := (blk_cell BK101.out 0).trans rfl; have hcz14_1 : w12.cell? ⟨gb101, 1, none⟩ = some (.int .i64 a0_1) := (blk_cell BK101.out 1).trans rfl; have hfz14_0 := blk_frozen BK101.out 0; have hfz14_1 := blk_frozen BK101.out 1; have hcz15_0 : w12.cell? ⟨gb102, 0, none⟩ = some (.int .i64 a1_0) := (blk_cell BK102.out 0).trans rfl; have hcz15_1 : w12.cell? ⟨gb102, 1, none⟩ = some (.int .i64 a1_1) := (blk_cell BK102.out 1).trans rfl; have hfz15_0 := blk_frozen BK102.out 0; have hfz15_1 := blk_frozen BK102.out 1) | ((with_reducible refine gate_callee (f := 25) rfl ?_); refine goesL_ (some 10) rfl rfl Try.func25 (by kernel_rfl) rfl #[.agg #[.int .i64 a0_0, .int .i64 a0_1], .agg #[.int .i64 a1_0, .int .i64 a1_1]] rfl (by (try simp only [List.map_toArray, List.map_cons, List.map_nil]); first | done | rfl | (simp only [List.length_drop, List.length_take]; rfl)) ?_; (with_reducible refine (impl_StepsOf.calls k a0_0 a0_1 a1_0 a1_1 t103 _ A3.out).mono ?_); rintro e w16 ⟨rfl, hb⟩; refine ⟨_, rfl, ?_⟩; have n0_ := Ak (blk_below (g := gb101) (o := .cells #[.int .i64 a0_0, .int .i64 a0_1] 27 (0, 0)) (by exact BK101.out) hb); have n1_ := Ak (blk_below (g := gb102) (o := .cells #[.int .i64 a1_0, .int .i64 a1_1] 27 (0, 0)) (by exact BK102.out) hb); have n2_ := Ak (below_step (by repeat (first | exact HB.out | apply bA | apply bD | apply bE | refine below_set ?_ GE101.out | refine below_set ?_ GE102.out)) hb); clear BK101; clear BK102; clear HB; have BK101 := n0_; have BK102 := n1_; have HB := n2_; clear n0_ n1_ n2_; (try clear hb); (try clear hb2); (try clear hk); (try clear hi); have hcz17_0 : w16.cell? ⟨gb101, 0, none⟩ = some (.int .i64 a0_0) := (blk_cell BK101.out 0).trans rfl; have hcz17_1 : w16.cell? ⟨gb101, 1, none⟩ = some (.int .i64 a0_1) := (blk_cell BK101.out 1).trans rfl; have hfz17_0 := blk_frozen BK101.out 0; have hfz17_1 := blk_frozen BK101.out 1) | ((with_reducible refine gate_dst (N := 14) rfl ?_); refine Kd.R_lit k27 _ 27 ?hg (N := 14) ?hd (xs := ([(⟨a0_0, a0_1⟩ : S27)] : List (S27))) (inner := [.int .i64 a0_0, .int .i64 a0_1]) (ok := fun _ => True) (okp := fun _ => True) ?hr ?hp (fun _ hk => hk) trivial (Below.refl _ _) (Nat.le_refl _) (by simp) ?_; (case hd | hg => rfl); (case hr => first | (go_simp; done) | (go_simp; rfl)); (case hp => exact (Reps.c2 (show Kd.M k27 _ _ _ (⟨a0_0, a0_1⟩ : S27) [.int .i64 a0_0, .int .i64 a0_1] from (k27_mkM _ _ _ (⟨a0_0, a0_1⟩ : S27) )) (Reps.none _ _))); intro v105 w18 ho19 hb hg_ hnew_; clear hg_ hnew_; (first | rw [← Ny104.out] at ho19 | (simp only [Int.reduceToNat] at ho19; rw [← Ny104.out] at ho19)); have n0_ := Ak (Kd.R_lower (Kd.R_newB (Kd.R_newB ho19 (g := gb101) (o := .cells #[.int .i64 a0_0, .int .i64 a0_1] 27 (0, 0)) (by exact BK101.out)) (g := gb102) (o := .cells #[.int .i64 a1_0, .int .i64 a1_1] 27 (0, 0)) (by exact BK102.out)) (below_size (by repeat (first | exact HB.out | apply bA | apply bD | apply bE | refine below_set ?_ GE101.out | refine below_set ?_ GE102.out)))); have n1_ := Ak (blk_below (g := gb101) (o := .cells #[.int .i64 a0_0, .int .i64 a0_1] 27 (0, 0)) (by exact BK101.out) hb); have n2_ := Ak (blk_below (g := gb102) (o := .cells #[.int .i64 a1_0, .int .i64 a1_1] 27 (0, 0)) (by exact BK102.out) hb); have n3_ := Ak (below_step (by repeat (first | exact HB.out | apply bA | apply bD | apply bE | refine below_set ?_ GE101.out | refine below_set ?_ GE102.out)) hb); clear BK101; clear BK102; clear HB; have HO106 := n0_; have BK101 := n1_; have BK102 := n2_; have HB := n3_; clear n0_ n1_ n2_ n3_; clear hb ho19))
  go_loopg [6, 7] k (fun kq v6 v7 w' => ∃ (x6_1 : List (S27)) (x7_1 : Int), v7 = .int .i64 x7_1 ∧ Aside0 (impl_PointsOn.l0 kq t103 x6_1 x7_1 a0_0 a0_1 a1_0 a1_1 = some r) ∧ Aside0 (kq ≤ k) ∧ Aside0 (Kd.R k27 27 w' w.heap.size (fun k_ => k_ ≠ gb101 ∧ k_ ≠ gb102) v6 x6_1) ∧ Aside0 (w'.heap[gb101]? = some (.cells #[.int .i64 a0_0, .int .i64 a0_1] 27 (0, 0))) ∧ Aside0 (w'.heap[gb102]? = some (.cells #[.int .i64 a1_0, .int .i64 a1_1] 27 (0, 0))) ∧ Aside0 (Below w.heap.size w w'))
  case atStart => exact ⟨(y104), (1), (by first | rfl | (simp; done) | (simp [*]; done)), H', ⟨Nat.le_refl _⟩, ⟨by (with_reducible repeat (first | apply Kd.R_alloc | apply Kd.R_drewN | apply Kd.R_drew)); exact Kd.R_mono HO106.out (fun _ hk => ⟨hk.1.2, hk.2⟩)⟩, ⟨by exact BK101.out⟩, ⟨by exact BK102.out⟩, ⟨by repeat (first | (with_reducible first | exact HB.out | apply bA | apply bD | apply bE | refine below_set ?_ GE101.out | refine below_set ?_ GE102.out) | exact HB.out)⟩⟩
  case round =>
   clear H'
   try clear c1
   try clear c2
   try clear p2
   try clear c4
   try clear c4b0
   try clear c7
   try clear c13
   try clear hcz14_0
   try clear hcz14_1
   try clear hcz15_0
   try clear hcz15_1
   try clear hcz17_0
   try clear hcz17_1
   try clear hcz8_0
   try clear hcz8_1
   try clear hcz9_0
   try clear hcz9_1
   try clear hfz14_0
   try clear hfz14_1
   try clear hfz15_0
   try clear hfz15_1
   try clear hfz17_0
   try clear hfz17_1
   try clear hfz8_0
   try clear hfz8_1
   try clear hfz9_0
   try clear hfz9_1
   obtain ⟨x6_1, x7_1, rfl, HA, HK1, HO_6, BK101, BK102, HB⟩ := hrel
   cases gk with
   | zero => exact absurd HA.out (by simp [impl_PointsOn.l0])
   | succ k1 =>
    have H := HA.out; clear HA; simp only [impl_PointsOn.l0] at H
    by_cases c20 : x7_1 ≤ t103
    ·rw [if_pos c20] at H; have c20b0 : decide (x7_1 ≤ t103) = true := decide_eq_true c20; clear c20
     by_cases c21 : t103 = 0
     ·rw [if_pos c21] at H; exact absurd H (by simp)
     ·rw [if_neg c21] at H; have c21b0 : (t103 == 0) = false := beq_eq_false_iff_ne.mpr c21; have c21b1 : (t103 != 0) = true := bne_iff_ne.mpr c21
      by_cases c22 : x6_1.length < 8796093022208
      ·rw [if_pos c22] at H; have LMc22 := Ak c22; clear c22; obtain ⟨y107, hy107⟩ : ∃ y_ : List (S27), y_ = (x6_1 ++ [(⟨wrap64 (a0_0 + (wrap64 ((wrap64 (Int.tdiv (wrap64 (a1_0 - a0_0)) t103)) * x7_1))), wrap64 (a0_1 + (wrap64 ((wrap64 (Int.tdiv (wrap64 (a1_1 - a0_1)) t103)) * x7_1)))⟩ : S27)]) := ⟨_, rfl⟩; replace H : (impl_PointsOn.l0 k1 t103 y107 (wrap64 (x7_1 + 1)) a0_0 a0_1 a1_0 a1_1) = some r := by first | (rw [hy107]; exact H) | exact H
       have Ny107 := Ak hy107; clear hy107; have H' := Ak H; clear H
       try go_wp2
       have n0_ := Ak (Kd.R_drew HO_6.out); have n1_ := Ak (blk_drew BK101.out); have n2_ := Ak (blk_drew BK102.out); have n3_ := Ak (below_drew1 HB.out); clear HO_6 BK101 BK102 HB; have HO_6 := n0_; have BK101 := n1_; have BK102 := n2_; have HB := n3_; clear n0_ n1_ n2_ n3_; refine start_ (n := 29) (S := fun w' => w'.cell? ⟨gb101, 0, none⟩ = some (.int .i64 a0_0) ∧ w'.cell? ⟨gb101, 1, none⟩ = some (.int .i64 a0_1) ∧ w'.cell? ⟨gb102, 0, none⟩ = some (.int .i64 a1_0) ∧ w'.cell? ⟨gb102, 1, none⟩ = some (.int .i64 a1_1)) (ds := []) #[F,F,F,F,F,F,F,F,F,F,F,F,F,F,F,F,F,F,F,F,F,F,F,F,F,F,F,F,F] (by kernel_rfl) rfl rfl ⟨(blk_cell BK101.out 0).trans rfl, (blk_cell BK101.out 1).trans rfl, (blk_cell BK102.out 0).trans rfl, (blk_cell BK102.out 1).trans rfl⟩ (fun hHeld => ?_); refine with_tabW impl_PointsOn.tab8 impl_PointsOn.bits8 (fun HT_ HW_ => ?_); generalize wr.drew = w23 at HO_6 BK101 BK102 HB hHeld ⊢; refine pure_ (i := 0) (N := some 20) (v := ?_) (a' := ?_) #[T,F,F,F,F,F,F,F,F,F,F,F,F,F,F,F,F,F,F,F,F,F,F,F,F,F,F,F,F] rfl rfl (any_of HT_.out (by kernel_rfl)) (fun _ _ _ h => h) (Or.inl ⟨by rfl, ?_⟩) ?_ ?_; rotate_left
       ·intro w'; go_simp; with_reducible rfl
       rotate_left
       ·simp only [Act.put, sA, sB, sC, sD, sE]; rfl
       refine pure_ (i := 1) (N := some 21) (v := ?_) (a' := ?_) #[T,T,F,F,F,F,F,F,F,F,F,F,F,F,F,F,F,F,F,F,F,F,F,F,F,F,F,F,F] rfl rfl (any_of HT_.out (by kernel_rfl)) (fun _ _ _ h => h) (Or.inl ⟨by rfl, ?_⟩) ?_ ?_; rotate_left
       ·intro w'; go_simp; with_reducible rfl
       rotate_left
       ·simp only [Act.put, sA, sB, sC, sD, sE]; rfl
       refine pure_ (i := 3) (N := some 23) (v := ?_) (a' := ?_) #[T,T,F,T,F,F,F,F,F,F,F,F,F,F,F,F,F,F,F,F,F,F,F,F,F,F,F,F,F] rfl rfl (any_of HT_.out (by kernel_rfl)) (fun _ _ _ h => h) (Or.inl ⟨by rfl, ?_⟩) ?_ ?_; rotate_left
       ·intro w'; go_simp; with_reducible rfl
       rotate_left
       ·simp only [Act.put, sA, sB, sC, sD, sE]; rfl
       refine pure_ (i := 5) (N := some 25) (v := ?_) (a' := ?_) #[T,T,F,T,F,T,F,F,F,F,F,F,F,F,F,F,F,F,F,F,F,F,F,F,F,F,F,F,F] rfl rfl (any_of HT_.out (by kernel_rfl)) (fun _ _ _ h => h) (Or.inl ⟨by rfl, ?_⟩) ?_ ?_; rotate_left
       ·intro w'; go_simp; with_reducible rfl
       rotate_left
       ·simp only [Act.put, sA, sB, sC, sD, sE]; rfl
       refine pure_ (i := 8) (N := some 28) (v := ?_) (a' := ?_) #[T,T,F,T,F,T,F,F,T,F,F,F,F,F,F,F,F,F,F,F,F,F,F,F,F,F,F,F,F] rfl rfl (any_of HT_.out (by kernel_rfl)) (fun _ _ _ h => h) (Or.inl ⟨by rfl, ?_⟩) ?_ ?_; rotate_left
       ·intro w'; go_simp; with_reducible rfl
       rotate_left
       ·simp only [Act.put, sA, sB, sC, sD, sE]; rfl
       refine pure_ (i := 10) (N := some 30) (v := ?_) (a' := ?_) #[T,T,F,T,F,T,F,F,T,F,T,F,F,F,F,F,F,F,F,F,F,F,F,F,F,F,F,F,F] rfl rfl (any_of HT_.out (by kernel_rfl)) (fun _ _ _ h => h) (Or.inl ⟨by rfl, ?_⟩) ?_ ?_; rotate_left
       ·intro w'; go_simp; with_reducible rfl
       rotate_left
       ·simp only [Act.put, sA, sB, sC, sD, sE]; rfl
       refine pure_ (i := 13) (N := some 33) (v := ?_) (a' := ?_) #[T,T,F,T,F,T,F,F,T,F,T,F,F,T,F,F,F,F,F,F,F,F,F,F,F,F,F,F,F] rfl rfl (any_of HT_.out (by kernel_rfl)) (fun _ _ _ h => h) (Or.inl ⟨by rfl, ?_⟩) ?_ ?_; rotate_left
       ·intro w'; go_simp; with_reducible rfl
       rotate_left
       ·simp only [Act.put, sA, sB, sC, sD, sE]; rfl
       refine pure_ (i := 15) (N := some 35) (v := ?_) (a' := ?_) #[T,T,F,T,F,T,F,F,T,F,T,F,F,T,F,T,F,F,F,F,F,F,F,F,F,F,F,F,F] rfl rfl (any_of HT_.out (by kernel_rfl)) (fun _ _ _ h => h) (Or.inl ⟨by rfl, ?_⟩) ?_ ?_; rotate_left
       ·intro w'; go_simp; with_reducible rfl
       rotate_left
       ·simp only [Act.put, sA, sB, sC, sD, sE]; rfl
       refine pure_ (i := 17) (N := some 37) (v := ?_) (a' := ?_) #[T,T,F,T,F,T,F,F,T,F,T,F,F,T,F,T,F,T,F,F,F,F,F,F,F,F,F,F,F] rfl rfl (any_of HT_.out (by kernel_rfl)) (fun _ _ _ h => h) (Or.inl ⟨by rfl, ?_⟩) ?_ ?_; rotate_left
       ·intro w'; go_simp; with_reducible rfl
       rotate_left
       ·simp only [Act.put, sA, sB, sC, sD, sE]; rfl
       refine pure_ (i := 20) (N := some 40) (v := ?_) (a' := ?_) #[T,T,F,T,F,T,F,F,T,F,T,F,F,T,F,T,F,T,F,F,T,F,F,F,F,F,F,F,F] rfl rfl (any_of HT_.out (by kernel_rfl)) (fun _ _ _ h => h) (Or.inl ⟨by rfl, ?_⟩) ?_ ?_; rotate_left
       ·intro w'; go_simp; with_reducible rfl
       rotate_left
       ·simp only [Act.put, sA, sB, sC, sD, sE]; rfl
       refine pure_ (i := 22) (N := some 42) (v := ?_) (a' := ?_) #[T,T,F,T,F,T,F,F,T,F,T,F,F,T,F,T,F,T,F,F,T,F,T,F,F,F,F,F,F] rfl rfl (any_of HT_.out (by kernel_rfl)) (fun _ _ _ h => h) (Or.inl ⟨by rfl, ?_⟩) ?_ ?_; rotate_left
       ·intro w'; go_simp; with_reducible rfl
       rotate_left
       ·simp only [Act.put, sA, sB, sC, sD, sE]; rfl
       refine take_ (i := 2) (N := some 22) (v := ?_) (a' := ?_) #[T,T,T,T,F,T,F,F,T,F,T,F,F,T,F,T,F,T,F,F,T,F,T,F,F,F,F,F,F] rfl rfl (take_ofW HT_.out HW_.out (by kernel_rfl)) (fun _ _ _ h => h) (Or.inl ⟨by rfl, ?_⟩) hHeld ?_ ?_; rotate_left
       ·rintro w' ⟨s0, s1, s2, s3⟩; go_simp; with_reducible rfl
       rotate_left
       ·simp only [Act.put, sA, sB, sC, sD, sE]; rfl
       refine take_ (i := 4) (N := some 24) (v := ?_) (a' := ?_) #[T,T,T,T,T,T,F,F,T,F,T,F,F,T,F,T,F,T,F,F,T,F,T,F,F,F,F,F,F] rfl rfl (take_ofW HT_.out HW_.out (by kernel_rfl)) (fun _ _ _ h => h) (Or.inl ⟨by rfl, ?_⟩) hHeld ?_ ?_; rotate_left
       ·rintro w' ⟨s0, s1, s2, s3⟩; go_simp; with_reducible rfl
       rotate_left
       ·simp only [Act.put, sA, sB, sC, sD, sE]; rfl
       refine take_ (i := 6) (N := some 26) (v := ?_) (a' := ?_) #[T,T,T,T,T,T,T,F,T,F,T,F,F,T,F,T,F,T,F,F,T,F,T,F,F,F,F,F,F] rfl rfl (take_ofW HT_.out HW_.out (by kernel_rfl)) (fun _ _ _ h => h) (Or.inl ⟨by rfl, ?_⟩) hHeld ?_ ?_; rotate_left
       ·rintro w' ⟨s0, s1, s2, s3⟩; go_simp; with_reducible rfl
       rotate_left
       ·simp only [Act.put, sA, sB, sC, sD, sE]; rfl
       refine pure_ (i := 7) (N := some 27) (v := ?_) (a' := ?_) #[T,T,T,T,T,T,T,T,T,F,T,F,F,T,F,T,F,T,F,F,T,F,T,F,F,F,F,F,F] rfl rfl (any_of HT_.out (by kernel_rfl)) (fun _ _ _ h => h) (Or.inl ⟨by rfl, ?_⟩) ?_ ?_; rotate_left
       ·intro w'; go_simp; with_reducible rfl
       rotate_left
       ·simp only [Act.put, sA, sB, sC, sD, sE]; rfl
       refine pure_ (i := 9) (N := some 29) (v := ?_) (a' := ?_) #[T,T,T,T,T,T,T,T,T,T,T,F,F,T,F,T,F,T,F,F,T,F,T,F,F,F,F,F,F] rfl rfl (any_of HT_.out (by kernel_rfl)) (fun _ _ _ h => h) (Or.inl ⟨by rfl, ?_⟩) ?_ ?_; rotate_left
       ·intro w'; go_simp; with_reducible rfl
       rotate_left
       ·simp only [Act.put, sA, sB, sC, sD, sE]; rfl
       refine pure_ (i := 11) (N := some 31) (v := ?_) (a' := ?_) #[T,T,T,T,T,T,T,T,T,T,T,T,F,T,F,T,F,T,F,F,T,F,T,F,F,F,F,F,F] rfl rfl (any_of HT_.out (by kernel_rfl)) (fun _ _ _ h => h) (Or.inl ⟨by rfl, ?_⟩) ?_ ?_; rotate_left
       ·intro w'; go_simp; with_reducible rfl
       rotate_left
       ·simp only [Act.put, sA, sB, sC, sD, sE]; rfl
       refine pure_ (i := 12) (N := some 32) (v := ?_) (a' := ?_) #[T,T,T,T,T,T,T,T,T,T,T,T,T,T,F,T,F,T,F,F,T,F,T,F,F,F,F,F,F] rfl rfl (any_of HT_.out (by kernel_rfl)) (fun _ _ _ h => h) (Or.inl ⟨by rfl, ?_⟩) ?_ ?_; rotate_left
       ·intro w'; go_simp; with_reducible rfl
       rotate_left
       ·simp only [Act.put, sA, sB, sC, sD, sE]; rfl
       refine take_ (i := 14) (N := some 34) (v := ?_) (a' := ?_) #[T,T,T,T,T,T,T,T,T,T,T,T,T,T,T,T,F,T,F,F,T,F,T,F,F,F,F,F,F] rfl rfl (take_ofW HT_.out HW_.out (by kernel_rfl)) (fun _ _ _ h => h) (Or.inl ⟨by rfl, ?_⟩) hHeld ?_ ?_; rotate_left
       ·rintro w' ⟨s0, s1, s2, s3⟩; go_simp; with_reducible rfl
       rotate_left
       ·simp only [Act.put, sA, sB, sC, sD, sE]; rfl
       refine take_ (i := 16) (N := some 36) (v := ?_) (a' := ?_) #[T,T,T,T,T,T,T,T,T,T,T,T,T,T,T,T,T,T,F,F,T,F,T,F,F,F,F,F,F] rfl rfl (take_ofW HT_.out HW_.out (by kernel_rfl)) (fun _ _ _ h => h) (Or.inl ⟨by rfl, ?_⟩) hHeld ?_ ?_; rotate_left
       ·rintro w' ⟨s0, s1, s2, s3⟩; go_simp; with_reducible rfl
       rotate_left
       ·simp only [Act.put, sA, sB, sC, sD, sE]; rfl
       refine take_ (i := 18) (N := some 38) (v := ?_) (a' := ?_) #[T,T,T,T,T,T,T,T,T,T,T,T,T,T,T,T,T,T,T,F,T,F,T,F,F,F,F,F,F] rfl rfl (take_ofW HT_.out HW_.out (by kernel_rfl)) (fun _ _ _ h => h) (Or.inl ⟨by rfl, ?_⟩) hHeld ?_ ?_; rotate_left
       ·rintro w' ⟨s0, s1, s2, s3⟩; go_simp; with_reducible rfl
       rotate_left
       ·simp only [Act.put, sA, sB, sC, sD, sE]; rfl
       refine pure_ (i := 19) (N := some 39) (v := ?_) (a' := ?_) #[T,T,T,T,T,T,T,T,T,T,T,T,T,T,T,T,T,T,T,T,T,F,T,F,F,F,F,F,F] rfl rfl (any_of HT_.out (by kernel_rfl)) (fun _ _ _ h => h) (Or.inl ⟨by rfl, ?_⟩) ?_ ?_; rotate_left
       ·intro w'; go_simp; with_reducible rfl
       rotate_left
       ·simp only [Act.put, sA, sB, sC, sD, sE]; rfl
       refine pure_ (i := 21) (N := some 41) (v := ?_) (a' := ?_) #[T,T,T,T,T,T,T,T,T,T,T,T,T,T,T,T,T,T,T,T,T,T,T,F,F,F,F,F,F] rfl rfl (any_of HT_.out (by kernel_rfl)) (fun _ _ _ h => h) (Or.inl ⟨by rfl, ?_⟩) ?_ ?_; rotate_left
       ·intro w'; go_simp; with_reducible rfl
       rotate_left
       ·simp only [Act.put, sA, sB, sC, sD, sE]; rfl
       refine pure_ (i := 23) (N := some 43) (v := ?_) (a' := ?_) #[T,T,T,T,T,T,T,T,T,T,T,T,T,T,T,T,T,T,T,T,T,T,T,T,F,F,F,F,F] rfl rfl (any_of HT_.out (by kernel_rfl)) (fun _ _ _ h => h) (Or.inl ⟨by rfl, ?_⟩) ?_ ?_; rotate_left
       ·intro w'; go_simp; with_reducible rfl
       rotate_left
       ·simp only [Act.put, sA, sB, sC, sD, sE]; rfl
       refine pure_ (i := 24) (N := some 44) (v := ?_) (a' := ?_) #[T,T,T,T,T,T,T,T,T,T,T,T,T,T,T,T,T,T,T,T,T,T,T,T,T,F,F,F,F] rfl rfl (any_of HT_.out (by kernel_rfl)) (fun _ _ _ h => h) (Or.inl ⟨by rfl, ?_⟩) ?_ ?_; rotate_left
       ·intro w'; go_simp; with_reducible rfl
       rotate_left
       ·simp only [Act.put, sA, sB, sC, sD, sE]; rfl
       refine pure_ (i := 25) (N := some 45) (v := ?_) (a' := ?_) #[T,T,T,T,T,T,T,T,T,T,T,T,T,T,T,T,T,T,T,T,T,T,T,T,T,T,F,F,F] rfl rfl (any_of HT_.out (by kernel_rfl)) (fun _ _ _ h => h) (Or.inl ⟨by rfl, ?_⟩) ?_ ?_; rotate_left
       ·intro w'; go_simp; with_reducible rfl
       rotate_left
       ·simp only [Act.put, sA, sB, sC, sD, sE]; rfl
       refine one_ (i := 26) (N := some 46) #[T,T,T,T,T,T,T,T,T,T,T,T,T,T,T,T,T,T,T,T,T,T,T,T,T,T,T,F,F] rfl rfl (one_of HT_.out (by kernel_rfl)) (by decide) (fun K hK => ?_); refine value_ (w1 := ?_) (v := ?_) (by rfl) rfl ?_ ?_; rotate_left 2
       ·go_simp
        constructor
        ·rfl
        ·rfl
       refine hK.out _ _ ⟨(blk_cell (blk_alloc BK101.out _) 0).trans rfl, (blk_cell (blk_alloc BK101.out _) 1).trans rfl, (blk_cell (blk_alloc BK102.out _) 0).trans rfl, (blk_cell (blk_alloc BK102.out _) 1).trans rfl⟩ (fun hHeld => ?_); clear hK K; refine norm_ (a' := ?_) ?_ ?_; rotate_left
       ·show Act.put _ (some 46) _ = _; simp only [Act.put, sA, sB, sC, sD, sE]; rfl
       refine one_ (i := 27) (N := some 47) #[T,T,T,T,T,T,T,T,T,T,T,T,T,T,T,T,T,T,T,T,T,T,T,T,T,T,T,T,F] rfl rfl (one_of HT_.out (by kernel_rfl)) (by decide) (fun K hK => ?_); refine Kd.R_append_step k27 (w0 := w) w.heap.size (by rfl) (.tmp 20) (.tmp 46) 23 27 (.agg #[(.int .i64 0), (.int .i64 0)]) 16 rfl Try.underlying23 info27 rfl (by decide) (by omega) u6 x6_1 (⟨wrap64 (a0_0 + (wrap64 ((wrap64 (Int.tdiv (wrap64 (a1_0 - a0_0)) t103)) * x7_1))), wrap64 (a0_1 + (wrap64 ((wrap64 (Int.tdiv (wrap64 (a1_1 - a0_1)) t103)) * x7_1)))⟩ : S27) [.int .i64 (wrap64 (a0_0 + (wrap64 ((wrap64 (Int.tdiv (wrap64 (a1_0 - a0_0)) t103)) * x7_1)))), .int .i64 (wrap64 (a0_1 + (wrap64 ((wrap64 (Int.tdiv (wrap64 (a1_1 - a0_1)) t103)) * x7_1))))] (fun k_ => k_ ≠ gb101 ∧ k_ ≠ gb102) (fun _ => False) rfl rfl ?aP (fun _ hk => hk.elim) ?aF ?aO ?aB ?aS ?aL ?_
       (case aP => exact k27_mkM _ _ _ (⟨wrap64 (a0_0 + (wrap64 ((wrap64 (Int.tdiv (wrap64 (a1_0 - a0_0)) t103)) * x7_1))), wrap64 (a0_1 + (wrap64 ((wrap64 (Int.tdiv (wrap64 (a1_1 - a0_1)) t103)) * x7_1)))⟩ : S27))
       (case aB => exact (by repeat (first | exact HB.out | apply bA | apply bD | apply bE | refine below_set ?_ GE101.out | refine below_set ?_ GE102.out)))
       (case aF => exact (fun k_ hk => ⟨Kd.freshB (g := gb101) (o := .cells #[.int .i64 a0_0, .int .i64 a0_1] 27 (0, 0)) (by exact BK101.out) k_ hk, Kd.freshB (g := gb102) (o := .cells #[.int .i64 a1_0, .int .i64 a1_1] 27 (0, 0)) (by exact BK102.out) k_ hk⟩))
       (case aO => exact (by (with_reducible repeat (first | apply Kd.R_alloc | apply Kd.R_drewN | apply Kd.R_drew)); exact HO_6.out))
       (case aS => exact (below_size (by repeat (first | exact HB.out | apply bA | apply bD | apply bE | refine below_set ?_ GE101.out | refine below_set ?_ GE102.out))))
       (case aL => have := LMc22.out; omega)
       intro v108 w24 ho hb hg hat; rw [← Ny107.out] at ho; have n0_ := Ak (blk_grown (g := gb101) (o := .cells #[.int .i64 a0_0, .int .i64 a0_1] 27 (0, 0)) (by exact BK101.out) hg (Kd.R_away HO_6.out (fun _ hk => hk.1))); have n1_ := Ak (blk_grown (g := gb102) (o := .cells #[.int .i64 a1_0, .int .i64 a1_1] 27 (0, 0)) (by exact BK102.out) hg (Kd.R_away HO_6.out (fun _ hk => hk.2))); have n2_ := Ak (hb); have n3_ := Ak (ho); clear BK101 BK102 HB HO_6; have BK101 := n0_; have BK102 := n1_; have HB := n2_; have HO109 := n3_; clear n0_ n1_ n2_ n3_ ho hb hg hat; refine hK.out _ _ ⟨(blk_cell BK101.out 0).trans rfl, (blk_cell BK101.out 1).trans rfl, (blk_cell BK102.out 0).trans rfl, (blk_cell BK102.out 1).trans rfl⟩ (fun hHeld => ?_); clear hK K; refine norm_ (a' := ?_) ?_ ?_; rotate_left
       ·show Act.put _ (some 47) _ = _; simp only [Act.put, sA, sB, sC, sD, sE]; rfl
       refine pure_ (i := 28) (N := some 6) (v := ?_) (a' := ?_) #[T,T,T,T,T,T,T,T,T,T,T,T,T,T,T,T,T,T,T,T,T,T,T,T,T,T,T,T,T] rfl rfl (any_of HT_.out (by kernel_rfl)) (fun _ _ _ h => h) (Or.inl ⟨by rfl, ?_⟩) ?_ ?_; rotate_left
       ·intro w'; go_simp; with_reducible rfl
       rotate_left
       ·simp only [Act.put, sA, sB, sC, sD, sE]; rfl
       refine done_ (done_of HT_.out (by kernel_rfl)) ?_
       try go_wp2
       go_roundg k1
       case measure => have := HK1.out; omega
       case rel => exact ⟨(y107), (wrap64 (x7_1 + 1)), (by first | rfl | (simp; done) | (simp [*]; done)), H', ⟨by have := HK1.out; omega⟩, ⟨by (with_reducible repeat (first | apply Kd.R_alloc | apply Kd.R_drewN | apply Kd.R_drew)); exact HO109.out⟩, ⟨by exact BK101.out⟩, ⟨by exact BK102.out⟩, ⟨by repeat (first | (with_reducible first | exact HB.out | apply bA | apply bD | apply bE | refine below_set ?_ GE101.out | refine below_set ?_ GE102.out) | exact HB.out)⟩⟩
      ·rw [if_neg c22] at H; exact absurd H (by simp)
    ·rw [if_neg c20] at H; have c20b0 : decide (x7_1 ≤ t103) = false := decide_eq_false c20; clear c20; obtain rfl := Option.some.inj H
     go_wp2
     go_ret
     exact ⟨_, by first | rfl | (simp [*, errW_none, errW_some] <;> rfl), by (with_reducible repeat (first | apply Kd.R_alloc | apply Kd.R_drewN | apply Kd.R_drew)); exact Kd.R_mono HO_6.out (fun _ hk => trivial), by repeat (first | (with_reducible first | exact HB.out | apply bA | apply bD | apply bE | refine below_set ?_ GE101.out | refine below_set ?_ GE102.out) | exact HB.out)⟩

end Go.Proofs.Ytlccpkggdmngaaa.G
