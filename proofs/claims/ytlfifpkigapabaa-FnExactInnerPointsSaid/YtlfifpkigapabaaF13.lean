/- A Go function as a plain Lean function, and the proof that Go's call comes to its answer. No conditions but those in the theorem. Written by gen.py (a program of this session over the kit's print). -/
-- SHRUNK by pack.py
import Derived.Test.YtlfifpkigapabaaG0
import Derived.Test.YtlfifpkigapabaaF29
import Derived.Test.YtlfifpkigapabaaF30
import Derived.Test.YtlfifpkigapabaaF31
namespace Go.Proofs.Ytlfifpkigapabaa.G
open Go.RowKit Go.Proofs.YtlfifpkigapabaaW.PrintWords Go.Proofs.YtlfifpkigapabaaW.PrintLast Go.Proofs.YtlfifpkigapabaaW.PrintMore Go.Proofs.YtlfifpkigapabaaW.PrintBits
attribute [local go_sem] max2_int min2_int max_two min_two max_three min_three max_four min_four   -- for this text's walks alone
set_option linter.unusedVariables false
set_option linter.unusedSimpArgs false

/-! ### spec_InnerPoints: function 13 -/
mutual
def spec_InnerPoints.l0 : Nat → List (S38) → Int → Int → Int → Int → Int → Int → Option (Int)
 | 0, _, _, _, _, _, _, _ => none
 | k + 1, x0, x6, x7, x107000, x107001, x108000, x108001 => if x7 ≤ x108001 then (spec_InnerPoints.l1 k x0 x6 x7 x107000 x107000 x107001 x108000 x108001) else (some x6)
def spec_InnerPoints.l1 : Nat → List (S38) → Int → Int → Int → Int → Int → Int → Int → Option (Int)
 | 0, _, _, _, _, _, _, _, _ => none
 | k + 1, x0, x6, x7, x8, x107000, x107001, x108000, x108001 => if x8 ≤ x108000 then ((spec_l03OnRim.f k x0 x8 x7).bind fun t109 => (if t109 = true then (spec_InnerPoints.l1 k x0 x6 x7 (wrap64 (x8 + 1)) x107000 x107001 x108000 x108001) else ((spec_l03Inside.f k x0 x8 x7).bind fun t110 => (if t110 = true then (spec_InnerPoints.l1 k x0 (wrap64 (x6 + 1)) x7 (wrap64 (x8 + 1)) x107000 x107001 x108000 x108001) else (spec_InnerPoints.l1 k x0 x6 x7 (wrap64 (x8 + 1)) x107000 x107001 x108000 x108001))))) else (spec_InnerPoints.l0 k x0 x6 (wrap64 (x7 + 1)) x107000 x107001 x108000 x108001)
end
def spec_InnerPoints.f (k : Nat) (l0 : List (S38)) : Option (Int) := (spec_BoxOf.f k l0).bind fun bt101 => (if bt101.2.2.2.2 = true then (spec_InnerPoints.l0 k l0 0 bt101.2.1 bt101.1 bt101.2.1 bt101.2.2.1 bt101.2.2.2.1) else (some (-1)))
theorem spec_InnerPoints.mono_l : ∀ k, (∀ y0 y1 y2 y3 y4 y5 y6, LeO (spec_InnerPoints.l0 k y0 y1 y2 y3 y4 y5 y6) (spec_InnerPoints.l0 (k + 1) y0 y1 y2 y3 y4 y5 y6)) ∧ (∀ y0 y1 y2 y3 y4 y5 y6 y7, LeO (spec_InnerPoints.l1 k y0 y1 y2 y3 y4 y5 y6 y7) (spec_InnerPoints.l1 (k + 1) y0 y1 y2 y3 y4 y5 y6 y7))
 | 0 => ⟨fun _ _ _ _ _ _ _ r h => by simp [spec_InnerPoints.l0] at h, fun _ _ _ _ _ _ _ _ r h => by simp [spec_InnerPoints.l1] at h⟩
 | k + 1 => by
  obtain ⟨ih0, ih1⟩ := spec_InnerPoints.mono_l k
  refine ⟨?_, ?_⟩
  ·intro y0 y1 y2 y3 y4 y5 y6
   unfold spec_InnerPoints.l0
   repeat' first
   | (with_reducible exact ih0 _ _ _ _ _ _ _)
   | (with_reducible exact ih1 _ _ _ _ _ _ _ _)
   | (with_reducible exact spec_BoxOf.mono _ _)
   | (with_reducible exact spec_l03Inside.mono _ _ _ _)
   | (with_reducible exact spec_l03OnRim.mono _ _ _ _)
   | (with_reducible exact LeO.refl _)
   | (with_reducible exact LeO.none _)
   | (with_reducible refine LeO.ite ?_ ?_)
   | (with_reducible refine LeO.bind ?_ (fun _ => ?_))
   | exact ih0 _ _ _ _ _ _ _
   | exact ih1 _ _ _ _ _ _ _ _
   | exact spec_BoxOf.mono _ _
   | exact spec_l03Inside.mono _ _ _ _
   | exact spec_l03OnRim.mono _ _ _ _
   | exact LeO.none _
   | refine LeO.ite ?_ ?_
   | refine LeO.bind ?_ (fun _ => ?_)
  ·intro y0 y1 y2 y3 y4 y5 y6 y7
   unfold spec_InnerPoints.l1
   repeat' first
   | (with_reducible exact ih0 _ _ _ _ _ _ _)
   | (with_reducible exact ih1 _ _ _ _ _ _ _ _)
   | (with_reducible exact spec_BoxOf.mono _ _)
   | (with_reducible exact spec_l03Inside.mono _ _ _ _)
   | (with_reducible exact spec_l03OnRim.mono _ _ _ _)
   | (with_reducible exact LeO.refl _)
   | (with_reducible exact LeO.none _)
   | (with_reducible refine LeO.ite ?_ ?_)
   | (with_reducible refine LeO.bind ?_ (fun _ => ?_))
   | exact ih0 _ _ _ _ _ _ _
   | exact ih1 _ _ _ _ _ _ _ _
   | exact spec_BoxOf.mono _ _
   | exact spec_l03Inside.mono _ _ _ _
   | exact spec_l03OnRim.mono _ _ _ _
   | exact LeO.none _
   | refine LeO.ite ?_ ?_
   | refine LeO.bind ?_ (fun _ => ?_)
theorem spec_InnerPoints.mono : ∀ a0 k, LeO (spec_InnerPoints.f k a0) (spec_InnerPoints.f (k + 1) a0) := by
 intro a0 k
 obtain ⟨ih0, ih1⟩ := spec_InnerPoints.mono_l k
 unfold spec_InnerPoints.f
 repeat' first
   | (with_reducible exact ih0 _ _ _ _ _ _ _)
   | (with_reducible exact ih1 _ _ _ _ _ _ _ _)
   | (with_reducible exact spec_BoxOf.mono _ _)
   | (with_reducible exact spec_l03Inside.mono _ _ _ _)
   | (with_reducible exact spec_l03OnRim.mono _ _ _ _)
   | (with_reducible exact LeO.refl _)
   | (with_reducible exact LeO.none _)
   | (with_reducible refine LeO.ite ?_ ?_)
   | (with_reducible refine LeO.bind ?_ (fun _ => ?_))
   | exact ih0 _ _ _ _ _ _ _
   | exact ih1 _ _ _ _ _ _ _ _
   | exact spec_BoxOf.mono _ _
   | exact spec_l03Inside.mono _ _ _ _
   | exact spec_l03OnRim.mono _ _ _ _
   | exact LeO.none _
   | refine LeO.ite ?_ ?_
   | refine LeO.bind ?_ (fun _ => ?_)
set_option maxHeartbeats 8000000 in
set_option maxRecDepth 100000 in
theorem spec_InnerPoints.calls (k : Nat) (A0 : Option Addr) (c0 : Nat) (l0 : List (S38)) (r : Int) (w : World) (hr0 : Kd.C k38 w A0 l0.length l0) (hc0 : l0.length ≤ c0) (h : spec_InnerPoints.f k l0 = some r) :
  Calls Try.prog 13 #[.slice A0 l0.length c0] w fun e w' => e = .returned (.int .i64 r) ∧ Below w.heap.size w w' := by
 have hu38 := Try.underlying38; have HR0 := Ak hr0; have HC0 := Ak hc0; clear hr0 hc0; have HB := Ak (Below.refl w.heap.size w); have H : ((spec_BoxOf.f k l0).bind fun bt101 => (if bt101.2.2.2.2 = true then (spec_InnerPoints.l0 k l0 0 bt101.2.1 bt101.1 bt101.2.1 bt101.2.2.1 bt101.2.2.2.1) else (some (-1)))) = some r := h; clear h; replace H := Option.bind_eq_some_iff.mp H; obtain ⟨⟨t101, t102, t103, t104, t105⟩, A20, H⟩ := H; replace H : (if t105 = true then (spec_InnerPoints.l0 k l0 0 t102 t101 t102 t103 t104) else (some (-1))) = some r := H; have A2 := Ak A20; clear A20
 by_cases c3 : t105 = true
 ·subst c3; have H1 : (spec_InnerPoints.l0 k l0 0 t102 t101 t102 t103 t104) = some r := by rw [if_pos rfl] at H; exact H
  clear H; have H := H1; clear H1; have H' := Ak H; clear H
  go_enter Try.func13, Try.ntmps13
  go_wp2_with (first | ((with_reducible refine gate_callee (f := 29) rfl ?_); refine goesL_ (some 12) rfl rfl Try.func29 (by kernel_rfl) rfl #[.slice A0 l0.length c0] rfl (by (try simp only [List.map_toArray, List.map_cons, List.map_nil]); first | done | rfl | (simp only [List.length_drop, List.length_take]; rfl)) ?_; (with_reducible refine (spec_BoxOf.calls k _ _ l0 t101 t102 t103 t104 true _ ?side1 ?side2 A2.out).mono ?_); (case side1 => repeat (first | exact HR0.out | (with_reducible refine Kd.C_alloc ?_ _) | (with_reducible refine Kd.C_drewN ?_ _) | (with_reducible refine Kd.C_drew ?_))); (case side2 => exact HC0.out); rintro e w4 ⟨rfl, hb⟩; refine ⟨_, rfl, ?_⟩; have n0_ := Ak (below_step (by repeat (first | exact HB.out | apply bA | apply bD | apply bE)) hb); clear HB; have HB := n0_; clear n0_; (try clear hb); (try clear hb2); (try clear hk); (try clear hi)) | ((with_reducible refine gate_dst (N := 3) rfl ?_); refine box_event ?hg (N := 3) ?hd (cs := #[.int .i64 0, .int .i64 0]) (t := 38) ?hr ?_; (case hd | hg => rfl); (case hr => first | (go_simp; done) | (go_simp; rfl)); intro gb106 hg w5 hbox hb; have n0_ := Ak (below_step (by repeat (first | exact HB.out | apply bA | apply bD | apply bE)) hb); have n1_ := Ak (hbox); have n2_ := Ak ((by rw [hg]; exact (below_size (by repeat (first | exact HB.out | apply bA | apply bD | apply bE))) : w.heap.size ≤ gb106)); have n3_ := n2_; clear HB; have HB := n0_; have BK106 := n1_; have GW106 := n2_; have GE106 := n3_; clear n0_ n1_ n2_ n3_; clear hb hbox hg) | ((with_reducible refine gate_dst (N := 4) rfl ?_); refine box_event ?hg (N := 4) ?hd (cs := #[.int .i64 0, .int .i64 0]) (t := 38) ?hr ?_; (case hd | hg => rfl); (case hr => first | (go_simp; done) | (go_simp; rfl)); intro gb107 hg w6 hbox hb; have m0_ := bK (g := gb106) (o := .cells #[.int .i64 0, .int .i64 0] 38 (0, 0)) (by exact BK106.out) hb; have n0_ := Ak (blk_below m0_ hb); have n1_ := Ak (below_step (by repeat (first | exact HB.out | apply bA | apply bD | apply bE | refine below_set ?_ GE106.out)) hb); have n2_ := Ak (hbox); have n3_ := Ak ((by rw [hg]; exact (below_size (by repeat (first | exact HB.out | apply bA | apply bD | apply bE | refine below_set ?_ GE106.out))) : w.heap.size ≤ gb107)); have n4_ := n3_; have n5_ := Ak ((by rw [hg]; exact Nat.ne_of_lt (blk_lt m0_) : gb106 ≠ gb107)); have n6_ := Ak n5_.out.symm; clear BK106; clear HB; have BK106 := n0_; have HB := n1_; have BK107 := n2_; have GW107 := n3_; have GE107 := n4_; have NB106_107 := n5_; have NB107_106 := n6_; clear n0_ n1_ n2_ n3_ n4_ n5_ n6_; clear hb hbox hg; have hnb7 := NB106_107.out; have hnc7 := NB107_106.out; have hcz8_0 := b0 BK106.out; have hcz8_1 := b1 BK106.out; have hfz8_0 := blk_frozen BK106.out 0; have hfz8_1 := blk_frozen BK106.out 1; have hcz9_0 := b0 BK107.out; have hcz9_1 := b1 BK107.out; have hfz9_0 := blk_frozen BK107.out 0; have hfz9_1 := blk_frozen BK107.out 1))
  go_loopg [6, 7] k (fun kq v6 v7 w' => ∃ (x6_1 : Int) (x7_1 : Int), v6 = .int .i64 x6_1 ∧ v7 = .int .i64 x7_1 ∧ Aside0 (spec_InnerPoints.l0 kq l0 x6_1 x7_1 t101 t102 t103 t104 = some r) ∧ Aside0 (kq ≤ k) ∧ Aside0 (w'.heap[gb106]? = some (.cells #[.int .i64 t101, .int .i64 t102] 38 (0, 0))) ∧ Aside0 (w'.heap[gb107]? = some (.cells #[.int .i64 t103, .int .i64 t104] 38 (0, 0))) ∧ Aside0 (Below w.heap.size w w'))
  case atStart => exact ⟨(0), (t102), (by first | rfl | (simp; done) | (simp [*]; done)), (by first | rfl | (simp; done) | (simp [*]; done)), H', ⟨Nat.le_refl _⟩, ⟨by refine blk_far ?_ NB106_107.out _; refine blk_far ?_ NB106_107.out _; refine blk_put (cs := #[.int .i64 t101, .int .i64 0]) ?_ 1 _ rfl; refine blk_put (cs := #[.int .i64 0, .int .i64 0]) ?_ 0 _ rfl; exact BK106.out⟩, ⟨by refine blk_put (cs := #[.int .i64 t103, .int .i64 0]) ?_ 1 _ rfl; refine blk_put (cs := #[.int .i64 0, .int .i64 0]) ?_ 0 _ rfl; refine blk_far ?_ NB107_106.out _; refine blk_far ?_ NB107_106.out _; exact BK107.out⟩, ⟨by repeat (first | (with_reducible first | exact HB.out | apply bA | apply bD | apply bE | refine below_set ?_ GE106.out | refine below_set ?_ GE107.out) | exact HB.out)⟩⟩
  case round =>
   clear H'
   try clear c1
   try clear c2
   try clear p2
   try clear c3
   try clear c7
   try clear hcz8_0
   try clear hcz8_1
   try clear hcz9_0
   try clear hcz9_1
   try clear hfz8_0
   try clear hfz8_1
   try clear hfz9_0
   try clear hfz9_1
   obtain ⟨x6_1, x7_1, rfl, rfl, HA, HK1, BK106, BK107, HB⟩ := hrel
   cases gk with
   | zero => exact absurd HA.out (by simp [spec_InnerPoints.l0])
   | succ k1 =>
    have H := HA.out; clear HA; simp only [spec_InnerPoints.l0] at H
    by_cases c10 : x7_1 ≤ t104
    ·rw [if_pos c10] at H; have c10b0 : decide (x7_1 ≤ t104) = true := decide_eq_true c10; clear c10; have H' := Ak H; clear H; have hnb11 := NB107_106.out; have hnc11 := NB106_107.out; have hcz12_0 := b0 BK107.out; have hcz12_1 := b1 BK107.out; have hfz12_0 := blk_frozen BK107.out 0; have hfz12_1 := blk_frozen BK107.out 1; have hcz13_0 := b0 BK106.out; have hcz13_1 := b1 BK106.out; have hfz13_0 := blk_frozen BK106.out 0; have hfz13_1 := blk_frozen BK106.out 1
     go_wp2
     go_loopg [6, 8] k1 (fun kq v6 v8 w' => ∃ (x6_2 : Int) (x8_2 : Int), v6 = .int .i64 x6_2 ∧ v8 = .int .i64 x8_2 ∧ Aside0 (spec_InnerPoints.l1 kq l0 x6_2 x7_1 x8_2 t101 t102 t103 t104 = some r) ∧ Aside0 (kq ≤ k1) ∧ Aside0 (w'.heap[gb106]? = some (.cells #[.int .i64 t101, .int .i64 t102] 38 (0, 0))) ∧ Aside0 (w'.heap[gb107]? = some (.cells #[.int .i64 t103, .int .i64 t104] 38 (0, 0))) ∧ Aside0 (Below w.heap.size w w'))
     case atStart => exact ⟨(x6_1), (t101), (by first | rfl | (simp; done) | (simp [*]; done)), (by first | rfl | (simp; done) | (simp [*]; done)), H', ⟨Nat.le_refl _⟩, ⟨by exact BK106.out⟩, ⟨by exact BK107.out⟩, ⟨by repeat (first | (with_reducible first | exact HB.out | apply bA | apply bD | apply bE | refine below_set ?_ GE106.out | refine below_set ?_ GE107.out) | exact HB.out)⟩⟩
     case round =>
      clear H'
      try clear c1
      try clear c2
      try clear p2
      try clear c3
      try clear c7
      try clear c10
      try clear c10b0
      try clear c11
      try clear c13
      try clear hcz12_0
      try clear hcz12_1
      try clear hcz13_0
      try clear hcz13_1
      try clear hcz8_0
      try clear hcz8_1
      try clear hcz9_0
      try clear hcz9_1
      try clear hfz12_0
      try clear hfz12_1
      try clear hfz13_0
      try clear hfz13_1
      try clear hfz8_0
      try clear hfz8_1
      try clear hfz9_0
      try clear hfz9_1
      try clear p2
      obtain ⟨x6_2, x8_2, rfl, rfl, HA, HK2, BK106, BK107, HB⟩ := hrel
      cases gk with
      | zero => exact absurd HA.out (by simp [spec_InnerPoints.l1])
      | succ k2 =>
       have H := HA.out; clear HA; simp only [spec_InnerPoints.l1] at H
       by_cases c14 : x8_2 ≤ t103
       ·rw [if_pos c14] at H; have c14b0 : decide (x8_2 ≤ t103) = true := decide_eq_true c14; clear c14; replace H := Option.bind_eq_some_iff.mp H; obtain ⟨t109, A150, H⟩ := H; replace H : (if t109 = true then (spec_InnerPoints.l1 k2 l0 x6_2 x7_1 (wrap64 (x8_2 + 1)) t101 t102 t103 t104) else ((spec_l03Inside.f k2 l0 x8_2 x7_1).bind fun t110 => (if t110 = true then (spec_InnerPoints.l1 k2 l0 (wrap64 (x6_2 + 1)) x7_1 (wrap64 (x8_2 + 1)) t101 t102 t103 t104) else (spec_InnerPoints.l1 k2 l0 x6_2 x7_1 (wrap64 (x8_2 + 1)) t101 t102 t103 t104)))) = some r := H; have A15 := Ak A150; clear A150
        by_cases c16 : t109 = true
        ·subst c16; have H1 : (spec_InnerPoints.l1 k2 l0 x6_2 x7_1 (wrap64 (x8_2 + 1)) t101 t102 t103 t104) = some r := by rw [if_pos rfl] at H; exact H
         clear H; have H := H1; clear H1; have H' := Ak H; clear H; have hnb17 := NB107_106.out; have hnc17 := NB106_107.out; have hcz18_0 := b0 BK107.out; have hcz18_1 := b1 BK107.out; have hfz18_0 := blk_frozen BK107.out 0; have hfz18_1 := blk_frozen BK107.out 1
         go_wp2_with (first | ((with_reducible refine gate_dst (N := 9) rfl ?_); refine box_event ?hg (N := 9) ?hd (cs := #[.int .i64 0, .int .i64 0]) (t := 38) ?hr ?_; (case hd | hg => rfl); (case hr => first | (go_simp; done) | (go_simp; rfl)); intro gb108 hg w19 hbox hb; have m0_ := bK (g := gb106) (o := .cells #[.int .i64 t101, .int .i64 t102] 38 (0, 0)) (by exact BK106.out) hb; have n0_ := Ak (blk_below m0_ hb); have m1_ := bK (g := gb107) (o := .cells #[.int .i64 t103, .int .i64 t104] 38 (0, 0)) (by exact BK107.out) hb; have n1_ := Ak (blk_below m1_ hb); have n2_ := Ak (below_step (by repeat (first | exact HB.out | apply bA | apply bD | apply bE | refine below_set ?_ GE106.out | refine below_set ?_ GE107.out)) hb); have n3_ := Ak (hbox); have n4_ := Ak ((by rw [hg]; exact (below_size (by repeat (first | exact HB.out | apply bA | apply bD | apply bE | refine below_set ?_ GE106.out | refine below_set ?_ GE107.out))) : w.heap.size ≤ gb108)); have n5_ := n4_; have n6_ := Ak ((by rw [hg]; exact Nat.ne_of_lt (blk_lt m0_) : gb106 ≠ gb108)); have n7_ := Ak n6_.out.symm; have n8_ := Ak ((by rw [hg]; exact Nat.ne_of_lt (blk_lt m1_) : gb107 ≠ gb108)); have n9_ := Ak n8_.out.symm; clear BK106; clear BK107; clear HB; have BK106 := n0_; have BK107 := n1_; have HB := n2_; have BK108 := n3_; have GW108 := n4_; have GE108 := n5_; have NB106_108 := n6_; have NB108_106 := n7_; have NB107_108 := n8_; have NB108_107 := n9_; clear n0_ n1_ n2_ n3_ n4_ n5_ n6_ n7_ n8_ n9_; clear hb hbox hg; have hnb20 := NB108_106.out; have hnc20 := NB106_108.out; have hnb21 := NB108_107.out; have hnc21 := NB107_108.out; have hcz22_0 := b0 BK108.out; have hcz22_1 := b1 BK108.out; have hfz22_0 := blk_frozen BK108.out 0; have hfz22_1 := blk_frozen BK108.out 1) | ((with_reducible refine gate_callee (f := 30) rfl ?_); refine goesL_ (some 39) rfl rfl Try.func30 (by kernel_rfl) rfl #[.slice A0 l0.length c0, .agg #[.int .i64 x8_2, .int .i64 x7_1]] rfl (by (try simp only [List.map_toArray, List.map_cons, List.map_nil]); first | done | rfl | (simp only [List.length_drop, List.length_take]; rfl)) ?_; (with_reducible refine (spec_l03OnRim.calls k2 _ _ l0 x8_2 x7_1 true _ ?side1 ?side2 A15.out).mono ?_); (case side1 => exact Kd.C_below HR0.out (by repeat (first | exact HB.out | apply bA | apply bD | apply bE | refine below_set ?_ GE106.out | refine below_set ?_ GE107.out | refine below_set ?_ GE108.out))); (case side2 => exact HC0.out); rintro e w23 ⟨rfl, hb⟩; refine ⟨_, rfl, ?_⟩; have n0_ := Ak (blk_below (g := gb106) (o := .cells #[.int .i64 t101, .int .i64 t102] 38 (0, 0)) (by refine blk_far ?_ NB106_108.out _; refine blk_far ?_ NB106_108.out _; exact BK106.out) hb); have n1_ := Ak (blk_below (g := gb107) (o := .cells #[.int .i64 t103, .int .i64 t104] 38 (0, 0)) (by refine blk_far ?_ NB107_108.out _; refine blk_far ?_ NB107_108.out _; exact BK107.out) hb); have n2_ := Ak (blk_below (g := gb108) (o := .cells #[.int .i64 x8_2, .int .i64 x7_1] 38 (0, 0)) (by refine blk_put (cs := #[.int .i64 x8_2, .int .i64 0]) ?_ 1 _ rfl; refine blk_put (cs := #[.int .i64 0, .int .i64 0]) ?_ 0 _ rfl; exact BK108.out) hb); have n3_ := Ak (below_step (by repeat (first | exact HB.out | apply bA | apply bD | apply bE | refine below_set ?_ GE106.out | refine below_set ?_ GE107.out | refine below_set ?_ GE108.out)) hb); clear BK106; clear BK107; clear BK108; clear HB; have BK106 := n0_; have BK107 := n1_; have BK108 := n2_; have HB := n3_; clear n0_ n1_ n2_ n3_; (try clear hb); (try clear hb2); (try clear hk); (try clear hi)))
         go_roundg k2
         case measure => have := HK1.out; have := HK2.out; omega
         case rel => exact ⟨(x6_2), (wrap64 (x8_2 + 1)), (by first | rfl | (simp; done) | (simp [*]; done)), (by first | rfl | (simp; done) | (simp [*]; done)), H', ⟨by have := HK1.out; have := HK2.out; omega⟩, ⟨by exact BK106.out⟩, ⟨by exact BK107.out⟩, ⟨by repeat (first | (with_reducible first | exact HB.out | apply bA | apply bD | apply bE | refine below_set ?_ GE106.out | refine below_set ?_ GE107.out | refine below_set ?_ GE108.out) | exact HB.out)⟩⟩
        ·replace c16 := Bool.eq_false_iff.mpr c16; subst c16; have H1 : ((spec_l03Inside.f k2 l0 x8_2 x7_1).bind fun t110 => (if t110 = true then (spec_InnerPoints.l1 k2 l0 (wrap64 (x6_2 + 1)) x7_1 (wrap64 (x8_2 + 1)) t101 t102 t103 t104) else (spec_InnerPoints.l1 k2 l0 x6_2 x7_1 (wrap64 (x8_2 + 1)) t101 t102 t103 t104))) = some r := by rw [if_neg (show ¬ (false = true) by decide)] at H; exact H
         clear H; have H := H1; clear H1; replace H := Option.bind_eq_some_iff.mp H; obtain ⟨t110, A240, H⟩ := H; replace H : (if t110 = true then (spec_InnerPoints.l1 k2 l0 (wrap64 (x6_2 + 1)) x7_1 (wrap64 (x8_2 + 1)) t101 t102 t103 t104) else (spec_InnerPoints.l1 k2 l0 x6_2 x7_1 (wrap64 (x8_2 + 1)) t101 t102 t103 t104)) = some r := H; have A24 := Ak A240; clear A240
         by_cases c25 : t110 = true
         ·subst c25; have H1 : (spec_InnerPoints.l1 k2 l0 (wrap64 (x6_2 + 1)) x7_1 (wrap64 (x8_2 + 1)) t101 t102 t103 t104) = some r := by rw [if_pos rfl] at H; exact H
          clear H; have H := H1; clear H1; have H' := Ak H; clear H; have hnb26 := NB107_106.out; have hnc26 := NB106_107.out; have hcz27_0 := b0 BK107.out; have hcz27_1 := b1 BK107.out; have hfz27_0 := blk_frozen BK107.out 0; have hfz27_1 := blk_frozen BK107.out 1
          go_wp2_with (first | ((with_reducible refine gate_dst (N := 9) rfl ?_); refine box_event ?hg (N := 9) ?hd (cs := #[.int .i64 0, .int .i64 0]) (t := 38) ?hr ?_; (case hd | hg => rfl); (case hr => first | (go_simp; done) | (go_simp; rfl)); intro gb108 hg w28 hbox hb; have m0_ := bK (g := gb106) (o := .cells #[.int .i64 t101, .int .i64 t102] 38 (0, 0)) (by exact BK106.out) hb; have n0_ := Ak (blk_below m0_ hb); have m1_ := bK (g := gb107) (o := .cells #[.int .i64 t103, .int .i64 t104] 38 (0, 0)) (by exact BK107.out) hb; have n1_ := Ak (blk_below m1_ hb); have n2_ := Ak (below_step (by repeat (first | exact HB.out | apply bA | apply bD | apply bE | refine below_set ?_ GE106.out | refine below_set ?_ GE107.out)) hb); have n3_ := Ak (hbox); have n4_ := Ak ((by rw [hg]; exact (below_size (by repeat (first | exact HB.out | apply bA | apply bD | apply bE | refine below_set ?_ GE106.out | refine below_set ?_ GE107.out))) : w.heap.size ≤ gb108)); have n5_ := n4_; have n6_ := Ak ((by rw [hg]; exact Nat.ne_of_lt (blk_lt m0_) : gb106 ≠ gb108)); have n7_ := Ak n6_.out.symm; have n8_ := Ak ((by rw [hg]; exact Nat.ne_of_lt (blk_lt m1_) : gb107 ≠ gb108)); have n9_ := Ak n8_.out.symm; clear BK106; clear BK107; clear HB; have BK106 := n0_; have BK107 := n1_; have HB := n2_; have BK108 := n3_; have GW108 := n4_; have GE108 := n5_; have NB106_108 := n6_; have NB108_106 := n7_; have NB107_108 := n8_; have NB108_107 := n9_; clear n0_ n1_ n2_ n3_ n4_ n5_ n6_ n7_ n8_ n9_; clear hb hbox hg; have hnb29 := NB108_106.out; have hnc29 := NB106_108.out; have hnb30 := NB108_107.out; have hnc30 := NB107_108.out; have hcz31_0 := b0 BK108.out; have hcz31_1 := b1 BK108.out; have hfz31_0 := blk_frozen BK108.out 0; have hfz31_1 := blk_frozen BK108.out 1) | ((with_reducible refine gate_callee (f := 30) rfl ?_); refine goesL_ (some 39) rfl rfl Try.func30 (by kernel_rfl) rfl #[.slice A0 l0.length c0, .agg #[.int .i64 x8_2, .int .i64 x7_1]] rfl (by (try simp only [List.map_toArray, List.map_cons, List.map_nil]); first | done | rfl | (simp only [List.length_drop, List.length_take]; rfl)) ?_; (with_reducible refine (spec_l03OnRim.calls k2 _ _ l0 x8_2 x7_1 false _ ?side1 ?side2 A15.out).mono ?_); (case side1 => exact Kd.C_below HR0.out (by repeat (first | exact HB.out | apply bA | apply bD | apply bE | refine below_set ?_ GE106.out | refine below_set ?_ GE107.out | refine below_set ?_ GE108.out))); (case side2 => exact HC0.out); rintro e w32 ⟨rfl, hb⟩; refine ⟨_, rfl, ?_⟩; have n0_ := Ak (blk_below (g := gb106) (o := .cells #[.int .i64 t101, .int .i64 t102] 38 (0, 0)) (by refine blk_far ?_ NB106_108.out _; refine blk_far ?_ NB106_108.out _; exact BK106.out) hb); have n1_ := Ak (blk_below (g := gb107) (o := .cells #[.int .i64 t103, .int .i64 t104] 38 (0, 0)) (by refine blk_far ?_ NB107_108.out _; refine blk_far ?_ NB107_108.out _; exact BK107.out) hb); have n2_ := Ak (blk_below (g := gb108) (o := .cells #[.int .i64 x8_2, .int .i64 x7_1] 38 (0, 0)) (by refine blk_put (cs := #[.int .i64 x8_2, .int .i64 0]) ?_ 1 _ rfl; refine blk_put (cs := #[.int .i64 0, .int .i64 0]) ?_ 0 _ rfl; exact BK108.out) hb); have n3_ := Ak (below_step (by repeat (first | exact HB.out | apply bA | apply bD | apply bE | refine below_set ?_ GE106.out | refine below_set ?_ GE107.out | refine below_set ?_ GE108.out)) hb); clear BK106; clear BK107; clear BK108; clear HB; have BK106 := n0_; have BK107 := n1_; have BK108 := n2_; have HB := n3_; clear n0_ n1_ n2_ n3_; (try clear hb); (try clear hb2); (try clear hk); (try clear hi); have hcz33_0 := b0 BK108.out; have hcz33_1 := b1 BK108.out; have hfz33_0 := blk_frozen BK108.out 0; have hfz33_1 := blk_frozen BK108.out 1) | (go_at_call 31; (with_reducible refine (spec_l03Inside.calls k2 _ _ l0 x8_2 x7_1 true _ ?side1 ?side2 A24.out).mono ?_); (case side1 => repeat (first | exact (Kd.C_below HR0.out HB.out) | (with_reducible refine Kd.C_alloc ?_ _) | (with_reducible refine Kd.C_drewN ?_ _) | (with_reducible refine Kd.C_drew ?_))); (case side2 => exact HC0.out); rintro e w34 ⟨rfl, hb⟩; have n0_ := Ak (blk_below (g := gb106) (o := .cells #[.int .i64 t101, .int .i64 t102] 38 (0, 0)) (by exact BK106.out) hb); have n1_ := Ak (blk_below (g := gb107) (o := .cells #[.int .i64 t103, .int .i64 t104] 38 (0, 0)) (by exact BK107.out) hb); have n2_ := Ak (blk_below (g := gb108) (o := .cells #[.int .i64 x8_2, .int .i64 x7_1] 38 (0, 0)) (by exact BK108.out) hb); have n3_ := Ak (below_step (by repeat (first | exact HB.out | apply bA | apply bD | apply bE | refine below_set ?_ GE106.out | refine below_set ?_ GE107.out | refine below_set ?_ GE108.out)) hb); clear BK106; clear BK107; clear BK108; clear HB; have BK106 := n0_; have BK107 := n1_; have BK108 := n2_; have HB := n3_; clear n0_ n1_ n2_ n3_; (try clear hb); (try clear hb2); (try clear hk); (try clear hi)))
          go_roundg k2
          case measure => have := HK1.out; have := HK2.out; omega
          case rel => exact ⟨(wrap64 (x6_2 + 1)), (wrap64 (x8_2 + 1)), (by first | rfl | (simp; done) | (simp [*]; done)), (by first | rfl | (simp; done) | (simp [*]; done)), H', ⟨by have := HK1.out; have := HK2.out; omega⟩, ⟨by exact BK106.out⟩, ⟨by exact BK107.out⟩, ⟨by repeat (first | (with_reducible first | exact HB.out | apply bA | apply bD | apply bE | refine below_set ?_ GE106.out | refine below_set ?_ GE107.out | refine below_set ?_ GE108.out) | exact HB.out)⟩⟩
         ·replace c25 := Bool.eq_false_iff.mpr c25; subst c25; have H1 : (spec_InnerPoints.l1 k2 l0 x6_2 x7_1 (wrap64 (x8_2 + 1)) t101 t102 t103 t104) = some r := by rw [if_neg (show ¬ (false = true) by decide)] at H; exact H
          clear H; have H := H1; clear H1; have H' := Ak H; clear H; have hnb35 := NB107_106.out; have hnc35 := NB106_107.out; have hcz36_0 := b0 BK107.out; have hcz36_1 := b1 BK107.out; have hfz36_0 := blk_frozen BK107.out 0; have hfz36_1 := blk_frozen BK107.out 1
          go_wp2_with (first | ((with_reducible refine gate_dst (N := 9) rfl ?_); refine box_event ?hg (N := 9) ?hd (cs := #[.int .i64 0, .int .i64 0]) (t := 38) ?hr ?_; (case hd | hg => rfl); (case hr => first | (go_simp; done) | (go_simp; rfl)); intro gb108 hg w37 hbox hb; have m0_ := bK (g := gb106) (o := .cells #[.int .i64 t101, .int .i64 t102] 38 (0, 0)) (by exact BK106.out) hb; have n0_ := Ak (blk_below m0_ hb); have m1_ := bK (g := gb107) (o := .cells #[.int .i64 t103, .int .i64 t104] 38 (0, 0)) (by exact BK107.out) hb; have n1_ := Ak (blk_below m1_ hb); have n2_ := Ak (below_step (by repeat (first | exact HB.out | apply bA | apply bD | apply bE | refine below_set ?_ GE106.out | refine below_set ?_ GE107.out)) hb); have n3_ := Ak (hbox); have n4_ := Ak ((by rw [hg]; exact (below_size (by repeat (first | exact HB.out | apply bA | apply bD | apply bE | refine below_set ?_ GE106.out | refine below_set ?_ GE107.out))) : w.heap.size ≤ gb108)); have n5_ := n4_; have n6_ := Ak ((by rw [hg]; exact Nat.ne_of_lt (blk_lt m0_) : gb106 ≠ gb108)); have n7_ := Ak n6_.out.symm; have n8_ := Ak ((by rw [hg]; exact Nat.ne_of_lt (blk_lt m1_) : gb107 ≠ gb108)); have n9_ := Ak n8_.out.symm; clear BK106; clear BK107; clear HB; have BK106 := n0_; have BK107 := n1_; have HB := n2_; have BK108 := n3_; have GW108 := n4_; have GE108 := n5_; have NB106_108 := n6_; have NB108_106 := n7_; have NB107_108 := n8_; have NB108_107 := n9_; clear n0_ n1_ n2_ n3_ n4_ n5_ n6_ n7_ n8_ n9_; clear hb hbox hg; have hnb38 := NB108_106.out; have hnc38 := NB106_108.out; have hnb39 := NB108_107.out; have hnc39 := NB107_108.out; have hcz40_0 := b0 BK108.out; have hcz40_1 := b1 BK108.out; have hfz40_0 := blk_frozen BK108.out 0; have hfz40_1 := blk_frozen BK108.out 1) | ((with_reducible refine gate_callee (f := 30) rfl ?_); refine goesL_ (some 39) rfl rfl Try.func30 (by kernel_rfl) rfl #[.slice A0 l0.length c0, .agg #[.int .i64 x8_2, .int .i64 x7_1]] rfl (by (try simp only [List.map_toArray, List.map_cons, List.map_nil]); first | done | rfl | (simp only [List.length_drop, List.length_take]; rfl)) ?_; (with_reducible refine (spec_l03OnRim.calls k2 _ _ l0 x8_2 x7_1 false _ ?side1 ?side2 A15.out).mono ?_); (case side1 => exact Kd.C_below HR0.out (by repeat (first | exact HB.out | apply bA | apply bD | apply bE | refine below_set ?_ GE106.out | refine below_set ?_ GE107.out | refine below_set ?_ GE108.out))); (case side2 => exact HC0.out); rintro e w41 ⟨rfl, hb⟩; refine ⟨_, rfl, ?_⟩; have n0_ := Ak (blk_below (g := gb106) (o := .cells #[.int .i64 t101, .int .i64 t102] 38 (0, 0)) (by refine blk_far ?_ NB106_108.out _; refine blk_far ?_ NB106_108.out _; exact BK106.out) hb); have n1_ := Ak (blk_below (g := gb107) (o := .cells #[.int .i64 t103, .int .i64 t104] 38 (0, 0)) (by refine blk_far ?_ NB107_108.out _; refine blk_far ?_ NB107_108.out _; exact BK107.out) hb); have n2_ := Ak (blk_below (g := gb108) (o := .cells #[.int .i64 x8_2, .int .i64 x7_1] 38 (0, 0)) (by refine blk_put (cs := #[.int .i64 x8_2, .int .i64 0]) ?_ 1 _ rfl; refine blk_put (cs := #[.int .i64 0, .int .i64 0]) ?_ 0 _ rfl; exact BK108.out) hb); have n3_ := Ak (below_step (by repeat (first | exact HB.out | apply bA | apply bD | apply bE | refine below_set ?_ GE106.out | refine below_set ?_ GE107.out | refine below_set ?_ GE108.out)) hb); clear BK106; clear BK107; clear BK108; clear HB; have BK106 := n0_; have BK107 := n1_; have BK108 := n2_; have HB := n3_; clear n0_ n1_ n2_ n3_; (try clear hb); (try clear hb2); (try clear hk); (try clear hi); have hcz42_0 := b0 BK108.out; have hcz42_1 := b1 BK108.out; have hfz42_0 := blk_frozen BK108.out 0; have hfz42_1 := blk_frozen BK108.out 1) | (go_at_call 31; (with_reducible refine (spec_l03Inside.calls k2 _ _ l0 x8_2 x7_1 false _ ?side1 ?side2 A24.out).mono ?_); (case side1 => repeat (first | exact (Kd.C_below HR0.out HB.out) | (with_reducible refine Kd.C_alloc ?_ _) | (with_reducible refine Kd.C_drewN ?_ _) | (with_reducible refine Kd.C_drew ?_))); (case side2 => exact HC0.out); rintro e w43 ⟨rfl, hb⟩; have n0_ := Ak (blk_below (g := gb106) (o := .cells #[.int .i64 t101, .int .i64 t102] 38 (0, 0)) (by exact BK106.out) hb); have n1_ := Ak (blk_below (g := gb107) (o := .cells #[.int .i64 t103, .int .i64 t104] 38 (0, 0)) (by exact BK107.out) hb); have n2_ := Ak (blk_below (g := gb108) (o := .cells #[.int .i64 x8_2, .int .i64 x7_1] 38 (0, 0)) (by exact BK108.out) hb); have n3_ := Ak (below_step (by repeat (first | exact HB.out | apply bA | apply bD | apply bE | refine below_set ?_ GE106.out | refine below_set ?_ GE107.out | refine below_set ?_ GE108.out)) hb); clear BK106; clear BK107; clear BK108; clear HB; have BK106 := n0_; have BK107 := n1_; have BK108 := n2_; have HB := n3_; clear n0_ n1_ n2_ n3_; (try clear hb); (try clear hb2); (try clear hk); (try clear hi)))
          go_roundg k2
          case measure => have := HK1.out; have := HK2.out; omega
          case rel => exact ⟨(x6_2), (wrap64 (x8_2 + 1)), (by first | rfl | (simp; done) | (simp [*]; done)), (by first | rfl | (simp; done) | (simp [*]; done)), H', ⟨by have := HK1.out; have := HK2.out; omega⟩, ⟨by exact BK106.out⟩, ⟨by exact BK107.out⟩, ⟨by repeat (first | (with_reducible first | exact HB.out | apply bA | apply bD | apply bE | refine below_set ?_ GE106.out | refine below_set ?_ GE107.out | refine below_set ?_ GE108.out) | exact HB.out)⟩⟩
       ·rw [if_neg c14] at H; have c14b0 : decide (x8_2 ≤ t103) = false := decide_eq_false c14; clear c14; have H' := Ak H; clear H; have hnb44 := NB107_106.out; have hnc44 := NB106_107.out; have hcz45_0 := b0 BK107.out; have hcz45_1 := b1 BK107.out; have hfz45_0 := blk_frozen BK107.out 0; have hfz45_1 := blk_frozen BK107.out 1
        go_wp2
        go_roundg k2
        case measure => have := HK1.out; have := HK2.out; omega
        case rel => exact ⟨(x6_2), (wrap64 (x7_1 + 1)), (by first | rfl | (simp; done) | (simp [*]; done)), (by first | rfl | (simp; done) | (simp [*]; done)), H', ⟨by have := HK1.out; have := HK2.out; omega⟩, ⟨by exact BK106.out⟩, ⟨by exact BK107.out⟩, ⟨by repeat (first | (with_reducible first | exact HB.out | apply bA | apply bD | apply bE | refine below_set ?_ GE106.out | refine below_set ?_ GE107.out) | exact HB.out)⟩⟩
    ·rw [if_neg c10] at H; have c10b0 : decide (x7_1 ≤ t104) = false := decide_eq_false c10; clear c10; obtain rfl := Option.some.inj H; have hnb46 := NB107_106.out; have hnc46 := NB106_107.out; have hcz47_0 := b0 BK107.out; have hcz47_1 := b1 BK107.out; have hfz47_0 := blk_frozen BK107.out 0; have hfz47_1 := blk_frozen BK107.out 1
     go_wp2
     go_ret
     exact ⟨by first | rfl | (simp [*, errW_none, errW_some] <;> rfl), by repeat (first | (with_reducible first | exact HB.out | apply bA | apply bD | apply bE | refine below_set ?_ GE106.out | refine below_set ?_ GE107.out) | exact HB.out)⟩
 ·replace c3 := Bool.eq_false_iff.mpr c3; subst c3; have H1 : (some (-1)) = some r := by rw [if_neg (show ¬ (false = true) by decide)] at H; exact H
  clear H; have H := H1; clear H1; obtain rfl := Option.some.inj H
  go_enter Try.func13, Try.ntmps13
  go_wp2_with (first | ((with_reducible refine gate_callee (f := 29) rfl ?_); refine goesL_ (some 12) rfl rfl Try.func29 (by kernel_rfl) rfl #[.slice A0 l0.length c0] rfl (by (try simp only [List.map_toArray, List.map_cons, List.map_nil]); first | done | rfl | (simp only [List.length_drop, List.length_take]; rfl)) ?_; (with_reducible refine (spec_BoxOf.calls k _ _ l0 t101 t102 t103 t104 false _ ?side1 ?side2 A2.out).mono ?_); (case side1 => repeat (first | exact HR0.out | (with_reducible refine Kd.C_alloc ?_ _) | (with_reducible refine Kd.C_drewN ?_ _) | (with_reducible refine Kd.C_drew ?_))); (case side2 => exact HC0.out); rintro e w48 ⟨rfl, hb⟩; refine ⟨_, rfl, ?_⟩; have n0_ := Ak (below_step (by repeat (first | exact HB.out | apply bA | apply bD | apply bE)) hb); clear HB; have HB := n0_; clear n0_; (try clear hb); (try clear hb2); (try clear hk); (try clear hi)) | ((with_reducible refine gate_dst (N := 3) rfl ?_); refine box_event ?hg (N := 3) ?hd (cs := #[.int .i64 0, .int .i64 0]) (t := 38) ?hr ?_; (case hd | hg => rfl); (case hr => first | (go_simp; done) | (go_simp; rfl)); intro gb106 hg w49 hbox hb; have n0_ := Ak (below_step (by repeat (first | exact HB.out | apply bA | apply bD | apply bE)) hb); have n1_ := Ak (hbox); have n2_ := Ak ((by rw [hg]; exact (below_size (by repeat (first | exact HB.out | apply bA | apply bD | apply bE))) : w.heap.size ≤ gb106)); have n3_ := n2_; clear HB; have HB := n0_; have BK106 := n1_; have GW106 := n2_; have GE106 := n3_; clear n0_ n1_ n2_ n3_; clear hb hbox hg) | ((with_reducible refine gate_dst (N := 4) rfl ?_); refine box_event ?hg (N := 4) ?hd (cs := #[.int .i64 0, .int .i64 0]) (t := 38) ?hr ?_; (case hd | hg => rfl); (case hr => first | (go_simp; done) | (go_simp; rfl)); intro gb107 hg w50 hbox hb; have m0_ := bK (g := gb106) (o := .cells #[.int .i64 0, .int .i64 0] 38 (0, 0)) (by exact BK106.out) hb; have n0_ := Ak (blk_below m0_ hb); have n1_ := Ak (below_step (by repeat (first | exact HB.out | apply bA | apply bD | apply bE | refine below_set ?_ GE106.out)) hb); have n2_ := Ak (hbox); have n3_ := Ak ((by rw [hg]; exact (below_size (by repeat (first | exact HB.out | apply bA | apply bD | apply bE | refine below_set ?_ GE106.out))) : w.heap.size ≤ gb107)); have n4_ := n3_; have n5_ := Ak ((by rw [hg]; exact Nat.ne_of_lt (blk_lt m0_) : gb106 ≠ gb107)); have n6_ := Ak n5_.out.symm; clear BK106; clear HB; have BK106 := n0_; have HB := n1_; have BK107 := n2_; have GW107 := n3_; have GE107 := n4_; have NB106_107 := n5_; have NB107_106 := n6_; clear n0_ n1_ n2_ n3_ n4_ n5_ n6_; clear hb hbox hg; have hnb51 := NB106_107.out; have hnc51 := NB107_106.out; have hcz52_0 := b0 BK106.out; have hcz52_1 := b1 BK106.out; have hfz52_0 := blk_frozen BK106.out 0; have hfz52_1 := blk_frozen BK106.out 1; have hcz53_0 := b0 BK107.out; have hcz53_1 := b1 BK107.out; have hfz53_0 := blk_frozen BK107.out 0; have hfz53_1 := blk_frozen BK107.out 1))
  go_ret
  exact ⟨by first | rfl | (simp [*, errW_none, errW_some] <;> rfl), by repeat (first | (with_reducible first | exact HB.out | apply bA | apply bD | apply bE | refine below_set ?_ GE106.out | refine below_set ?_ GE107.out) | exact HB.out)⟩

end Go.Proofs.Ytlfifpkigapabaa.G
