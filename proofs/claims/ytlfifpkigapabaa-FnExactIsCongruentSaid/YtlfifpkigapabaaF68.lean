/- A Go function as a plain Lean function, and the proof that Go's call comes to its answer. No conditions but those in the theorem. Written by gen.py (a program of this session over the kit's print). -/
-- SHRUNK by pack.py
import Derived.Test.YtlfifpkigapabaaG0
namespace Go.Proofs.Ytlfifpkigapabaa.G
open Go.RowKit Go.Proofs.YtlfifpkigapabaaW.PrintWords Go.Proofs.YtlfifpkigapabaaW.PrintLast Go.Proofs.YtlfifpkigapabaaW.PrintMore Go.Proofs.YtlfifpkigapabaaW.PrintBits
attribute [local go_sem] max2_int min2_int max_two min_two max_three min_three max_four min_four   -- for this text's walks alone
set_option linter.unusedVariables false
set_option linter.unusedSimpArgs false

/-! ### spec_l06Corner: function 68 -/
mutual
def spec_l06Corner.l0 : Nat → List (S38) → Int → Int → List (S38) → Int → Int → Option ((List (S38)))
 | 0, _, _, _, _, _, _ => none
 | k + 1, x0, x3, x4, x18, x19, x20 => if x20 < x19 then (if 0 ≤ x20 then (if x20 < (x18.length : Int) then (spec_l06Corner.l0 k x0 (mn x3 ((rd_T38 x18 x20).f0)) (mn x4 ((rd_T38 x18 x20).f1)) x18 x19 (wrap64 (x20 + 1))) else (none)) else (none)) else (spec_l06Corner.l1 k x3 x4 (([] : List (S38))) x0 (x0.length : Int) 0)
def spec_l06Corner.l1 : Nat → Int → Int → List (S38) → List (S38) → Int → Int → Option ((List (S38)))
 | 0, _, _, _, _, _, _ => none
 | k + 1, x3, x4, x7, x34, x35, x36 => if x36 < x35 then (if 0 ≤ x36 then (if x36 < (x34.length : Int) then (if x7.length < 8796093022208 then (spec_l06Corner.l1 k x3 x4 (x7 ++ [(⟨wrap64 (((rd_T38 x34 x36).f0) - x3), wrap64 (((rd_T38 x34 x36).f1) - x4)⟩ : S38)]) x34 x35 (wrap64 (x36 + 1))) else (none)) else (none)) else (none)) else (some x7)
end
def spec_l06Corner.f (k : Nat) (l0 : List (S38)) : Option ((List (S38))) := if 0 < (l0.length : Int) then (spec_l06Corner.l0 k l0 ((rd_T38 l0 0).f0) ((rd_T38 l0 0).f1) l0 (l0.length : Int) 0) else (none)
theorem spec_l06Corner.mono_l : ∀ k, (∀ y0 y1 y2 y3 y4 y5, LeO (spec_l06Corner.l0 k y0 y1 y2 y3 y4 y5) (spec_l06Corner.l0 (k + 1) y0 y1 y2 y3 y4 y5)) ∧ (∀ y0 y1 y2 y3 y4 y5, LeO (spec_l06Corner.l1 k y0 y1 y2 y3 y4 y5) (spec_l06Corner.l1 (k + 1) y0 y1 y2 y3 y4 y5))
 | 0 => ⟨fun _ _ _ _ _ _ r h => by simp [spec_l06Corner.l0] at h, fun _ _ _ _ _ _ r h => by simp [spec_l06Corner.l1] at h⟩
 | k + 1 => by
  obtain ⟨ih0, ih1⟩ := spec_l06Corner.mono_l k
  refine ⟨?_, ?_⟩
  ·intro y0 y1 y2 y3 y4 y5
   unfold spec_l06Corner.l0
   repeat' first
   | (with_reducible exact ih0 _ _ _ _ _ _)
   | (with_reducible exact ih1 _ _ _ _ _ _)
   | (with_reducible exact LeO.refl _)
   | (with_reducible exact LeO.none _)
   | (with_reducible refine LeO.ite ?_ ?_)
   | (with_reducible refine LeO.bind ?_ (fun _ => ?_))
   | exact ih0 _ _ _ _ _ _
   | exact ih1 _ _ _ _ _ _
   | exact LeO.none _
   | refine LeO.ite ?_ ?_
   | refine LeO.bind ?_ (fun _ => ?_)
  ·intro y0 y1 y2 y3 y4 y5
   unfold spec_l06Corner.l1
   repeat' first
   | (with_reducible exact ih0 _ _ _ _ _ _)
   | (with_reducible exact ih1 _ _ _ _ _ _)
   | (with_reducible exact LeO.refl _)
   | (with_reducible exact LeO.none _)
   | (with_reducible refine LeO.ite ?_ ?_)
   | (with_reducible refine LeO.bind ?_ (fun _ => ?_))
   | exact ih0 _ _ _ _ _ _
   | exact ih1 _ _ _ _ _ _
   | exact LeO.none _
   | refine LeO.ite ?_ ?_
   | refine LeO.bind ?_ (fun _ => ?_)
theorem spec_l06Corner.mono : ∀ a0 k, LeO (spec_l06Corner.f k a0) (spec_l06Corner.f (k + 1) a0) := by
 intro a0 k
 obtain ⟨ih0, ih1⟩ := spec_l06Corner.mono_l k
 unfold spec_l06Corner.f
 repeat' first
   | (with_reducible exact ih0 _ _ _ _ _ _)
   | (with_reducible exact ih1 _ _ _ _ _ _)
   | (with_reducible exact LeO.refl _)
   | (with_reducible exact LeO.none _)
   | (with_reducible refine LeO.ite ?_ ?_)
   | (with_reducible refine LeO.bind ?_ (fun _ => ?_))
   | exact ih0 _ _ _ _ _ _
   | exact ih1 _ _ _ _ _ _
   | exact LeO.none _
   | refine LeO.ite ?_ ?_
   | refine LeO.bind ?_ (fun _ => ?_)
set_option maxHeartbeats 8000000 in
set_option maxRecDepth 100000 in
theorem spec_l06Corner.calls (k : Nat) (A0 : Option Addr) (c0 : Nat) (l0 : List (S38)) (r : List (S38)) (w : World) (hr0 : Kd.C k38 w A0 l0.length l0) (hc0 : l0.length ≤ c0) (h : spec_l06Corner.f k l0 = some r) :
  Calls Try.prog 68 #[.slice A0 l0.length c0] w fun e w' => ∃ v0_ : Value, e = .returned (v0_) ∧ Kd.R k38 38 w' w.heap.size (fun _ => True) v0_ r ∧ Below w.heap.size w w' := by
 have hu38 := Try.underlying38; have HR0 := Ak hr0; have HC0 := Ak hc0; clear hr0 hc0; have HB := Ak (Below.refl w.heap.size w); have H : (if 0 < (l0.length : Int) then (spec_l06Corner.l0 k l0 ((rd_T38 l0 0).f0) ((rd_T38 l0 0).f1) l0 (l0.length : Int) 0) else (none)) = some r := h; clear h
 by_cases c2 : 0 < (l0.length : Int)
 ·rw [if_pos c2] at H; have c2b0 : decide (0 < (l0.length : Int)) = true := decide_eq_true c2; have c2b1 : decide (0 < l0.length) = true := decide_eq_true (by omega); clear c2; have H' := Ak H; clear H; have p101 : 0 ≤ (0 : Int) := (by omega); have q101 : 0 < (l0.length : Int) := of_decide_eq_true (by first | (with_reducible assumption) | assumption); obtain ⟨ad101, e101, hx101_0, hx101_1⟩ := at_T38 HR0.out 0 p101 q101; cases e101; have qi101 : (0 < l0.length) = True := eq_true (by omega); (try rw [show ((0 : Int)).toNat = 0 from rfl] at hx101_0); (try rw [show 0 * 2 = 0 from rfl] at hx101_0); (try rw [Addr.add_zero'] at hx101_0); (try rw [show ((0 : Int)).toNat = 0 from rfl] at hx101_1); (try rw [show 0 * 2 = 0 from rfl] at hx101_1); (try rw [Addr.add_zero'] at hx101_1); replace p101 := eq_true p101; replace q101 := eq_true q101; have p102 : 0 ≤ (0 : Int) := (by omega); have q102 : 0 < (l0.length : Int) := of_decide_eq_true (by first | (with_reducible assumption) | assumption); obtain ⟨ad102, e102, hx102_0, hx102_1⟩ := at_T38 HR0.out 0 p102 q102; obtain rfl : ad101 = ad102 := (by injection e102); have qi102 : (0 < l0.length) = True := eq_true (by omega); (try rw [show ((0 : Int)).toNat = 0 from rfl] at hx102_0); (try rw [show 0 * 2 = 0 from rfl] at hx102_0); (try rw [Addr.add_zero'] at hx102_0); (try rw [show ((0 : Int)).toNat = 0 from rfl] at hx102_1); (try rw [show 0 * 2 = 0 from rfl] at hx102_1); (try rw [Addr.add_zero'] at hx102_1); replace p102 := eq_true p102; replace q102 := eq_true q102
  go_enter Try.func68, Try.ntmps68
  go_wp2
  go_loopg [3, 4, 20] k (fun kq v3 v4 v20 w' => ∃ (x3_1 : Int) (x4_1 : Int) (x20_1 : Int), v3 = .int .i64 x3_1 ∧ v4 = .int .i64 x4_1 ∧ v20 = .int .i64 x20_1 ∧ Aside0 (spec_l06Corner.l0 kq l0 x3_1 x4_1 l0 (l0.length : Int) x20_1 = some r) ∧ Aside0 (kq ≤ k) ∧ Aside0 (Below w.heap.size w w'))
  case atStart => exact ⟨((rd_T38 l0 0).f0), ((rd_T38 l0 0).f1), (0), (by first | rfl | (simp; done) | (simp [*]; done)), (by first | rfl | (simp; done) | (simp [*]; done)), (by first | rfl | (simp; done) | (simp [*]; done)), H', ⟨Nat.le_refl _⟩, ⟨by repeat (first | (with_reducible first | exact HB.out | apply bA | apply bD | apply bE) | exact HB.out)⟩⟩
  case round =>
   clear H'
   try clear p1
   try clear q1
   try clear hx1
   try clear qi1
   try clear c2
   try clear c2b0
   try clear c2b1
   try clear p2
   try clear hx101_0
   try clear hx101_1
   try clear hx102_0
   try clear hx102_1
   try clear p101
   try clear p102
   try clear q101
   try clear q102
   obtain ⟨x3_1, x4_1, x20_1, rfl, rfl, rfl, HA, HK1, HB⟩ := hrel
   cases gk with
   | zero => exact absurd HA.out (by simp [spec_l06Corner.l0])
   | succ k1 =>
    have H := HA.out; clear HA; simp only [spec_l06Corner.l0] at H
    by_cases c3 : x20_1 < (l0.length : Int)
    ·rw [if_pos c3] at H; have c3b0 : decide (x20_1 < (l0.length : Int)) = true := decide_eq_true c3; clear c3
     by_cases c4 : 0 ≤ x20_1
     ·rw [if_pos c4] at H; have c4b0 : decide (0 ≤ x20_1) = true := decide_eq_true c4; clear c4
      by_cases c5 : x20_1 < (l0.length : Int)
      ·rw [if_pos c5] at H; have c5b0 : decide (x20_1 < (l0.length : Int)) = true := decide_eq_true c5; clear c5; obtain ⟨ji6, hji6⟩ : ∃ j_ : Int, (mn x3_1 ((rd_T38 l0 x20_1).f0)) = j_ := ⟨_, rfl⟩; replace H : (spec_l06Corner.l0 k1 l0 ji6 (mn x4_1 ((rd_T38 l0 x20_1).f1)) l0 (l0.length : Int) (wrap64 (x20_1 + 1))) = some r := by first | (rw [hji6] at H; exact H) | (simp only [hji6] at H ⊢; exact H)
       have hji6_ : (if ((rd_T38 l0 x20_1).f0) < x3_1 then ((rd_T38 l0 x20_1).f0) else x3_1) = ji6 := hji6; obtain ⟨ji7, hji7⟩ : ∃ j_ : Int, (mn x4_1 ((rd_T38 l0 x20_1).f1)) = j_ := ⟨_, rfl⟩; replace H : (spec_l06Corner.l0 k1 l0 ji6 ji7 l0 (l0.length : Int) (wrap64 (x20_1 + 1))) = some r := by first | (rw [hji7] at H; exact H) | (simp only [hji7] at H ⊢; exact H)
       have hji7_ : (if ((rd_T38 l0 x20_1).f1) < x4_1 then ((rd_T38 l0 x20_1).f1) else x4_1) = ji7 := hji7; have H' := Ak H; clear H; have p103 : 0 ≤ (x20_1 : Int) := of_decide_eq_true (by first | (with_reducible assumption) | assumption); have q103 : x20_1 < (l0.length : Int) := of_decide_eq_true (by first | (with_reducible assumption) | assumption); obtain ⟨ad103, e103, hx103_0, hx103_1⟩ := at_T38 HR0.out x20_1 p103 q103; obtain rfl : ad101 = ad103 := (by injection e103); replace hx103_0 := cB HB.out hx103_0; replace hx103_1 := cB HB.out hx103_1; replace p103 := eq_true p103; replace q103 := eq_true q103
       go_wp2_with (first | ((with_reducible refine gate_dst (N := 6) rfl ?_); refine box_event ?hg (N := 6) ?hd (cs := #[.int .i64 0, .int .i64 0]) (t := 38) ?hr ?_; (case hd | hg => rfl); (case hr => first | (go_simp; done) | (go_simp; rfl)); intro gb104 hg w8 hbox hb; have n0_ := Ak (below_step (by repeat (first | exact HB.out | apply bA | apply bD | apply bE)) hb); have n1_ := Ak (hbox); have n2_ := Ak ((by rw [hg]; exact (below_size (by repeat (first | exact HB.out | apply bA | apply bD | apply bE))) : w.heap.size ≤ gb104)); have n3_ := n2_; clear HB; have HB := n0_; have BK104 := n1_; have GW104 := n2_; have GE104 := n3_; clear n0_ n1_ n2_ n3_; clear hb hbox hg; have hcz9_0 : w8.cell? ⟨gb104, 0, none⟩ = some (.int .i64 0) := (blk_cell BK104.out 0).trans rfl; have hcz9_1 : w8.cell? ⟨gb104, 1, none⟩ = some (.int .i64 0) := (blk_cell BK104.out 1).trans rfl; have hfz9_0 := blk_frozen BK104.out 0; have hfz9_1 := blk_frozen BK104.out 1))
       go_roundg k1
       case measure => have := HK1.out; omega
       case rel => exact ⟨(ji6), (ji7), (wrap64 (x20_1 + 1)), (by first | rfl | (simp; done) | (simp only [← hji6] <;> (first | rfl | simp)) | (simp [*]; done)), (by first | rfl | (simp; done) | (simp only [← hji7] <;> (first | rfl | simp)) | (simp [*]; done)), (by first | rfl | (simp; done) | (simp [*]; done)), H', ⟨by have := HK1.out; omega⟩, ⟨by repeat (first | (with_reducible first | exact HB.out | apply bA | apply bD | apply bE | refine below_set ?_ GE104.out) | exact HB.out)⟩⟩
      ·rw [if_neg c5] at H; exact absurd H (by simp)
     ·rw [if_neg c4] at H; exact absurd H (by simp)
    ·rw [if_neg c3] at H; have c3b0 : decide (x20_1 < (l0.length : Int)) = false := decide_eq_false c3; clear c3; obtain ⟨y105, hy105⟩ : ∃ y_ : List (S38), y_ = (([] : List (S38))) := ⟨_, rfl⟩; replace H : (spec_l06Corner.l1 k1 x3_1 x4_1 y105 l0 (l0.length : Int) 0) = some r := by first | (rw [hy105]; exact H) | exact H
     have Ny105 := Ak hy105; clear hy105; have H' := Ak H; clear H
     go_wp2_with (first | ((with_reducible refine gate_dst (N := 33) rfl ?_); refine Kd.R_lit k38 _ 38 ?hg (N := 33) ?hd (xs := ([] : List (S38))) (inner := []) (ok := fun _ => True) (okp := fun _ => True) ?hr ?hp (fun _ hk => hk) trivial (Below.refl _ _) (Nat.le_refl _) (by simp) ?_; (case hd | hg => rfl); (case hr => first | (go_simp; done) | (go_simp; rfl)); (case hp => exact (Reps.none _ _)); intro v106 w10 ho11 hb hg_ hnew_; clear hg_ hnew_; (first | rw [← Ny105.out] at ho11 | (simp only [Int.reduceToNat] at ho11; rw [← Ny105.out] at ho11)); have n0_ := Ak (Kd.R_lower ho11 (below_size (by repeat (first | exact HB.out | apply bA | apply bD | apply bE)))); have n1_ := Ak (below_step (by repeat (first | exact HB.out | apply bA | apply bD | apply bE)) hb); clear HB; have HO107 := n0_; have HB := n1_; clear n0_ n1_; clear hb ho11))
     go_loopg [7, 36] k1 (fun kq v7 v36 w' => ∃ (x7_2 : List (S38)) (x36_2 : Int), v36 = .int .i64 x36_2 ∧ Aside0 (spec_l06Corner.l1 kq x3_1 x4_1 x7_2 l0 (l0.length : Int) x36_2 = some r) ∧ Aside0 (kq ≤ k1) ∧ Aside0 (Kd.R k38 38 w' w.heap.size (fun _ => True) v7 x7_2) ∧ Aside0 (Below w.heap.size w w'))
     case atStart => exact ⟨(y105), (0), (by first | rfl | (simp; done) | (simp [*]; done)), H', ⟨Nat.le_refl _⟩, ⟨by (with_reducible repeat (first | apply Kd.R_alloc | apply Kd.R_drewN | apply Kd.R_drew)); exact HO107.out⟩, ⟨by repeat (first | (with_reducible first | exact HB.out | apply bA | apply bD | apply bE) | exact HB.out)⟩⟩
     case round =>
      clear H'
      try clear p1
      try clear q1
      try clear hx1
      try clear qi1
      try clear c2
      try clear c2b0
      try clear c2b1
      try clear p2
      try clear c3
      try clear c3b0
      try clear c4
      try clear c4b0
      try clear c5
      try clear c5b0
      try clear c6
      try clear p6
      try clear p10
      try clear q10
      try clear hx10
      try clear qi10
      try clear hcz9_0
      try clear hcz9_1
      try clear hfz9_0
      try clear hfz9_1
      try clear hx101_0
      try clear hx101_1
      try clear hx102_0
      try clear hx102_1
      try clear hx103_0
      try clear hx103_1
      try clear p1
      try clear p101
      try clear p102
      try clear p103
      try clear p2
      try clear q1
      try clear q101
      try clear q102
      try clear q103
      obtain ⟨x7_2, x36_2, rfl, HA, HK2, HO_7, HB⟩ := hrel
      cases gk with
      | zero => exact absurd HA.out (by simp [spec_l06Corner.l1])
      | succ k2 =>
       have H := HA.out; clear HA; simp only [spec_l06Corner.l1] at H
       by_cases c12 : x36_2 < (l0.length : Int)
       ·rw [if_pos c12] at H; have c12b0 : decide (x36_2 < (l0.length : Int)) = true := decide_eq_true c12; clear c12
        by_cases c13 : 0 ≤ x36_2
        ·rw [if_pos c13] at H; have c13b0 : decide (0 ≤ x36_2) = true := decide_eq_true c13; clear c13
         by_cases c14 : x36_2 < (l0.length : Int)
         ·rw [if_pos c14] at H; have c14b0 : decide (x36_2 < (l0.length : Int)) = true := decide_eq_true c14; clear c14
          by_cases c15 : x7_2.length < 8796093022208
          ·rw [if_pos c15] at H; have LMc15 := Ak c15; clear c15; obtain ⟨y110, hy110⟩ : ∃ y_ : List (S38), y_ = (x7_2 ++ [(⟨wrap64 (((rd_T38 l0 x36_2).f0) - x3_1), wrap64 (((rd_T38 l0 x36_2).f1) - x4_1)⟩ : S38)]) := ⟨_, rfl⟩; replace H : (spec_l06Corner.l1 k2 x3_1 x4_1 y110 l0 (l0.length : Int) (wrap64 (x36_2 + 1))) = some r := by first | (rw [hy110]; exact H) | exact H
           have Ny110 := Ak hy110; clear hy110; have H' := Ak H; clear H; have p108 : 0 ≤ (x36_2 : Int) := of_decide_eq_true (by first | (with_reducible assumption) | assumption); have q108 : x36_2 < (l0.length : Int) := of_decide_eq_true (by first | (with_reducible assumption) | assumption); obtain ⟨ad108, e108, hx108_0, hx108_1⟩ := at_T38 HR0.out x36_2 p108 q108; obtain rfl : ad101 = ad108 := (by injection e108); replace hx108_0 := cB HB.out hx108_0; replace hx108_1 := cB HB.out hx108_1; replace p108 := eq_true p108; replace q108 := eq_true q108
           go_wp2_with (first | ((with_reducible refine gate_dst (N := 9) rfl ?_); refine box_event ?hg (N := 9) ?hd (cs := #[.int .i64 0, .int .i64 0]) (t := 38) ?hr ?_; (case hd | hg => rfl); (case hr => first | (go_simp; done) | (go_simp; rfl)); intro gb109 hg w16 hbox hb; have n0_ := Ak (Kd.R_below (Kd.R_elderB (by (with_reducible repeat (first | apply Kd.R_alloc | apply Kd.R_drewN | apply Kd.R_drew)); exact HO_7.out) gb109 (Nat.le_of_eq hg.symm)) hb); have n1_ := Ak (below_step (by repeat (first | exact HB.out | apply bA | apply bD | apply bE)) hb); have n2_ := Ak (hbox); have n3_ := Ak ((by rw [hg]; exact (below_size (by repeat (first | exact HB.out | apply bA | apply bD | apply bE))) : w.heap.size ≤ gb109)); have n4_ := n3_; clear HO_7; clear HB; have HO_7 := n0_; have HB := n1_; have BK109 := n2_; have GW109 := n3_; have GE109 := n4_; clear n0_ n1_ n2_ n3_ n4_; clear hb hbox hg; have hcz17_0 : w16.cell? ⟨gb109, 0, none⟩ = some (.int .i64 0) := (blk_cell BK109.out 0).trans rfl; have hcz17_1 : w16.cell? ⟨gb109, 1, none⟩ = some (.int .i64 0) := (blk_cell BK109.out 1).trans rfl; have hfz17_0 := blk_frozen BK109.out 0; have hfz17_1 := blk_frozen BK109.out 1) | ((with_reducible refine gate_builtin (b := .append) (xs := #[.tmp 40, .tmp 50]) rfl ?_); at_builtin; refine Kd.R_append k38 (w0 := w) w.heap.size rfl (.tmp 40) (.tmp 50) 29 38 (.agg #[(.int .i64 0), (.int .i64 0)]) 16 rfl Try.underlying29 info38 rfl (by decide) (by omega) u7 x7_2 (⟨wrap64 (((rd_T38 l0 x36_2).f0) - x3_1), wrap64 (((rd_T38 l0 x36_2).f1) - x4_1)⟩ : S38) [.int .i64 (wrap64 (((rd_T38 l0 x36_2).f0) - x3_1)), .int .i64 (wrap64 (((rd_T38 l0 x36_2).f1) - x4_1))] (fun k_ => k_ ≠ gb109) (fun _ => False) rfl (by first | (go_simp; done) | (go_simp; rfl)) ?aP (fun _ hk => hk.elim) ?aF ?aO ?aB ?aS ?aL ?_; (case aP => exact k38_mkM _ _ _ (⟨wrap64 (((rd_T38 l0 x36_2).f0) - x3_1), wrap64 (((rd_T38 l0 x36_2).f1) - x4_1)⟩ : S38)); (case aB => exact (by repeat (first | exact HB.out | apply bA | apply bD | apply bE | refine below_set ?_ GE109.out))); (case aF => exact (fun k_ hk => Kd.freshB (g := gb109) (o := .cells #[.int .i64 ((rd_T38 l0 x36_2).f0), .int .i64 ((rd_T38 l0 x36_2).f1)] 38 (0, 0)) (by refine blk_put (cs := #[.int .i64 ((rd_T38 l0 x36_2).f0), .int .i64 0]) ?_ 1 _ rfl; refine blk_put (cs := #[.int .i64 0, .int .i64 0]) ?_ 0 _ rfl; exact BK109.out) k_ hk)); (case aO => exact (by (with_reducible repeat (first | apply Kd.R_alloc | apply Kd.R_drewN | apply Kd.R_drew)); exact Kd.R_mono (Kd.R_far (p := ⟨gb109, 1, none⟩) (Kd.R_far (p := ⟨gb109, 0, none⟩) (Kd.R_mono HO_7.out (fun k_ hk => (⟨hk, hk.2⟩ : _ ∧ k_ ≠ gb109))) (fun _ hk => hk.2) (.int .i64 ((rd_T38 l0 x36_2).f0))) (fun _ hk => hk.2) (.int .i64 ((rd_T38 l0 x36_2).f1))) (fun _ hk => hk.1.2))); (case aS => exact (below_size (by repeat (first | exact HB.out | apply bA | apply bD | apply bE | refine below_set ?_ GE109.out)))); (case aL => have := LMc15.out; omega); intro v111 w18 ho hb hg hat; rw [← Ny110.out] at ho; have n0_ := Ak (blk_grown (g := gb109) (o := .cells #[.int .i64 ((rd_T38 l0 x36_2).f0), .int .i64 ((rd_T38 l0 x36_2).f1)] 38 (0, 0)) (by refine blk_put (cs := #[.int .i64 ((rd_T38 l0 x36_2).f0), .int .i64 0]) ?_ 1 _ rfl; refine blk_put (cs := #[.int .i64 0, .int .i64 0]) ?_ 0 _ rfl; exact BK109.out) hg (Kd.R_away HO_7.out (fun _ hk => hk.2))); have n1_ := Ak (hb); have n2_ := Ak (ho); clear BK109; clear HB; clear HO_7; have BK109 := n0_; have HB := n1_; have HO112 := n2_; clear n0_ n1_ n2_; clear ho hb hg hat))
           go_roundg k2
           case measure => have := HK1.out; have := HK2.out; omega
           case rel => exact ⟨(y110), (wrap64 (x36_2 + 1)), (by first | rfl | (simp; done) | (simp [*]; done)), H', ⟨by have := HK1.out; have := HK2.out; omega⟩, ⟨by (with_reducible repeat (first | apply Kd.R_alloc | apply Kd.R_drewN | apply Kd.R_drew)); exact Kd.R_mono HO112.out (fun _ hk => trivial)⟩, ⟨by repeat (first | (with_reducible first | exact HB.out | apply bA | apply bD | apply bE | refine below_set ?_ GE109.out) | exact HB.out)⟩⟩
          ·rw [if_neg c15] at H; exact absurd H (by simp)
         ·rw [if_neg c14] at H; exact absurd H (by simp)
        ·rw [if_neg c13] at H; exact absurd H (by simp)
       ·rw [if_neg c12] at H; have c12b0 : decide (x36_2 < (l0.length : Int)) = false := decide_eq_false c12; clear c12; obtain rfl := Option.some.inj H
        go_wp2
        go_ret
        exact ⟨_, by first | rfl | (simp [*, errW_none, errW_some] <;> rfl), by (with_reducible repeat (first | apply Kd.R_alloc | apply Kd.R_drewN | apply Kd.R_drew)); exact HO_7.out, by repeat (first | (with_reducible first | exact HB.out | apply bA | apply bD | apply bE) | exact HB.out)⟩
 ·rw [if_neg c2] at H; exact absurd H (by simp)

end Go.Proofs.Ytlfifpkigapabaa.G
