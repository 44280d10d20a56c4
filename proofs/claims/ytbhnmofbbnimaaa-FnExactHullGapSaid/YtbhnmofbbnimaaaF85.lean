/- A Go function as a plain Lean function, and the proof that Go's call comes to its answer. No conditions but those in the theorem. Written by gen.py (a program of this session over the kit's print). -/
-- SHRUNK by pack.py
import Derived.Test.YtbhnmofbbnimaaaG0
import Derived.Test.YtbhnmofbbnimaaaE44
import Derived.Test.YtbhnmofbbnimaaaF104
namespace Go.Proofs.Ytbhnmofbbnimaaa.G
open Go.RowKit Go.Proofs.YtbhnmofbbnimaaaW.PrintWords Go.Proofs.YtbhnmofbbnimaaaW.PrintLast Go.Proofs.YtbhnmofbbnimaaaW.PrintMore Go.Proofs.YtbhnmofbbnimaaaW.PrintBits
attribute [local go_sem] max2_int min2_int max_two min_two max_three min_three max_four min_four   -- for this text's walks alone
set_option linter.unusedVariables false
set_option linter.unusedSimpArgs false

attribute [local go_sem high] eqA44
/-! ### spec_l04Sort: function 85 -/
mutual
def spec_l04Sort.l0 : Nat → List (S44) → List (S44) → Int → Int → Option ((List (S44)))
 | 0, _, _, _, _ => none
 | k + 1, x3, x9, x10, x11 => if x11 < x10 then (if 0 ≤ x11 then (if x11 < (x9.length : Int) then (spec_l04Sort.l1 k x3 (x3.length : Int) x9 x10 x11 ((rd_T44 x9 x11).f0) ((rd_T44 x9 x11).f1)) else (none)) else (none)) else (some x3)
def spec_l04Sort.l1 : Nat → List (S44) → Int → List (S44) → Int → Int → Int → Int → Option ((List (S44)))
 | 0, _, _, _, _, _, _, _ => none
 | k + 1, x3, x6, x9, x10, x11, x106000, x106001 => if x6 > 0 then (if 0 ≤ (wrap64 (x6 - 1)) then (if (wrap64 (x6 - 1)) < (x3.length : Int) then ((spec_BeforePoint.f x106000 x106001 ((rd_T44 x3 (wrap64 (x6 - 1))).f0) ((rd_T44 x3 (wrap64 (x6 - 1))).f1)).bind fun t107 => (if t107 = true then (spec_l04Sort.l1 k x3 (wrap64 (x6 - 1)) x9 x10 x11 x106000 x106001) else (if (((rd_T44 x3 (wrap64 (x6 - 1))).f0) == x106000 && (((rd_T44 x3 (wrap64 (x6 - 1))).f1) == x106001)) = true then (spec_l04Sort.l0 k x3 x9 x10 (wrap64 (x11 + 1))) else ((some (([] : List (S44)) : List (S44))).bind fun y109 => (if 0 ≤ x6 then (if x6 ≤ (x3.length : Int) then ((some (x3.take (x6 : Int).toNat : List (S44))).bind fun y112 => (if y109.length + y112.length < 8796093022208 then ((some (y109 ++ y112 : List (S44))).bind fun y116 => (if y116.length < 8796093022208 then ((some (y116 ++ [(⟨x106000, x106001⟩ : S44)] : List (S44))).bind fun y119 => ((some (x3.drop (x6 : Int).toNat : List (S44))).bind fun y122 => (if y119.length + y122.length < 8796093022208 then (spec_l04Sort.l0 k (y119 ++ y122) x9 x10 (wrap64 (x11 + 1))) else (none)))) else (none))) else (none))) else (none)) else (none)))))) else (none)) else (none)) else ((some (([] : List (S44)) : List (S44))).bind fun y129 => (if 0 ≤ x6 then (if x6 ≤ (x3.length : Int) then ((some (x3.take (x6 : Int).toNat : List (S44))).bind fun y132 => (if y129.length + y132.length < 8796093022208 then ((some (y129 ++ y132 : List (S44))).bind fun y136 => (if y136.length < 8796093022208 then ((some (y136 ++ [(⟨x106000, x106001⟩ : S44)] : List (S44))).bind fun y139 => ((some (x3.drop (x6 : Int).toNat : List (S44))).bind fun y142 => (if y139.length + y142.length < 8796093022208 then (spec_l04Sort.l0 k (y139 ++ y142) x9 x10 (wrap64 (x11 + 1))) else (none)))) else (none))) else (none))) else (none)) else (none)))
end
def spec_l04Sort.f (k : Nat) (l0 : List (S44)) : Option ((List (S44))) := spec_l04Sort.l0 k (([] : List (S44))) l0 (l0.length : Int) 0
theorem spec_l04Sort.mono_l : ∀ k, (∀ y0 y1 y2 y3, LeO (spec_l04Sort.l0 k y0 y1 y2 y3) (spec_l04Sort.l0 (k + 1) y0 y1 y2 y3)) ∧ (∀ y0 y1 y2 y3 y4 y5 y6, LeO (spec_l04Sort.l1 k y0 y1 y2 y3 y4 y5 y6) (spec_l04Sort.l1 (k + 1) y0 y1 y2 y3 y4 y5 y6))
 | 0 => ⟨fun _ _ _ _ r h => by simp [spec_l04Sort.l0] at h, fun _ _ _ _ _ _ _ r h => by simp [spec_l04Sort.l1] at h⟩
 | k + 1 => by
  obtain ⟨ih0, ih1⟩ := spec_l04Sort.mono_l k
  refine ⟨?_, ?_⟩
  ·intro y0 y1 y2 y3
   unfold spec_l04Sort.l0
   repeat' first
   | (with_reducible exact ih0 _ _ _ _)
   | (with_reducible exact ih1 _ _ _ _ _ _ _)
   | (with_reducible exact LeO.refl _)
   | (with_reducible exact LeO.none _)
   | (with_reducible refine LeO.ite ?_ ?_)
   | (with_reducible refine LeO.bind ?_ (fun _ => ?_))
   | exact ih0 _ _ _ _
   | exact ih1 _ _ _ _ _ _ _
   | exact LeO.none _
   | refine LeO.ite ?_ ?_
   | refine LeO.bind ?_ (fun _ => ?_)
  ·intro y0 y1 y2 y3 y4 y5 y6
   unfold spec_l04Sort.l1
   repeat' first
   | (with_reducible exact ih0 _ _ _ _)
   | (with_reducible exact ih1 _ _ _ _ _ _ _)
   | (with_reducible exact LeO.refl _)
   | (with_reducible exact LeO.none _)
   | (with_reducible refine LeO.ite ?_ ?_)
   | (with_reducible refine LeO.bind ?_ (fun _ => ?_))
   | exact ih0 _ _ _ _
   | exact ih1 _ _ _ _ _ _ _
   | exact LeO.none _
   | refine LeO.ite ?_ ?_
   | refine LeO.bind ?_ (fun _ => ?_)
theorem spec_l04Sort.mono : ∀ a0 k, LeO (spec_l04Sort.f k a0) (spec_l04Sort.f (k + 1) a0) := by
 intro a0 k
 obtain ⟨ih0, ih1⟩ := spec_l04Sort.mono_l k
 unfold spec_l04Sort.f
 repeat' first
   | (with_reducible exact ih0 _ _ _ _)
   | (with_reducible exact ih1 _ _ _ _ _ _ _)
   | (with_reducible exact LeO.refl _)
   | (with_reducible exact LeO.none _)
   | (with_reducible refine LeO.ite ?_ ?_)
   | (with_reducible refine LeO.bind ?_ (fun _ => ?_))
   | exact ih0 _ _ _ _
   | exact ih1 _ _ _ _ _ _ _
   | exact LeO.none _
   | refine LeO.ite ?_ ?_
   | refine LeO.bind ?_ (fun _ => ?_)
def spec_l04Sort.T6 : Bool × List (List Nat × List Nat) := (true, [([], []), ([0], [0]), ([1], [1]), ([2], [2]), ([2], [2]), ([2], [2]), ([5, 2], [2, 5]), ([4, 6, 2], [2, 4, 6]), ([7, 2], [2, 7]), ([3, 8, 2, 2], [2, 3, 8]), ([2, 9], [2, 9])])
def spec_l04Sort.B6 : List Nat := [0, 1, 3, 7, 7, 7, 39, 119, 247, 511, 1023]
theorem spec_l04Sort.tab6 : rtab .any (opsOf Try.f85 6) = spec_l04Sort.T6 := by kernel_rfl
theorem spec_l04Sort.bits6 : waitsOk spec_l04Sort.T6.2 spec_l04Sort.B6 = true := by kernel_rfl
def spec_l04Sort.T8 : Bool × List (List Nat × List Nat) := (true, [([], []), ([0], [0]), ([1], [1]), ([2], [2]), ([2], [2]), ([4, 2], [2, 4]), ([3, 5, 2], [2, 3, 5]), ([6, 2], [2, 6]), ([2], [2]), ([7, 8, 2], [2, 7, 8]), ([2, 9], [2, 9])])
def spec_l04Sort.B8 : List Nat := [0, 1, 3, 7, 7, 23, 63, 127, 7, 511, 1023]
theorem spec_l04Sort.tab8 : rtab .any (opsOf Try.f85 8) = spec_l04Sort.T8 := by kernel_rfl
theorem spec_l04Sort.bits8 : waitsOk spec_l04Sort.T8.2 spec_l04Sort.B8 = true := by kernel_rfl
set_option maxHeartbeats 8000000 in
set_option maxRecDepth 100000 in
theorem spec_l04Sort.calls (k : Nat) (A0 : Option Addr) (c0 : Nat) (l0 : List (S44)) (r : List (S44)) (w : World) (hr0 : Kd.C k44 w A0 l0.length l0) (hc0 : l0.length ≤ c0) (h : spec_l04Sort.f k l0 = some r) :
  Calls Try.prog 85 #[.slice A0 l0.length c0] w fun e w' => ∃ v0_ : Value, e = .returned (v0_) ∧ Kd.R k44 44 w' w.heap.size (fun _ => True) v0_ r ∧ Below w.heap.size w w' := by
 have hu44 := Try.underlying44
 have HR0 := Ak hr0
 have HC0 := Ak hc0
 clear hr0 hc0
 have HB := Ak (Below.refl w.heap.size w)
 have H : (spec_l04Sort.l0 k (([] : List (S44))) l0 (l0.length : Int) 0) = some r := h
 clear h
 obtain ⟨y101, hy101⟩ : ∃ y_ : List (S44), y_ = (([] : List (S44))) := ⟨_, rfl⟩
 replace H : (spec_l04Sort.l0 k y101 l0 (l0.length : Int) 0) = some r := by first | (rw [hy101]; exact H) | exact H
 have Ny101 := Ak hy101
 clear hy101
 have H' := Ak H
 clear H
 go_enter Try.func85, Try.ntmps85
 go_wp2_with (first | ((with_reducible refine gate_dst (N := 8) rfl ?_); refine Kd.R_lit k44 _ 44 ?hg (N := 8) ?hd (xs := ([] : List (S44))) (inner := []) (ok := fun _ => True) (okp := fun _ => True) ?hr ?hp (fun _ hk => hk) trivial (Below.refl _ _) (Nat.le_refl _) (by simp) ?_; (case hd | hg => rfl); (case hr => first | (go_simp; done) | (go_simp; rfl)); (case hp => exact (Reps.none _ _)); intro v102 w2 ho3 hb hg_ hnew_; clear hg_ hnew_; (first | rw [← Ny101.out] at ho3 | (simp only [Int.reduceToNat] at ho3; rw [← Ny101.out] at ho3)); have n0_ := Ak (Kd.R_lower ho3 (below_size (by repeat (first | exact HB.out | apply bA | apply bD | apply bE)))); have n1_ := Ak (below_step (by repeat (first | exact HB.out | apply bA | apply bD | apply bE)) hb); clear HB; have HO103 := n0_; have HB := n1_; clear n0_ n1_; clear hb ho3))
 go_loopg [3, 11] k (fun kq v3 v11 w' => ∃ (x3_1 : List (S44)) (x11_1 : Int), v11 = .int .i64 x11_1 ∧ Aside0 (spec_l04Sort.l0 kq x3_1 l0 (l0.length : Int) x11_1 = some r) ∧ Aside0 (kq ≤ k) ∧ Aside0 (Kd.R k44 44 w' w.heap.size (fun _ => True) v3 x3_1) ∧ Aside0 (Below w.heap.size w w'))
 case atStart => exact ⟨(y101), (0), (by first | rfl | (simp; done) | (simp [*]; done)), H', ⟨Nat.le_refl _⟩, ⟨by (with_reducible repeat (first | apply Kd.R_alloc | apply Kd.R_drewN | apply Kd.R_drew)); exact HO103.out⟩, ⟨by repeat (first | (with_reducible first | exact HB.out | apply bA | apply bD | apply bE) | exact HB.out)⟩⟩
 case round =>
  clear H'
  try clear p2
  obtain ⟨x3_1, x11_1, rfl, HA, HK1, HO_3, HB⟩ := hrel
  cases gk with
  | zero => exact absurd HA.out (by simp [spec_l04Sort.l0])
  | succ k1 =>
   have H := HA.out
   clear HA
   simp only [spec_l04Sort.l0] at H
   by_cases c4 : x11_1 < (l0.length : Int)
   ·rw [if_pos c4] at H
    have c4b0 : decide (x11_1 < (l0.length : Int)) = true := decide_eq_true c4
    clear c4
    by_cases c5 : 0 ≤ x11_1
    ·rw [if_pos c5] at H
     have c5b0 : decide (0 ≤ x11_1) = true := decide_eq_true c5
     clear c5
     by_cases c6 : x11_1 < (l0.length : Int)
     ·rw [if_pos c6] at H
      have c6b0 : decide (x11_1 < (l0.length : Int)) = true := decide_eq_true c6
      clear c6
      have H' := Ak H
      clear H
      have p104 : 0 ≤ (x11_1 : Int) := of_decide_eq_true (by first | (with_reducible assumption) | assumption)
      have q104 : x11_1 < (l0.length : Int) := of_decide_eq_true (by first | (with_reducible assumption) | assumption)
      obtain ⟨ad104, e104, hx104_0, hx104_1⟩ := at_T44 HR0.out x11_1 p104 q104
      cases e104
      replace hx104_0 := cB HB.out hx104_0
      replace hx104_1 := cB HB.out hx104_1
      replace p104 := eq_true p104
      replace q104 := eq_true q104
      go_wp2_with (first | ((with_reducible refine gate_dst (N := 5) rfl ?_); refine box_event ?hg (N := 5) ?hd (cs := #[.int .i64 0, .int .i64 0]) (t := 44) ?hr ?_; (case hd | hg => rfl); (case hr => first | (go_simp; done) | (go_simp; rfl)); intro gb105 hg w7 hbox hb; have n0_ := Ak (Kd.R_below (Kd.R_elderB (by (with_reducible repeat (first | apply Kd.R_alloc | apply Kd.R_drewN | apply Kd.R_drew)); exact HO_3.out) gb105 (Nat.le_of_eq hg.symm)) hb); have n1_ := Ak (below_step (by repeat (first | exact HB.out | apply bA | apply bD | apply bE)) hb); have n2_ := Ak (hbox); have n3_ := Ak ((by rw [hg]; exact (below_size (by repeat (first | exact HB.out | apply bA | apply bD | apply bE))) : w.heap.size ≤ gb105)); have n4_ := n3_; clear HO_3; clear HB; have HO_3 := n0_; have HB := n1_; have BK105 := n2_; have GW105 := n3_; have GE105 := n4_; clear n0_ n1_ n2_ n3_ n4_; clear hb hbox hg; have hcz8_0 : w7.cell? ⟨gb105, 0, none⟩ = some (.int .i64 0) := (blk_cell BK105.out 0).trans rfl; have hcz8_1 : w7.cell? ⟨gb105, 1, none⟩ = some (.int .i64 0) := (blk_cell BK105.out 1).trans rfl; have hfz8_0 := blk_frozen BK105.out 0; have hfz8_1 := blk_frozen BK105.out 1; obtain ⟨Ao9, co9, eo9⟩ := Kd.R_slice HO_3.out; subst eo9))
      go_loopg [6] k1 (fun kq v6 w' => ∃ (x6_2 : Int), v6 = .int .i64 x6_2 ∧ Aside0 (spec_l04Sort.l1 kq x3_1 x6_2 l0 (l0.length : Int) x11_1 ((rd_T44 l0 x11_1).f0) ((rd_T44 l0 x11_1).f1) = some r) ∧ Aside0 (kq ≤ k1) ∧ Aside0 (Kd.R k44 44 w' w.heap.size (fun k_ => k_ ≠ gb105) (.slice Ao9 x3_1.length co9) x3_1) ∧ Aside0 (w'.heap[gb105]? = some (.cells #[.int .i64 ((rd_T44 l0 x11_1).f0), .int .i64 ((rd_T44 l0 x11_1).f1)] 44 (0, 0))) ∧ Aside0 (Below w.heap.size w w'))
      case atStart => exact ⟨((x3_1.length : Int)), (by first | rfl | (simp; done) | (simp [*]; done)), H', ⟨Nat.le_refl _⟩, ⟨by (with_reducible repeat (first | apply Kd.R_alloc | apply Kd.R_drewN | apply Kd.R_drew)); exact Kd.R_mono (Kd.R_far (p := ⟨gb105, 1, none⟩) (Kd.R_far (p := ⟨gb105, 0, none⟩) (Kd.R_mono HO_3.out (fun k_ hk => (⟨hk, hk.2⟩ : _ ∧ k_ ≠ gb105))) (fun _ hk => hk.2) (.int .i64 ((rd_T44 l0 x11_1).f0))) (fun _ hk => hk.2) (.int .i64 ((rd_T44 l0 x11_1).f1))) (fun _ hk => hk.1.2)⟩, ⟨by refine blk_put (cs := #[.int .i64 ((rd_T44 l0 x11_1).f0), .int .i64 0]) ?_ 1 _ rfl; refine blk_put (cs := #[.int .i64 0, .int .i64 0]) ?_ 0 _ rfl; exact BK105.out⟩, ⟨by repeat (first | (with_reducible first | exact HB.out | apply bA | apply bD | apply bE | refine below_set ?_ GE105.out) | exact HB.out)⟩⟩
      case round =>
       clear H'
       try clear p1
       try clear q1
       try clear hx1
       try clear p2
       try clear c4
       try clear c4b0
       try clear c5
       try clear c5b0
       try clear c6
       try clear c6b0
       try clear c8
       try clear hcz8_0
       try clear hcz8_1
       try clear hfz8_0
       try clear hfz8_1
       try clear hx104_0
       try clear hx104_1
       try clear p104
       try clear p2
       try clear q104
       obtain ⟨x6_2, rfl, HA, HK2, HO_3, BK105, HB⟩ := hrel
       cases gk with
       | zero => exact absurd HA.out (by simp [spec_l04Sort.l1])
       | succ k2 =>
        have H := HA.out
        clear HA
        simp only [spec_l04Sort.l1] at H
        by_cases c10 : x6_2 > 0
        ·rw [if_pos c10] at H
         have c10b0 : decide (0 < x6_2) = true := decide_eq_true c10
         clear c10
         obtain ⟨ji11, hji11⟩ : ∃ j_ : Int, (wrap64 (x6_2 - 1)) = j_ := ⟨_, rfl⟩
         replace H : (if 0 ≤ (ji11) then (if (ji11) < (x3_1.length : Int) then ((spec_BeforePoint.f ((rd_T44 l0 x11_1).f0) ((rd_T44 l0 x11_1).f1) ((rd_T44 x3_1 (ji11)).f0) ((rd_T44 x3_1 (ji11)).f1)).bind fun t107 => (if t107 = true then (spec_l04Sort.l1 k2 x3_1 ji11 l0 (l0.length : Int) x11_1 ((rd_T44 l0 x11_1).f0) ((rd_T44 l0 x11_1).f1)) else (if (((rd_T44 x3_1 (ji11)).f0) == ((rd_T44 l0 x11_1).f0) && (((rd_T44 x3_1 (ji11)).f1) == ((rd_T44 l0 x11_1).f1))) = true then (spec_l04Sort.l0 k2 x3_1 l0 (l0.length : Int) (wrap64 (x11_1 + 1))) else ((some (([] : List (S44)) : List (S44))).bind fun y109 => (if 0 ≤ x6_2 then (if x6_2 ≤ (x3_1.length : Int) then ((some (x3_1.take (x6_2 : Int).toNat : List (S44))).bind fun y112 => (if y109.length + y112.length < 8796093022208 then ((some (y109 ++ y112 : List (S44))).bind fun y116 => (if y116.length < 8796093022208 then ((some (y116 ++ [(⟨((rd_T44 l0 x11_1).f0), ((rd_T44 l0 x11_1).f1)⟩ : S44)] : List (S44))).bind fun y119 => ((some (x3_1.drop (x6_2 : Int).toNat : List (S44))).bind fun y122 => (if y119.length + y122.length < 8796093022208 then (spec_l04Sort.l0 k2 (y119 ++ y122) l0 (l0.length : Int) (wrap64 (x11_1 + 1))) else (none)))) else (none))) else (none))) else (none)) else (none)))))) else (none)) else (none)) = some r := by first | (rw [hji11] at H; exact H) | (simp only [hji11] at H ⊢; exact H)
         have hji11w : (IntKind.i64.wrap (x6_2 - 1)) = ji11 := (i64_w _).trans hji11
         by_cases c12 : 0 ≤ (ji11)
         ·rw [if_pos c12] at H
          have c12b0 : decide (0 ≤ (ji11)) = true := decide_eq_true c12
          clear c12
          by_cases c13 : (ji11) < (x3_1.length : Int)
          ·rw [if_pos c13] at H
           have c13b0 : decide ((ji11) < (x3_1.length : Int)) = true := decide_eq_true c13
           clear c13
           replace H := Option.bind_eq_some_iff.mp H
           obtain ⟨t107, A140, H⟩ := H
           replace H : (if t107 = true then (spec_l04Sort.l1 k2 x3_1 ji11 l0 (l0.length : Int) x11_1 ((rd_T44 l0 x11_1).f0) ((rd_T44 l0 x11_1).f1)) else (if (((rd_T44 x3_1 (ji11)).f0) == ((rd_T44 l0 x11_1).f0) && (((rd_T44 x3_1 (ji11)).f1) == ((rd_T44 l0 x11_1).f1))) = true then (spec_l04Sort.l0 k2 x3_1 l0 (l0.length : Int) (wrap64 (x11_1 + 1))) else ((some (([] : List (S44)) : List (S44))).bind fun y109 => (if 0 ≤ x6_2 then (if x6_2 ≤ (x3_1.length : Int) then ((some (x3_1.take (x6_2 : Int).toNat : List (S44))).bind fun y112 => (if y109.length + y112.length < 8796093022208 then ((some (y109 ++ y112 : List (S44))).bind fun y116 => (if y116.length < 8796093022208 then ((some (y116 ++ [(⟨((rd_T44 l0 x11_1).f0), ((rd_T44 l0 x11_1).f1)⟩ : S44)] : List (S44))).bind fun y119 => ((some (x3_1.drop (x6_2 : Int).toNat : List (S44))).bind fun y122 => (if y119.length + y122.length < 8796093022208 then (spec_l04Sort.l0 k2 (y119 ++ y122) l0 (l0.length : Int) (wrap64 (x11_1 + 1))) else (none)))) else (none))) else (none))) else (none)) else (none))))) = some r := H
           have A14 := Ak A140
           clear A140
           by_cases c15 : t107 = true
           ·subst c15
            have H1 : (spec_l04Sort.l1 k2 x3_1 ji11 l0 (l0.length : Int) x11_1 ((rd_T44 l0 x11_1).f0) ((rd_T44 l0 x11_1).f1)) = some r := by rw [if_pos rfl] at H; exact H
            clear H
            have H := H1
            clear H1
            have H' := Ak H
            clear H
            try go_wp2
            have n0_ := Ak (Kd.R_drew HO_3.out)
            have n1_ := Ak (blk_drew BK105.out)
            have n2_ := Ak (below_drew1 HB.out)
            clear HO_3
            clear BK105
            clear HB
            have HO_3 := n0_
            have BK105 := n1_
            have HB := n2_
            clear n0_ n1_ n2_
            have p106 : 0 ≤ ((ji11) : Int) := of_decide_eq_true (by first | (with_reducible assumption) | assumption)
            have q106 : (ji11) < (x3_1.length : Int) := of_decide_eq_true (by first | (with_reducible assumption) | assumption)
            obtain ⟨ad106, e106, hx106_0, hx106_1⟩ := at_T44 (Kd.R_reads' HO_3.out).2.2 (ji11) p106 q106
            cases e106
            replace p106 := eq_true p106
            replace q106 := eq_true q106
            refine start_ (n := 11) (S := fun w' => w'.cell? ⟨gb105, 0, none⟩ = some (.int .i64 ((rd_T44 l0 x11_1).f0)) ∧ w'.cell? ⟨gb105, 1, none⟩ = some (.int .i64 ((rd_T44 l0 x11_1).f1)) ∧ w'.cell? (ad106.add (((ji11)).toNat * 2)) = some (.int .i64 ((rd_T44 x3_1 (ji11)).f0)) ∧ w'.cell? ⟨(ad106.add (((ji11)).toNat * 2)).block, (ad106.add (((ji11)).toNat * 2)).off + 1, none⟩ = some (.int .i64 ((rd_T44 x3_1 (ji11)).f1))) (ds := []) #[F,F,F,F,F,F,F,F,F,F,F] (by kernel_rfl) rfl rfl ⟨(blk_cell BK105.out 0).trans rfl, (blk_cell BK105.out 1).trans rfl, hx106_0, hx106_1⟩ (fun hHeld => ?_); refine with_tabW spec_l04Sort.tab6 spec_l04Sort.bits6 (fun HT_ HW_ => ?_)
            generalize wr.drew = w16 at HO_3 BK105 HB hx106_0 hx106_1 hHeld ⊢
            refine pure_ (i := 0) (N := some 17) (v := ?_) (a' := ?_) #[T,F,F,F,F,F,F,F,F,F,F] rfl rfl (any_of HT_.out (by kernel_rfl)) (fun _ _ _ h => h) (Or.inl ⟨by rfl, ?_⟩) ?_ ?_
            rotate_left
            ·intro w'
             go_simp
             with_reducible rfl
            rotate_left
            ·simp only [Act.put, sA, sB, sC, sD, sE]
             rfl
            refine pure_ (i := 1) (N := some 18) (v := ?_) (a' := ?_) #[T,T,F,F,F,F,F,F,F,F,F] rfl rfl (any_of HT_.out (by kernel_rfl)) (fun _ _ _ h => h) (Or.inl ⟨by rfl, ?_⟩) ?_ ?_
            rotate_left
            ·intro w'
             go_simp
             with_reducible rfl
            rotate_left
            ·simp only [Act.put, sA, sB, sC, sD, sE]
             rfl
            refine pure_ (i := 2) (N := some 19) (v := ?_) (a' := ?_) #[T,T,T,F,F,F,F,F,F,F,F] rfl rfl (any_of HT_.out (by kernel_rfl)) (fun _ _ _ h => h) (Or.inl ⟨by rfl, ?_⟩) ?_ ?_
            rotate_left
            ·intro w'
             go_simp
             with_reducible rfl
            rotate_left
            ·simp only [Act.put, sA, sB, sC, sD, sE]
             rfl
            refine pure_ (i := 4) (N := some 21) (v := ?_) (a' := ?_) #[T,T,T,F,T,F,F,F,F,F,F] rfl rfl (any_of HT_.out (by kernel_rfl)) (fun _ _ _ h => h) (Or.inl ⟨by rfl, ?_⟩) ?_ ?_
            rotate_left
            ·intro w'
             go_simp
             with_reducible rfl
            rotate_left
            ·simp only [Act.put, sA, sB, sC, sD, sE]
             rfl
            refine pure_ (i := 5) (N := some 22) (v := ?_) (a' := ?_) #[T,T,T,F,T,T,F,F,F,F,F] rfl rfl (any_of HT_.out (by kernel_rfl)) (fun _ _ _ h => h) (Or.inl ⟨by rfl, ?_⟩) ?_ ?_
            rotate_left
            ·intro w'
             go_simp
             with_reducible rfl
            rotate_left
            ·simp only [Act.put, sA, sB, sC, sD, sE]
             rfl
            refine pure_ (i := 6) (N := some 23) (v := ?_) (a' := ?_) #[T,T,T,F,T,T,T,F,F,F,F] rfl rfl (any_of HT_.out (by kernel_rfl)) (fun _ _ _ h => h) (Or.inl ⟨by rfl, ?_⟩) ?_ ?_
            rotate_left
            ·intro w'
             go_simp
             with_reducible rfl
            rotate_left
            ·simp only [Act.put, sA, sB, sC, sD, sE]
             rfl
            refine pure_ (i := 7) (N := some 24) (v := ?_) (a' := ?_) #[T,T,T,F,T,T,T,T,F,F,F] rfl rfl (any_of HT_.out (by kernel_rfl)) (fun _ _ _ h => h) (Or.inl ⟨by rfl, ?_⟩) ?_ ?_
            rotate_left
            ·intro w'
             go_simp
             with_reducible rfl
            rotate_left
            ·simp only [Act.put, sA, sB, sC, sD, sE]
             rfl
            refine take_ (i := 3) (N := some 20) (v := ?_) (a' := ?_) #[T,T,T,T,T,T,T,T,F,F,F] rfl rfl (take_ofW HT_.out HW_.out (by kernel_rfl)) (fun _ _ _ h => h) (Or.inl ⟨by rfl, ?_⟩) hHeld ?_ ?_
            rotate_left
            ·rintro w' ⟨s0, s1, s2, s3⟩
             go_simp
             with_reducible rfl
            rotate_left
            ·simp only [Act.put, sA, sB, sC, sD, sE]
             rfl
            refine take_ (i := 8) (N := some 25) (v := ?_) (a' := ?_) #[T,T,T,T,T,T,T,T,T,F,F] rfl rfl (take_ofW HT_.out HW_.out (by kernel_rfl)) (fun _ _ _ h => h) (Or.inl ⟨by rfl, ?_⟩) hHeld ?_ ?_
            rotate_left
            ·rintro w' ⟨s0, s1, s2, s3⟩
             go_simp
             with_reducible rfl
            rotate_left
            ·simp only [Act.put, sA, sB, sC, sD, sE]
             rfl
            refine one_ (i := 9) (N := some 26) #[T,T,T,T,T,T,T,T,T,T,F] rfl rfl (one_of HT_.out (by kernel_rfl)) (by decide) (fun K hK => ?_)
            refine goes_ Try.func104 (by kernel_rfl) rfl #[.agg #[.int .i64 ((rd_T44 l0 x11_1).f0), .int .i64 ((rd_T44 l0 x11_1).f1)], .agg #[.int .i64 ((rd_T44 x3_1 (ji11)).f0), .int .i64 ((rd_T44 x3_1 (ji11)).f1)]] (by rfl) rfl rfl (by (try simp only [List.map_toArray, List.map_cons, List.map_nil]); first | done | (simp only [hji11]; rfl) | rfl | (simp only [List.length_drop, List.length_take]; rfl)) ?_
            with_reducible refine (spec_BeforePoint.calls ((rd_T44 l0 x11_1).f0) ((rd_T44 l0 x11_1).f1) ((rd_T44 x3_1 (ji11)).f0) ((rd_T44 x3_1 (ji11)).f1) true _ A14.out).mono ?_
            rintro e w17 ⟨rfl, hb⟩
            have HS2_ := (hb.cell (World.block_lt_of_cell? _ _ (hHeld.2.2.1))).trans (hHeld.2.2.1)
            have HS3_ := (hb.cell (World.block_lt_of_cell? _ _ (hHeld.2.2.2))).trans (hHeld.2.2.2)
            refine ⟨_, rfl, ?_⟩
            have n0_ := Ak (Kd.R_below (by (with_reducible repeat (first | apply Kd.R_alloc | apply Kd.R_drewN | apply Kd.R_drew)); exact HO_3.out) hb)
            have n1_ := Ak (blk_below (g := gb105) (o := .cells #[.int .i64 ((rd_T44 l0 x11_1).f0), .int .i64 ((rd_T44 l0 x11_1).f1)] 44 (0, 0)) (by exact BK105.out) hb)
            have n2_ := Ak (below_step (by repeat (first | exact HB.out | apply bA | apply bD | apply bE | refine below_set ?_ GE105.out)) hb)
            clear HO_3
            clear BK105
            clear HB
            have HO_3 := n0_
            have BK105 := n1_
            have HB := n2_
            clear n0_ n1_ n2_
            (try clear hb)
            (try clear hb2)
            (try clear hk)
            (try clear hi)
            refine hK.out _ _ ⟨(blk_cell BK105.out 0).trans rfl, (blk_cell BK105.out 1).trans rfl, HS2_, HS3_⟩ (fun hHeld => ?_)
            clear hK K
            refine norm_ (a' := ?_) ?_ ?_
            rotate_left
            ·show Act.put _ (some 26) _ = _
             simp only [Act.put, sA, sB, sC, sD, sE]
             rfl
            refine pure_ (i := 10) (N := some 27) (v := ?_) (a' := ?_) #[T,T,T,T,T,T,T,T,T,T,T] rfl rfl (any_of HT_.out (by kernel_rfl)) (fun _ _ _ h => h) (Or.inl ⟨by rfl, ?_⟩) ?_ ?_
            rotate_left
            ·intro w'
             go_simp
             with_reducible rfl
            rotate_left
            ·simp only [Act.put, sA, sB, sC, sD, sE]
             rfl
            refine done_ (done_of HT_.out (by kernel_rfl)) ?_
            try go_wp2
            go_roundg k2
            case measure => have := HK1.out; have := HK2.out; omega
            case rel => exact ⟨(ji11), (by first | rfl | (simp; done) | (simp only [← hji11] <;> (first | rfl | simp)) | (simp [*]; done)), H', ⟨by have := HK1.out; have := HK2.out; omega⟩, ⟨by (with_reducible repeat (first | apply Kd.R_alloc | apply Kd.R_drewN | apply Kd.R_drew)); exact HO_3.out⟩, ⟨by exact BK105.out⟩, ⟨by repeat (first | (with_reducible first | exact HB.out | apply bA | apply bD | apply bE | refine below_set ?_ GE105.out) | exact HB.out)⟩⟩
           ·replace c15 := Bool.eq_false_iff.mpr c15
            subst c15
            have H1 : (if (((rd_T44 x3_1 (ji11)).f0) == ((rd_T44 l0 x11_1).f0) && (((rd_T44 x3_1 (ji11)).f1) == ((rd_T44 l0 x11_1).f1))) = true then (spec_l04Sort.l0 k2 x3_1 l0 (l0.length : Int) (wrap64 (x11_1 + 1))) else ((some (([] : List (S44)) : List (S44))).bind fun y109 => (if 0 ≤ x6_2 then (if x6_2 ≤ (x3_1.length : Int) then ((some (x3_1.take (x6_2 : Int).toNat : List (S44))).bind fun y112 => (if y109.length + y112.length < 8796093022208 then ((some (y109 ++ y112 : List (S44))).bind fun y116 => (if y116.length < 8796093022208 then ((some (y116 ++ [(⟨((rd_T44 l0 x11_1).f0), ((rd_T44 l0 x11_1).f1)⟩ : S44)] : List (S44))).bind fun y119 => ((some (x3_1.drop (x6_2 : Int).toNat : List (S44))).bind fun y122 => (if y119.length + y122.length < 8796093022208 then (spec_l04Sort.l0 k2 (y119 ++ y122) l0 (l0.length : Int) (wrap64 (x11_1 + 1))) else (none)))) else (none))) else (none))) else (none)) else (none)))) = some r := by rw [if_neg (show ¬ (false = true) by decide)] at H; exact H
            clear H
            have H := H1
            clear H1
            by_cases c18 : (((rd_T44 x3_1 (ji11)).f0) == ((rd_T44 l0 x11_1).f0) && (((rd_T44 x3_1 (ji11)).f1) == ((rd_T44 l0 x11_1).f1))) = true
            ·rw [if_pos c18] at H
             have c18b0 : (((rd_T44 x3_1 (ji11)).f0) == ((rd_T44 l0 x11_1).f0) && (((rd_T44 x3_1 (ji11)).f1) == ((rd_T44 l0 x11_1).f1))) = true := c18
             (try (have c18b1 : decide (((rd_T44 x3_1 (ji11)).f0) = ((rd_T44 l0 x11_1).f0) && (((rd_T44 x3_1 (ji11)).f1) == ((rd_T44 l0 x11_1).f1))) = true := by simpa using c18))
             (try (have c18b2 : (((rd_T44 x3_1 (ji11)).f0) == ((rd_T44 l0 x11_1).f0) && (((rd_T44 x3_1 (ji11)).f1) == ((rd_T44 l0 x11_1).f1))) = true := by simpa using c18))
             clear c18
             have H' := Ak H
             clear H
             try go_wp2
             have n0_ := Ak (Kd.R_drew HO_3.out)
             have n1_ := Ak (blk_drew BK105.out)
             have n2_ := Ak (below_drew1 HB.out)
             clear HO_3
             clear BK105
             clear HB
             have HO_3 := n0_
             have BK105 := n1_
             have HB := n2_
             clear n0_ n1_ n2_
             have p106 : 0 ≤ ((ji11) : Int) := of_decide_eq_true (by first | (with_reducible assumption) | assumption)
             have q106 : (ji11) < (x3_1.length : Int) := of_decide_eq_true (by first | (with_reducible assumption) | assumption)
             obtain ⟨ad106, e106, hx106_0, hx106_1⟩ := at_T44 (Kd.R_reads' HO_3.out).2.2 (ji11) p106 q106
             cases e106
             replace p106 := eq_true p106
             replace q106 := eq_true q106
             refine start_ (n := 11) (S := fun w' => w'.cell? ⟨gb105, 0, none⟩ = some (.int .i64 ((rd_T44 l0 x11_1).f0)) ∧ w'.cell? ⟨gb105, 1, none⟩ = some (.int .i64 ((rd_T44 l0 x11_1).f1)) ∧ w'.cell? (ad106.add (((ji11)).toNat * 2)) = some (.int .i64 ((rd_T44 x3_1 (ji11)).f0)) ∧ w'.cell? ⟨(ad106.add (((ji11)).toNat * 2)).block, (ad106.add (((ji11)).toNat * 2)).off + 1, none⟩ = some (.int .i64 ((rd_T44 x3_1 (ji11)).f1))) (ds := []) #[F,F,F,F,F,F,F,F,F,F,F] (by kernel_rfl) rfl rfl ⟨(blk_cell BK105.out 0).trans rfl, (blk_cell BK105.out 1).trans rfl, hx106_0, hx106_1⟩ (fun hHeld => ?_); refine with_tabW spec_l04Sort.tab6 spec_l04Sort.bits6 (fun HT_ HW_ => ?_)
             generalize wr.drew = w19 at HO_3 BK105 HB hx106_0 hx106_1 hHeld ⊢
             refine pure_ (i := 0) (N := some 17) (v := ?_) (a' := ?_) #[T,F,F,F,F,F,F,F,F,F,F] rfl rfl (any_of HT_.out (by kernel_rfl)) (fun _ _ _ h => h) (Or.inl ⟨by rfl, ?_⟩) ?_ ?_
             rotate_left
             ·intro w'
              go_simp
              with_reducible rfl
             rotate_left
             ·simp only [Act.put, sA, sB, sC, sD, sE]
              rfl
             refine pure_ (i := 1) (N := some 18) (v := ?_) (a' := ?_) #[T,T,F,F,F,F,F,F,F,F,F] rfl rfl (any_of HT_.out (by kernel_rfl)) (fun _ _ _ h => h) (Or.inl ⟨by rfl, ?_⟩) ?_ ?_
             rotate_left
             ·intro w'
              go_simp
              with_reducible rfl
             rotate_left
             ·simp only [Act.put, sA, sB, sC, sD, sE]
              rfl
             refine pure_ (i := 2) (N := some 19) (v := ?_) (a' := ?_) #[T,T,T,F,F,F,F,F,F,F,F] rfl rfl (any_of HT_.out (by kernel_rfl)) (fun _ _ _ h => h) (Or.inl ⟨by rfl, ?_⟩) ?_ ?_
             rotate_left
             ·intro w'
              go_simp
              with_reducible rfl
             rotate_left
             ·simp only [Act.put, sA, sB, sC, sD, sE]
              rfl
             refine pure_ (i := 4) (N := some 21) (v := ?_) (a' := ?_) #[T,T,T,F,T,F,F,F,F,F,F] rfl rfl (any_of HT_.out (by kernel_rfl)) (fun _ _ _ h => h) (Or.inl ⟨by rfl, ?_⟩) ?_ ?_
             rotate_left
             ·intro w'
              go_simp
              with_reducible rfl
             rotate_left
             ·simp only [Act.put, sA, sB, sC, sD, sE]
              rfl
             refine pure_ (i := 5) (N := some 22) (v := ?_) (a' := ?_) #[T,T,T,F,T,T,F,F,F,F,F] rfl rfl (any_of HT_.out (by kernel_rfl)) (fun _ _ _ h => h) (Or.inl ⟨by rfl, ?_⟩) ?_ ?_
             rotate_left
             ·intro w'
              go_simp
              with_reducible rfl
             rotate_left
             ·simp only [Act.put, sA, sB, sC, sD, sE]
              rfl
             refine pure_ (i := 6) (N := some 23) (v := ?_) (a' := ?_) #[T,T,T,F,T,T,T,F,F,F,F] rfl rfl (any_of HT_.out (by kernel_rfl)) (fun _ _ _ h => h) (Or.inl ⟨by rfl, ?_⟩) ?_ ?_
             rotate_left
             ·intro w'
              go_simp
              with_reducible rfl
             rotate_left
             ·simp only [Act.put, sA, sB, sC, sD, sE]
              rfl
             refine pure_ (i := 7) (N := some 24) (v := ?_) (a' := ?_) #[T,T,T,F,T,T,T,T,F,F,F] rfl rfl (any_of HT_.out (by kernel_rfl)) (fun _ _ _ h => h) (Or.inl ⟨by rfl, ?_⟩) ?_ ?_
             rotate_left
             ·intro w'
              go_simp
              with_reducible rfl
             rotate_left
             ·simp only [Act.put, sA, sB, sC, sD, sE]
              rfl
             refine take_ (i := 3) (N := some 20) (v := ?_) (a' := ?_) #[T,T,T,T,T,T,T,T,F,F,F] rfl rfl (take_ofW HT_.out HW_.out (by kernel_rfl)) (fun _ _ _ h => h) (Or.inl ⟨by rfl, ?_⟩) hHeld ?_ ?_
             rotate_left
             ·rintro w' ⟨s0, s1, s2, s3⟩
              go_simp
              with_reducible rfl
             rotate_left
             ·simp only [Act.put, sA, sB, sC, sD, sE]
              rfl
             refine take_ (i := 8) (N := some 25) (v := ?_) (a' := ?_) #[T,T,T,T,T,T,T,T,T,F,F] rfl rfl (take_ofW HT_.out HW_.out (by kernel_rfl)) (fun _ _ _ h => h) (Or.inl ⟨by rfl, ?_⟩) hHeld ?_ ?_
             rotate_left
             ·rintro w' ⟨s0, s1, s2, s3⟩
              go_simp
              with_reducible rfl
             rotate_left
             ·simp only [Act.put, sA, sB, sC, sD, sE]
              rfl
             refine one_ (i := 9) (N := some 26) #[T,T,T,T,T,T,T,T,T,T,F] rfl rfl (one_of HT_.out (by kernel_rfl)) (by decide) (fun K hK => ?_)
             refine goes_ Try.func104 (by kernel_rfl) rfl #[.agg #[.int .i64 ((rd_T44 l0 x11_1).f0), .int .i64 ((rd_T44 l0 x11_1).f1)], .agg #[.int .i64 ((rd_T44 x3_1 (ji11)).f0), .int .i64 ((rd_T44 x3_1 (ji11)).f1)]] (by rfl) rfl rfl (by (try simp only [List.map_toArray, List.map_cons, List.map_nil]); first | done | (simp only [hji11]; rfl) | rfl | (simp only [List.length_drop, List.length_take]; rfl)) ?_
             with_reducible refine (spec_BeforePoint.calls ((rd_T44 l0 x11_1).f0) ((rd_T44 l0 x11_1).f1) ((rd_T44 x3_1 (ji11)).f0) ((rd_T44 x3_1 (ji11)).f1) false _ A14.out).mono ?_
             rintro e w20 ⟨rfl, hb⟩
             have HS2_ := (hb.cell (World.block_lt_of_cell? _ _ (hHeld.2.2.1))).trans (hHeld.2.2.1)
             have HS3_ := (hb.cell (World.block_lt_of_cell? _ _ (hHeld.2.2.2))).trans (hHeld.2.2.2)
             refine ⟨_, rfl, ?_⟩
             have n0_ := Ak (Kd.R_below (by (with_reducible repeat (first | apply Kd.R_alloc | apply Kd.R_drewN | apply Kd.R_drew)); exact HO_3.out) hb)
             have n1_ := Ak (blk_below (g := gb105) (o := .cells #[.int .i64 ((rd_T44 l0 x11_1).f0), .int .i64 ((rd_T44 l0 x11_1).f1)] 44 (0, 0)) (by exact BK105.out) hb)
             have n2_ := Ak (below_step (by repeat (first | exact HB.out | apply bA | apply bD | apply bE | refine below_set ?_ GE105.out)) hb)
             clear HO_3
             clear BK105
             clear HB
             have HO_3 := n0_
             have BK105 := n1_
             have HB := n2_
             clear n0_ n1_ n2_
             (try clear hb)
             (try clear hb2)
             (try clear hk)
             (try clear hi)
             refine hK.out _ _ ⟨(blk_cell BK105.out 0).trans rfl, (blk_cell BK105.out 1).trans rfl, HS2_, HS3_⟩ (fun hHeld => ?_)
             clear hK K
             refine norm_ (a' := ?_) ?_ ?_
             rotate_left
             ·show Act.put _ (some 26) _ = _
              simp only [Act.put, sA, sB, sC, sD, sE]
              rfl
             refine pure_ (i := 10) (N := some 27) (v := ?_) (a' := ?_) #[T,T,T,T,T,T,T,T,T,T,T] rfl rfl (any_of HT_.out (by kernel_rfl)) (fun _ _ _ h => h) (Or.inl ⟨by rfl, ?_⟩) ?_ ?_
             rotate_left
             ·intro w'
              go_simp
              with_reducible rfl
             rotate_left
             ·simp only [Act.put, sA, sB, sC, sD, sE]
              rfl
             refine done_ (done_of HT_.out (by kernel_rfl)) ?_
             try go_wp2
             have n0_ := Ak (Kd.R_drew HO_3.out)
             have n1_ := Ak (blk_drew BK105.out)
             have n2_ := Ak (below_drew1 HB.out)
             clear HO_3
             clear BK105
             clear HB
             have HO_3 := n0_
             have BK105 := n1_
             have HB := n2_
             clear n0_ n1_ n2_
             have p108 : 0 ≤ ((ji11) : Int) := of_decide_eq_true (by first | (with_reducible assumption) | assumption)
             have q108 : (ji11) < (x3_1.length : Int) := of_decide_eq_true (by first | (with_reducible assumption) | assumption)
             obtain ⟨ad108, e108, hx108_0, hx108_1⟩ := at_T44 (Kd.R_reads' HO_3.out).2.2 (ji11) p108 q108
             obtain rfl : ad106 = ad108 := (by injection e108)
             replace p108 := eq_true p108
             replace q108 := eq_true q108
             refine start_ (n := 11) (S := fun w' => w'.cell? ⟨gb105, 0, none⟩ = some (.int .i64 ((rd_T44 l0 x11_1).f0)) ∧ w'.cell? ⟨gb105, 1, none⟩ = some (.int .i64 ((rd_T44 l0 x11_1).f1)) ∧ w'.cell? (ad106.add (((ji11)).toNat * 2)) = some (.int .i64 ((rd_T44 x3_1 (ji11)).f0)) ∧ w'.cell? ⟨(ad106.add (((ji11)).toNat * 2)).block, (ad106.add (((ji11)).toNat * 2)).off + 1, none⟩ = some (.int .i64 ((rd_T44 x3_1 (ji11)).f1))) (ds := []) #[F,F,F,F,F,F,F,F,F,F,F] (by kernel_rfl) rfl rfl ⟨(blk_cell BK105.out 0).trans rfl, (blk_cell BK105.out 1).trans rfl, hx108_0, hx108_1⟩ (fun hHeld => ?_); refine with_tabW spec_l04Sort.tab8 spec_l04Sort.bits8 (fun HT_ HW_ => ?_)
             generalize w20.drew = w21 at HO_3 BK105 HB hx108_0 hx108_1 hHeld ⊢
             refine pure_ (i := 0) (N := some 30) (v := ?_) (a' := ?_) #[T,F,F,F,F,F,F,F,F,F,F] rfl rfl (any_of HT_.out (by kernel_rfl)) (fun _ _ _ h => h) (Or.inl ⟨by rfl, ?_⟩) ?_ ?_
             rotate_left
             ·intro w'
              go_simp
              with_reducible rfl
             rotate_left
             ·simp only [Act.put, sA, sB, sC, sD, sE]
              rfl
             refine pure_ (i := 1) (N := some 31) (v := ?_) (a' := ?_) #[T,T,F,F,F,F,F,F,F,F,F] rfl rfl (any_of HT_.out (by kernel_rfl)) (fun _ _ _ h => h) (Or.inl ⟨by rfl, ?_⟩) ?_ ?_
             rotate_left
             ·intro w'
              go_simp
              with_reducible rfl
             rotate_left
             ·simp only [Act.put, sA, sB, sC, sD, sE]
              rfl
             refine pure_ (i := 2) (N := some 32) (v := ?_) (a' := ?_) #[T,T,T,F,F,F,F,F,F,F,F] rfl rfl (any_of HT_.out (by kernel_rfl)) (fun _ _ _ h => h) (Or.inl ⟨by rfl, ?_⟩) ?_ ?_
             rotate_left
             ·intro w'
              go_simp
              with_reducible rfl
             rotate_left
             ·simp only [Act.put, sA, sB, sC, sD, sE]
              rfl
             refine pure_ (i := 3) (N := some 33) (v := ?_) (a' := ?_) #[T,T,T,T,F,F,F,F,F,F,F] rfl rfl (any_of HT_.out (by kernel_rfl)) (fun _ _ _ h => h) (Or.inl ⟨by rfl, ?_⟩) ?_ ?_
             rotate_left
             ·intro w'
              go_simp
              with_reducible rfl
             rotate_left
             ·simp only [Act.put, sA, sB, sC, sD, sE]
              rfl
             refine pure_ (i := 4) (N := some 34) (v := ?_) (a' := ?_) #[T,T,T,T,T,F,F,F,F,F,F] rfl rfl (any_of HT_.out (by kernel_rfl)) (fun _ _ _ h => h) (Or.inl ⟨by rfl, ?_⟩) ?_ ?_
             rotate_left
             ·intro w'
              go_simp
              with_reducible rfl
             rotate_left
             ·simp only [Act.put, sA, sB, sC, sD, sE]
              rfl
             refine pure_ (i := 5) (N := some 35) (v := ?_) (a' := ?_) #[T,T,T,T,T,T,F,F,F,F,F] rfl rfl (any_of HT_.out (by kernel_rfl)) (fun _ _ _ h => h) (Or.inl ⟨by rfl, ?_⟩) ?_ ?_
             rotate_left
             ·intro w'
              go_simp
              with_reducible rfl
             rotate_left
             ·simp only [Act.put, sA, sB, sC, sD, sE]
              rfl
             refine pure_ (i := 6) (N := some 36) (v := ?_) (a' := ?_) #[T,T,T,T,T,T,T,F,F,F,F] rfl rfl (any_of HT_.out (by kernel_rfl)) (fun _ _ _ h => h) (Or.inl ⟨by rfl, ?_⟩) ?_ ?_
             rotate_left
             ·intro w'
              go_simp
              with_reducible rfl
             rotate_left
             ·simp only [Act.put, sA, sB, sC, sD, sE]
              rfl
             refine take_ (i := 7) (N := some 37) (v := ?_) (a' := ?_) #[T,T,T,T,T,T,T,T,F,F,F] rfl rfl (take_ofW HT_.out HW_.out (by kernel_rfl)) (fun _ _ _ h => h) (Or.inl ⟨by rfl, ?_⟩) hHeld ?_ ?_
             rotate_left
             ·rintro w' ⟨s0, s1, s2, s3⟩
              go_simp
              with_reducible rfl
             rotate_left
             ·simp only [Act.put, sA, sB, sC, sD, sE]
              rfl
             refine take_ (i := 8) (N := some 38) (v := ?_) (a' := ?_) #[T,T,T,T,T,T,T,T,T,F,F] rfl rfl (take_ofW HT_.out HW_.out (by kernel_rfl)) (fun _ _ _ h => h) (Or.inl ⟨by rfl, ?_⟩) hHeld ?_ ?_
             rotate_left
             ·rintro w' ⟨s0, s1, s2, s3⟩
              go_simp
              with_reducible rfl
             rotate_left
             ·simp only [Act.put, sA, sB, sC, sD, sE]
              rfl
             refine pure_ (i := 9) (N := some 39) (v := ?_) (a' := ?_) #[T,T,T,T,T,T,T,T,T,T,F] rfl rfl (any_of HT_.out (by kernel_rfl)) (fun _ _ _ h => h) (Or.inl ⟨by rfl, ?_⟩) ?_ ?_
             rotate_left
             ·intro w'
              go_simp
              with_reducible rfl
             rotate_left
             ·simp only [Act.put, sA, sB, sC, sD, sE]
              rfl
             refine pure_ (i := 10) (N := some 40) (v := ?_) (a' := ?_) #[T,T,T,T,T,T,T,T,T,T,T] rfl rfl (any_of HT_.out (by kernel_rfl)) (fun _ _ _ h => h) (Or.inl ⟨by rfl, ?_⟩) ?_ ?_
             rotate_left
             ·intro w'
              go_simp
              with_reducible rfl
             rotate_left
             ·simp only [Act.put, sA, sB, sC, sD, sE]
              rfl
             refine done_ (done_of HT_.out (by kernel_rfl)) ?_
             try go_wp2
             go_roundg k2
             case measure => have := HK1.out; have := HK2.out; omega
             case rel => exact ⟨(x3_1), (wrap64 (x11_1 + 1)), (by first | rfl | (simp; done) | (simp [*]; done)), H', ⟨by have := HK1.out; have := HK2.out; omega⟩, ⟨by (with_reducible repeat (first | apply Kd.R_alloc | apply Kd.R_drewN | apply Kd.R_drew)); exact Kd.R_mono HO_3.out (fun _ hk => trivial)⟩, ⟨by repeat (first | (with_reducible first | exact HB.out | apply bA | apply bD | apply bE | refine below_set ?_ GE105.out) | exact HB.out)⟩⟩
            ·rw [if_neg c18] at H
             have c18b0 : (((rd_T44 x3_1 (ji11)).f0) == ((rd_T44 l0 x11_1).f0) && (((rd_T44 x3_1 (ji11)).f1) == ((rd_T44 l0 x11_1).f1))) = false := by simpa using c18
             (try (have c18b1 : decide (((rd_T44 x3_1 (ji11)).f0) = ((rd_T44 l0 x11_1).f0) && (((rd_T44 x3_1 (ji11)).f1) == ((rd_T44 l0 x11_1).f1))) = false := by simpa using c18))
             (try (have c18b2 : (((rd_T44 x3_1 (ji11)).f0) == ((rd_T44 l0 x11_1).f0) && (((rd_T44 x3_1 (ji11)).f1) == ((rd_T44 l0 x11_1).f1))) = false := by simpa using c18))
             (try (have c18b3 : ¬ (((rd_T44 x3_1 (ji11)).f0) = ((rd_T44 l0 x11_1).f0) && (((rd_T44 x3_1 (ji11)).f1) == ((rd_T44 l0 x11_1).f1))) := by simpa using c18))
             clear c18
             obtain ⟨y109, hy109⟩ : ∃ y_ : List (S44), y_ = (([] : List (S44))) := ⟨_, rfl⟩
             replace H : (if 0 ≤ x6_2 then (if x6_2 ≤ (x3_1.length : Int) then ((some (x3_1.take (x6_2 : Int).toNat : List (S44))).bind fun y112 => (if y109.length + y112.length < 8796093022208 then ((some (y109 ++ y112 : List (S44))).bind fun y116 => (if y116.length < 8796093022208 then ((some (y116 ++ [(⟨((rd_T44 l0 x11_1).f0), ((rd_T44 l0 x11_1).f1)⟩ : S44)] : List (S44))).bind fun y119 => ((some (x3_1.drop (x6_2 : Int).toNat : List (S44))).bind fun y122 => (if y119.length + y122.length < 8796093022208 then (spec_l04Sort.l0 k2 (y119 ++ y122) l0 (l0.length : Int) (wrap64 (x11_1 + 1))) else (none)))) else (none))) else (none))) else (none)) else (none)) = some r := by first | (rw [hy109]; exact H) | exact H
             have Ny109 := Ak hy109
             clear hy109
             by_cases c22 : 0 ≤ x6_2
             ·rw [if_pos c22] at H
              have c22b0 := eq_true c22
              have c22b1 : decide (0 ≤ x6_2) = true := decide_eq_true c22
              clear c22
              by_cases c23 : x6_2 ≤ (x3_1.length : Int)
              ·rw [if_pos c23] at H
               have c23b0 := eq_true c23
               have c23b1 : decide (x6_2 ≤ (x3_1.length : Int)) = true := decide_eq_true c23
               clear c23
               obtain ⟨y112, hy112⟩ : ∃ y_ : List (S44), y_ = (x3_1.take (x6_2 : Int).toNat) := ⟨_, rfl⟩
               replace H : (if y109.length + y112.length < 8796093022208 then ((some (y109 ++ y112 : List (S44))).bind fun y116 => (if y116.length < 8796093022208 then ((some (y116 ++ [(⟨((rd_T44 l0 x11_1).f0), ((rd_T44 l0 x11_1).f1)⟩ : S44)] : List (S44))).bind fun y119 => ((some (x3_1.drop (x6_2 : Int).toNat : List (S44))).bind fun y122 => (if y119.length + y122.length < 8796093022208 then (spec_l04Sort.l0 k2 (y119 ++ y122) l0 (l0.length : Int) (wrap64 (x11_1 + 1))) else (none)))) else (none))) else (none)) = some r := by first | (rw [hy112]; exact H) | exact H
               have Ny112 := Ak hy112
               clear hy112
               by_cases c24 : y109.length + y112.length < 8796093022208
               ·rw [if_pos c24] at H
                have LMc24 := Ak c24
                clear c24
                obtain ⟨y116, hy116⟩ : ∃ y_ : List (S44), y_ = (y109 ++ y112) := ⟨_, rfl⟩
                replace H : (if y116.length < 8796093022208 then ((some (y116 ++ [(⟨((rd_T44 l0 x11_1).f0), ((rd_T44 l0 x11_1).f1)⟩ : S44)] : List (S44))).bind fun y119 => ((some (x3_1.drop (x6_2 : Int).toNat : List (S44))).bind fun y122 => (if y119.length + y122.length < 8796093022208 then (spec_l04Sort.l0 k2 (y119 ++ y122) l0 (l0.length : Int) (wrap64 (x11_1 + 1))) else (none)))) else (none)) = some r := by first | (rw [hy116]; exact H) | exact H
                have Ny116 := Ak hy116
                clear hy116
                by_cases c25 : y116.length < 8796093022208
                ·rw [if_pos c25] at H
                 have LMc25 := Ak c25
                 clear c25
                 obtain ⟨y119, hy119⟩ : ∃ y_ : List (S44), y_ = (y116 ++ [(⟨((rd_T44 l0 x11_1).f0), ((rd_T44 l0 x11_1).f1)⟩ : S44)]) := ⟨_, rfl⟩
                 replace H : ((some (x3_1.drop (x6_2 : Int).toNat : List (S44))).bind fun y122 => (if y119.length + y122.length < 8796093022208 then (spec_l04Sort.l0 k2 (y119 ++ y122) l0 (l0.length : Int) (wrap64 (x11_1 + 1))) else (none))) = some r := by first | (rw [hy119]; exact H) | exact H
                 have Ny119 := Ak hy119
                 clear hy119
                 have c26b0 := eq_true (of_decide_eq_true (by first | (with_reducible assumption) | assumption) : 0 ≤ x6_2)
                 have c27b0 := eq_true (of_decide_eq_true (by first | (with_reducible assumption) | assumption) : x6_2 ≤ (x3_1.length : Int))
                 obtain ⟨y122, hy122⟩ : ∃ y_ : List (S44), y_ = (x3_1.drop (x6_2 : Int).toNat) := ⟨_, rfl⟩
                 replace H : (if y119.length + y122.length < 8796093022208 then (spec_l04Sort.l0 k2 (y119 ++ y122) l0 (l0.length : Int) (wrap64 (x11_1 + 1))) else (none)) = some r := by first | (rw [hy122]; exact H) | exact H
                 have Ny122 := Ak hy122
                 clear hy122
                 by_cases c28 : y119.length + y122.length < 8796093022208
                 ·rw [if_pos c28] at H
                  have LMc28 := Ak c28
                  clear c28
                  obtain ⟨y126, hy126⟩ : ∃ y_ : List (S44), y_ = (y119 ++ y122) := ⟨_, rfl⟩
                  replace H : (spec_l04Sort.l0 k2 y126 l0 (l0.length : Int) (wrap64 (x11_1 + 1))) = some r := by first | (rw [hy126]; exact H) | exact H
                  have Ny126 := Ak hy126
                  clear hy126
                  have H' := Ak H
                  clear H
                  try go_wp2
                  have n0_ := Ak (Kd.R_drew HO_3.out)
                  have n1_ := Ak (blk_drew BK105.out)
                  have n2_ := Ak (below_drew1 HB.out)
                  clear HO_3
                  clear BK105
                  clear HB
                  have HO_3 := n0_
                  have BK105 := n1_
                  have HB := n2_
                  clear n0_ n1_ n2_
                  have p106 : 0 ≤ ((ji11) : Int) := of_decide_eq_true (by first | (with_reducible assumption) | assumption)
                  have q106 : (ji11) < (x3_1.length : Int) := of_decide_eq_true (by first | (with_reducible assumption) | assumption)
                  obtain ⟨ad106, e106, hx106_0, hx106_1⟩ := at_T44 (Kd.R_reads' HO_3.out).2.2 (ji11) p106 q106
                  cases e106
                  replace p106 := eq_true p106
                  replace q106 := eq_true q106
                  refine start_ (n := 11) (S := fun w' => w'.cell? ⟨gb105, 0, none⟩ = some (.int .i64 ((rd_T44 l0 x11_1).f0)) ∧ w'.cell? ⟨gb105, 1, none⟩ = some (.int .i64 ((rd_T44 l0 x11_1).f1)) ∧ w'.cell? (ad106.add (((ji11)).toNat * 2)) = some (.int .i64 ((rd_T44 x3_1 (ji11)).f0)) ∧ w'.cell? ⟨(ad106.add (((ji11)).toNat * 2)).block, (ad106.add (((ji11)).toNat * 2)).off + 1, none⟩ = some (.int .i64 ((rd_T44 x3_1 (ji11)).f1))) (ds := []) #[F,F,F,F,F,F,F,F,F,F,F] (by kernel_rfl) rfl rfl ⟨(blk_cell BK105.out 0).trans rfl, (blk_cell BK105.out 1).trans rfl, hx106_0, hx106_1⟩ (fun hHeld => ?_); refine with_tabW spec_l04Sort.tab6 spec_l04Sort.bits6 (fun HT_ HW_ => ?_)
                  generalize wr.drew = w29 at HO_3 BK105 HB hx106_0 hx106_1 hHeld ⊢
                  refine pure_ (i := 0) (N := some 17) (v := ?_) (a' := ?_) #[T,F,F,F,F,F,F,F,F,F,F] rfl rfl (any_of HT_.out (by kernel_rfl)) (fun _ _ _ h => h) (Or.inl ⟨by rfl, ?_⟩) ?_ ?_
                  rotate_left
                  ·intro w'
                   go_simp
                   with_reducible rfl
                  rotate_left
                  ·simp only [Act.put, sA, sB, sC, sD, sE]
                   rfl
                  refine pure_ (i := 1) (N := some 18) (v := ?_) (a' := ?_) #[T,T,F,F,F,F,F,F,F,F,F] rfl rfl (any_of HT_.out (by kernel_rfl)) (fun _ _ _ h => h) (Or.inl ⟨by rfl, ?_⟩) ?_ ?_
                  rotate_left
                  ·intro w'
                   go_simp
                   with_reducible rfl
                  rotate_left
                  ·simp only [Act.put, sA, sB, sC, sD, sE]
                   rfl
                  refine pure_ (i := 2) (N := some 19) (v := ?_) (a' := ?_) #[T,T,T,F,F,F,F,F,F,F,F] rfl rfl (any_of HT_.out (by kernel_rfl)) (fun _ _ _ h => h) (Or.inl ⟨by rfl, ?_⟩) ?_ ?_
                  rotate_left
                  ·intro w'
                   go_simp
                   with_reducible rfl
                  rotate_left
                  ·simp only [Act.put, sA, sB, sC, sD, sE]
                   rfl
                  refine pure_ (i := 4) (N := some 21) (v := ?_) (a' := ?_) #[T,T,T,F,T,F,F,F,F,F,F] rfl rfl (any_of HT_.out (by kernel_rfl)) (fun _ _ _ h => h) (Or.inl ⟨by rfl, ?_⟩) ?_ ?_
                  rotate_left
                  ·intro w'
                   go_simp
                   with_reducible rfl
                  rotate_left
                  ·simp only [Act.put, sA, sB, sC, sD, sE]
                   rfl
                  refine pure_ (i := 5) (N := some 22) (v := ?_) (a' := ?_) #[T,T,T,F,T,T,F,F,F,F,F] rfl rfl (any_of HT_.out (by kernel_rfl)) (fun _ _ _ h => h) (Or.inl ⟨by rfl, ?_⟩) ?_ ?_
                  rotate_left
                  ·intro w'
                   go_simp
                   with_reducible rfl
                  rotate_left
                  ·simp only [Act.put, sA, sB, sC, sD, sE]
                   rfl
                  refine pure_ (i := 6) (N := some 23) (v := ?_) (a' := ?_) #[T,T,T,F,T,T,T,F,F,F,F] rfl rfl (any_of HT_.out (by kernel_rfl)) (fun _ _ _ h => h) (Or.inl ⟨by rfl, ?_⟩) ?_ ?_
                  rotate_left
                  ·intro w'
                   go_simp
                   with_reducible rfl
                  rotate_left
                  ·simp only [Act.put, sA, sB, sC, sD, sE]
                   rfl
                  refine pure_ (i := 7) (N := some 24) (v := ?_) (a' := ?_) #[T,T,T,F,T,T,T,T,F,F,F] rfl rfl (any_of HT_.out (by kernel_rfl)) (fun _ _ _ h => h) (Or.inl ⟨by rfl, ?_⟩) ?_ ?_
                  rotate_left
                  ·intro w'
                   go_simp
                   with_reducible rfl
                  rotate_left
                  ·simp only [Act.put, sA, sB, sC, sD, sE]
                   rfl
                  refine take_ (i := 3) (N := some 20) (v := ?_) (a' := ?_) #[T,T,T,T,T,T,T,T,F,F,F] rfl rfl (take_ofW HT_.out HW_.out (by kernel_rfl)) (fun _ _ _ h => h) (Or.inl ⟨by rfl, ?_⟩) hHeld ?_ ?_
                  rotate_left
                  ·rintro w' ⟨s0, s1, s2, s3⟩
                   go_simp
                   with_reducible rfl
                  rotate_left
                  ·simp only [Act.put, sA, sB, sC, sD, sE]
                   rfl
                  refine take_ (i := 8) (N := some 25) (v := ?_) (a' := ?_) #[T,T,T,T,T,T,T,T,T,F,F] rfl rfl (take_ofW HT_.out HW_.out (by kernel_rfl)) (fun _ _ _ h => h) (Or.inl ⟨by rfl, ?_⟩) hHeld ?_ ?_
                  rotate_left
                  ·rintro w' ⟨s0, s1, s2, s3⟩
                   go_simp
                   with_reducible rfl
                  rotate_left
                  ·simp only [Act.put, sA, sB, sC, sD, sE]
                   rfl
                  refine one_ (i := 9) (N := some 26) #[T,T,T,T,T,T,T,T,T,T,F] rfl rfl (one_of HT_.out (by kernel_rfl)) (by decide) (fun K hK => ?_)
                  refine goes_ Try.func104 (by kernel_rfl) rfl #[.agg #[.int .i64 ((rd_T44 l0 x11_1).f0), .int .i64 ((rd_T44 l0 x11_1).f1)], .agg #[.int .i64 ((rd_T44 x3_1 (ji11)).f0), .int .i64 ((rd_T44 x3_1 (ji11)).f1)]] (by rfl) rfl rfl (by (try simp only [List.map_toArray, List.map_cons, List.map_nil]); first | done | (simp only [hji11]; rfl) | rfl | (simp only [List.length_drop, List.length_take]; rfl)) ?_
                  with_reducible refine (spec_BeforePoint.calls ((rd_T44 l0 x11_1).f0) ((rd_T44 l0 x11_1).f1) ((rd_T44 x3_1 (ji11)).f0) ((rd_T44 x3_1 (ji11)).f1) false _ A14.out).mono ?_
                  rintro e w30 ⟨rfl, hb⟩
                  have HS2_ := (hb.cell (World.block_lt_of_cell? _ _ (hHeld.2.2.1))).trans (hHeld.2.2.1)
                  have HS3_ := (hb.cell (World.block_lt_of_cell? _ _ (hHeld.2.2.2))).trans (hHeld.2.2.2)
                  refine ⟨_, rfl, ?_⟩
                  have n0_ := Ak (Kd.R_below (by (with_reducible repeat (first | apply Kd.R_alloc | apply Kd.R_drewN | apply Kd.R_drew)); exact HO_3.out) hb)
                  have n1_ := Ak (blk_below (g := gb105) (o := .cells #[.int .i64 ((rd_T44 l0 x11_1).f0), .int .i64 ((rd_T44 l0 x11_1).f1)] 44 (0, 0)) (by exact BK105.out) hb)
                  have n2_ := Ak (below_step (by repeat (first | exact HB.out | apply bA | apply bD | apply bE | refine below_set ?_ GE105.out)) hb)
                  clear HO_3
                  clear BK105
                  clear HB
                  have HO_3 := n0_
                  have BK105 := n1_
                  have HB := n2_
                  clear n0_ n1_ n2_
                  (try clear hb)
                  (try clear hb2)
                  (try clear hk)
                  (try clear hi)
                  refine hK.out _ _ ⟨(blk_cell BK105.out 0).trans rfl, (blk_cell BK105.out 1).trans rfl, HS2_, HS3_⟩ (fun hHeld => ?_)
                  clear hK K
                  refine norm_ (a' := ?_) ?_ ?_
                  rotate_left
                  ·show Act.put _ (some 26) _ = _
                   simp only [Act.put, sA, sB, sC, sD, sE]
                   rfl
                  refine pure_ (i := 10) (N := some 27) (v := ?_) (a' := ?_) #[T,T,T,T,T,T,T,T,T,T,T] rfl rfl (any_of HT_.out (by kernel_rfl)) (fun _ _ _ h => h) (Or.inl ⟨by rfl, ?_⟩) ?_ ?_
                  rotate_left
                  ·intro w'
                   go_simp
                   with_reducible rfl
                  rotate_left
                  ·simp only [Act.put, sA, sB, sC, sD, sE]
                   rfl
                  refine done_ (done_of HT_.out (by kernel_rfl)) ?_
                  try go_wp2
                  have n0_ := Ak (Kd.R_drew HO_3.out)
                  have n1_ := Ak (blk_drew BK105.out)
                  have n2_ := Ak (below_drew1 HB.out)
                  clear HO_3
                  clear BK105
                  clear HB
                  have HO_3 := n0_
                  have BK105 := n1_
                  have HB := n2_
                  clear n0_ n1_ n2_
                  have p108 : 0 ≤ ((ji11) : Int) := of_decide_eq_true (by first | (with_reducible assumption) | assumption)
                  have q108 : (ji11) < (x3_1.length : Int) := of_decide_eq_true (by first | (with_reducible assumption) | assumption)
                  obtain ⟨ad108, e108, hx108_0, hx108_1⟩ := at_T44 (Kd.R_reads' HO_3.out).2.2 (ji11) p108 q108
                  obtain rfl : ad106 = ad108 := (by injection e108)
                  replace p108 := eq_true p108
                  replace q108 := eq_true q108
                  refine start_ (n := 11) (S := fun w' => w'.cell? ⟨gb105, 0, none⟩ = some (.int .i64 ((rd_T44 l0 x11_1).f0)) ∧ w'.cell? ⟨gb105, 1, none⟩ = some (.int .i64 ((rd_T44 l0 x11_1).f1)) ∧ w'.cell? (ad106.add (((ji11)).toNat * 2)) = some (.int .i64 ((rd_T44 x3_1 (ji11)).f0)) ∧ w'.cell? ⟨(ad106.add (((ji11)).toNat * 2)).block, (ad106.add (((ji11)).toNat * 2)).off + 1, none⟩ = some (.int .i64 ((rd_T44 x3_1 (ji11)).f1))) (ds := []) #[F,F,F,F,F,F,F,F,F,F,F] (by kernel_rfl) rfl rfl ⟨(blk_cell BK105.out 0).trans rfl, (blk_cell BK105.out 1).trans rfl, hx108_0, hx108_1⟩ (fun hHeld => ?_); refine with_tabW spec_l04Sort.tab8 spec_l04Sort.bits8 (fun HT_ HW_ => ?_)
                  generalize w30.drew = w31 at HO_3 BK105 HB hx108_0 hx108_1 hHeld ⊢
                  refine pure_ (i := 0) (N := some 30) (v := ?_) (a' := ?_) #[T,F,F,F,F,F,F,F,F,F,F] rfl rfl (any_of HT_.out (by kernel_rfl)) (fun _ _ _ h => h) (Or.inl ⟨by rfl, ?_⟩) ?_ ?_
                  rotate_left
                  ·intro w'
                   go_simp
                   with_reducible rfl
                  rotate_left
                  ·simp only [Act.put, sA, sB, sC, sD, sE]
                   rfl
                  refine pure_ (i := 1) (N := some 31) (v := ?_) (a' := ?_) #[T,T,F,F,F,F,F,F,F,F,F] rfl rfl (any_of HT_.out (by kernel_rfl)) (fun _ _ _ h => h) (Or.inl ⟨by rfl, ?_⟩) ?_ ?_
                  rotate_left
                  ·intro w'
                   go_simp
                   with_reducible rfl
                  rotate_left
                  ·simp only [Act.put, sA, sB, sC, sD, sE]
                   rfl
                  refine pure_ (i := 2) (N := some 32) (v := ?_) (a' := ?_) #[T,T,T,F,F,F,F,F,F,F,F] rfl rfl (any_of HT_.out (by kernel_rfl)) (fun _ _ _ h => h) (Or.inl ⟨by rfl, ?_⟩) ?_ ?_
                  rotate_left
                  ·intro w'
                   go_simp
                   with_reducible rfl
                  rotate_left
                  ·simp only [Act.put, sA, sB, sC, sD, sE]
                   rfl
                  refine pure_ (i := 3) (N := some 33) (v := ?_) (a' := ?_) #[T,T,T,T,F,F,F,F,F,F,F] rfl rfl (any_of HT_.out (by kernel_rfl)) (fun _ _ _ h => h) (Or.inl ⟨by rfl, ?_⟩) ?_ ?_
                  rotate_left
                  ·intro w'
                   go_simp
                   with_reducible rfl
                  rotate_left
                  ·simp only [Act.put, sA, sB, sC, sD, sE]
                   rfl
                  refine pure_ (i := 4) (N := some 34) (v := ?_) (a' := ?_) #[T,T,T,T,T,F,F,F,F,F,F] rfl rfl (any_of HT_.out (by kernel_rfl)) (fun _ _ _ h => h) (Or.inl ⟨by rfl, ?_⟩) ?_ ?_
                  rotate_left
                  ·intro w'
                   go_simp
                   with_reducible rfl
                  rotate_left
                  ·simp only [Act.put, sA, sB, sC, sD, sE]
                   rfl
                  refine pure_ (i := 5) (N := some 35) (v := ?_) (a' := ?_) #[T,T,T,T,T,T,F,F,F,F,F] rfl rfl (any_of HT_.out (by kernel_rfl)) (fun _ _ _ h => h) (Or.inl ⟨by rfl, ?_⟩) ?_ ?_
                  rotate_left
                  ·intro w'
                   go_simp
                   with_reducible rfl
                  rotate_left
                  ·simp only [Act.put, sA, sB, sC, sD, sE]
                   rfl
                  refine pure_ (i := 6) (N := some 36) (v := ?_) (a' := ?_) #[T,T,T,T,T,T,T,F,F,F,F] rfl rfl (any_of HT_.out (by kernel_rfl)) (fun _ _ _ h => h) (Or.inl ⟨by rfl, ?_⟩) ?_ ?_
                  rotate_left
                  ·intro w'
                   go_simp
                   with_reducible rfl
                  rotate_left
                  ·simp only [Act.put, sA, sB, sC, sD, sE]
                   rfl
                  refine take_ (i := 7) (N := some 37) (v := ?_) (a' := ?_) #[T,T,T,T,T,T,T,T,F,F,F] rfl rfl (take_ofW HT_.out HW_.out (by kernel_rfl)) (fun _ _ _ h => h) (Or.inl ⟨by rfl, ?_⟩) hHeld ?_ ?_
                  rotate_left
                  ·rintro w' ⟨s0, s1, s2, s3⟩
                   go_simp
                   with_reducible rfl
                  rotate_left
                  ·simp only [Act.put, sA, sB, sC, sD, sE]
                   rfl
                  refine take_ (i := 8) (N := some 38) (v := ?_) (a' := ?_) #[T,T,T,T,T,T,T,T,T,F,F] rfl rfl (take_ofW HT_.out HW_.out (by kernel_rfl)) (fun _ _ _ h => h) (Or.inl ⟨by rfl, ?_⟩) hHeld ?_ ?_
                  rotate_left
                  ·rintro w' ⟨s0, s1, s2, s3⟩
                   go_simp
                   with_reducible rfl
                  rotate_left
                  ·simp only [Act.put, sA, sB, sC, sD, sE]
                   rfl
                  refine pure_ (i := 9) (N := some 39) (v := ?_) (a' := ?_) #[T,T,T,T,T,T,T,T,T,T,F] rfl rfl (any_of HT_.out (by kernel_rfl)) (fun _ _ _ h => h) (Or.inl ⟨by rfl, ?_⟩) ?_ ?_
                  rotate_left
                  ·intro w'
                   go_simp
                   with_reducible rfl
                  rotate_left
                  ·simp only [Act.put, sA, sB, sC, sD, sE]
                   rfl
                  refine pure_ (i := 10) (N := some 40) (v := ?_) (a' := ?_) #[T,T,T,T,T,T,T,T,T,T,T] rfl rfl (any_of HT_.out (by kernel_rfl)) (fun _ _ _ h => h) (Or.inl ⟨by rfl, ?_⟩) ?_ ?_
                  rotate_left
                  ·intro w'
                   go_simp
                   with_reducible rfl
                  rotate_left
                  ·simp only [Act.put, sA, sB, sC, sD, sE]
                   rfl
                  refine done_ (done_of HT_.out (by kernel_rfl)) ?_
                  try go_wp2_with (first | ((with_reducible refine gate_dst (N := 41) rfl ?_); refine Kd.R_lit k44 _ 44 ?hg (N := 41) ?hd (xs := ([] : List (S44))) (inner := []) (ok := fun _ => True) (okp := fun _ => True) ?hr ?hp (fun _ hk => hk) trivial (Below.refl _ _) (Nat.le_refl _) (by simp) ?_; (case hd | hg => rfl); (case hr => first | (go_simp; done) | (go_simp; rfl)); (case hp => exact (Reps.none _ _)); intro v110 w32 ho33 hb hg_ hnew_; clear hg_ hnew_; (first | rw [← Ny109.out] at ho33 | (simp only [Int.reduceToNat] at ho33; rw [← Ny109.out] at ho33)); have n0_ := Ak (Kd.R_elder' (by (with_reducible repeat (first | apply Kd.R_alloc | apply Kd.R_drewN | apply Kd.R_drew)); exact HO_3.out) (Kd.R_base ho33) hb); have n1_ := Ak (Kd.R_lower (Kd.R_newB (Kd.R_new' ho33 (Kd.R_lt (by (with_reducible repeat (first | apply Kd.R_alloc | apply Kd.R_drewN | apply Kd.R_drew)); exact HO_3.out))) (g := gb105) (o := .cells #[.int .i64 ((rd_T44 l0 x11_1).f0), .int .i64 ((rd_T44 l0 x11_1).f1)] 44 (0, 0)) (by exact BK105.out)) (below_size (by repeat (first | exact HB.out | apply bA | apply bD | apply bE | refine below_set ?_ GE105.out)))); have n2_ := Ak (blk_below (g := gb105) (o := .cells #[.int .i64 ((rd_T44 l0 x11_1).f0), .int .i64 ((rd_T44 l0 x11_1).f1)] 44 (0, 0)) (by exact BK105.out) hb); have n3_ := Ak (below_step (by repeat (first | exact HB.out | apply bA | apply bD | apply bE | refine below_set ?_ GE105.out)) hb); clear HO_3; clear BK105; clear HB; have HO_3 := n0_; have HO111 := n1_; have BK105 := n2_; have HB := n3_; clear n0_ n1_ n2_ n3_; clear hb ho33; have q34 : (x6_2 : Int) ≤ ((x3_1.length : Int) : Int) := of_decide_eq_true (by first | (with_reducible assumption) | assumption); obtain ⟨i034, hi034, _, hsz34, _⟩ := info_parts info44; have hroom34 : x3_1.length ≤ co9 := (Kd.R_reads' HO_3.out).2.1; have hC34 : Kd.C k44 _ (some ad106) x3_1.length x3_1 := (Kd.R_reads' HO_3.out).2.2; have hcut34 := cut_to (P := Try.prog) 24 44 .i64 Try.underlying24 hi034 (some ad106) x3_1.length co9 x6_2 (of_decide_eq_true (by first | (with_reducible assumption) | assumption)) q34 hroom34; have hr34 := Kd.C_take (m := (x6_2 : Int).toNat) hC34 (by omega); have hy34 : y112.length = (x6_2 : Int).toNat := (by rw [Ny112.out, List.length_take]; omega); rw [← Ny112.out] at hr34; rw [← hy34] at hcut34; have HR115 := Ak hr34; have HC115 := Ak (show y112.length ≤ co9 from by omega); clear hr34 hC34 hroom34 hi034 hsz34; have KY34 := Ak hy34; clear hy34; have KL34 := Ak (show (x6_2 : Int).toNat ≤ x3_1.length from by omega); replace q34 := eq_true q34) | ((with_reducible refine gate_builtin (b := .append) (xs := #[.tmp 41, .tmp 44]) rfl ?_); at_builtin; refine Kd.R_append_rows k44 (w0 := w) w.heap.size rfl (.tmp 41) (.tmp 44) 24 44 (.agg #[(.int .i64 0), (.int .i64 0)]) 16 rfl Try.underlying24 info44 rfl (by decide) (by omega) v110 y109 y112 _ _ _ (fun k_ => some k_ ≠ (.slice (some ad106) x3_1.length co9 : Value).ownBlock ∧ k_ ≠ gb105) (fun _ => False) rfl rfl ?aO ?aR (fun _ _ h => h) (fun _ h => h.elim) ?aF ?aB ?aS ?aL ?_; (case aR => repeat (first | exact (by repeat (first | (with_reducible exact HR115.out) | (with_reducible refine Kd.C_alloc ?_ _) | (with_reducible refine Kd.C_drewN ?_ _) | (with_reducible refine Kd.C_drew ?_) | exact HR115.out)) | (with_reducible refine Kd.C_alloc ?_ _) | (with_reducible refine Kd.C_drewN ?_ _) | (with_reducible refine Kd.C_drew ?_))); (case aB => exact (by repeat (first | exact HB.out | apply bA | apply bD | apply bE | refine below_set ?_ GE105.out))); (case aF => exact (fun k_ hk => ⟨Kd.fresh' (Kd.R_lt (by (with_reducible repeat (first | apply Kd.R_alloc | apply Kd.R_drewN | apply Kd.R_drew)); exact HO_3.out)) k_ hk, Kd.freshB (g := gb105) (o := .cells #[.int .i64 ((rd_T44 l0 x11_1).f0), .int .i64 ((rd_T44 l0 x11_1).f1)] 44 (0, 0)) (by exact BK105.out) k_ hk⟩)); (case aO => exact (by (with_reducible repeat (first | apply Kd.R_alloc | apply Kd.R_drewN | apply Kd.R_drew)); exact Kd.R_mono HO111.out (fun _ hk => ⟨hk.1.2, hk.2⟩))); (case aS => exact (below_size (by repeat (first | exact HB.out | apply bA | apply bD | apply bE | refine below_set ?_ GE105.out)))); (case aL => have := LMc24.out; omega); intro v117 w35 ho hb hg hat; rw [← Ny116.out] at ho; have n0_ := Ak (Kd.R_after (ok := (fun k_ => k_ ≠ gb105)) (by (with_reducible repeat (first | apply Kd.R_alloc | apply Kd.R_drewN | apply Kd.R_drew)); exact HO_3.out) hg hat); have n1_ := Ak (blk_grown (g := gb105) (o := .cells #[.int .i64 ((rd_T44 l0 x11_1).f0), .int .i64 ((rd_T44 l0 x11_1).f1)] 44 (0, 0)) (by exact BK105.out) hg (Kd.R_away HO111.out (fun _ hk => hk.2))); have n2_ := Ak (hb); have n3_ := Ak ((show Kd.C k44 w35 (some ad106) y112.length y112 from by rw [Ny112.out]; exact Kd.C_take (m := (x6_2 : Int).toNat) ((Kd.R_reads' (Kd.R_after (ok := (fun k_ => k_ ≠ gb105)) (by (with_reducible repeat (first | apply Kd.R_alloc | apply Kd.R_drewN | apply Kd.R_drew)); exact HO_3.out) hg hat)).2.2) KL34.out)); have n4_ := Ak (ho); clear HO_3; clear BK105; clear HB; clear HR115; clear HO111; have HO_3 := n0_; have BK105 := n1_; have HB := n2_; have HR115 := n3_; have HO118 := n4_; clear n0_ n1_ n2_ n3_ n4_; clear ho hb hg hat; have hcz36_0 : w35.cell? ⟨gb105, 0, none⟩ = some (.int .i64 ((rd_T44 l0 x11_1).f0)) := (blk_cell BK105.out 0).trans rfl; have hcz36_1 : w35.cell? ⟨gb105, 1, none⟩ = some (.int .i64 ((rd_T44 l0 x11_1).f1)) := (blk_cell BK105.out 1).trans rfl; have hfz36_0 := blk_frozen BK105.out 0; have hfz36_1 := blk_frozen BK105.out 1) | ((with_reducible refine gate_builtin (b := .append) (xs := #[.tmp 46, .tmp 48]) rfl ?_); at_builtin; refine Kd.R_append k44 (w0 := w) w.heap.size rfl (.tmp 46) (.tmp 48) 24 44 (.agg #[(.int .i64 0), (.int .i64 0)]) 16 rfl Try.underlying24 info44 rfl (by decide) (by omega) v117 y116 (⟨((rd_T44 l0 x11_1).f0), ((rd_T44 l0 x11_1).f1)⟩ : S44) [.int .i64 ((rd_T44 l0 x11_1).f0), .int .i64 ((rd_T44 l0 x11_1).f1)] (fun k_ => some k_ ≠ (.slice (some ad106) x3_1.length co9 : Value).ownBlock ∧ k_ ≠ gb105) (fun _ => False) rfl rfl ?aP (fun _ hk => hk.elim) ?aF ?aO ?aB ?aS ?aL ?_; (case aP => exact k44_mkM _ _ _ (⟨((rd_T44 l0 x11_1).f0), ((rd_T44 l0 x11_1).f1)⟩ : S44)); (case aB => exact (by repeat (first | exact HB.out | apply bA | apply bD | apply bE | refine below_set ?_ GE105.out))); (case aF => exact (fun k_ hk => ⟨Kd.fresh' (Kd.R_lt (by (with_reducible repeat (first | apply Kd.R_alloc | apply Kd.R_drewN | apply Kd.R_drew)); exact HO_3.out)) k_ hk, Kd.freshB (g := gb105) (o := .cells #[.int .i64 ((rd_T44 l0 x11_1).f0), .int .i64 ((rd_T44 l0 x11_1).f1)] 44 (0, 0)) (by exact BK105.out) k_ hk⟩)); (case aO => exact (by (with_reducible repeat (first | apply Kd.R_alloc | apply Kd.R_drewN | apply Kd.R_drew)); exact HO118.out)); (case aS => exact (below_size (by repeat (first | exact HB.out | apply bA | apply bD | apply bE | refine below_set ?_ GE105.out)))); (case aL => have := LMc25.out; omega); intro v120 w37 ho hb hg hat; rw [← Ny119.out] at ho; have n0_ := Ak (Kd.R_after (ok := (fun k_ => k_ ≠ gb105)) (by (with_reducible repeat (first | apply Kd.R_alloc | apply Kd.R_drewN | apply Kd.R_drew)); exact HO_3.out) hg hat); have n1_ := Ak (blk_grown (g := gb105) (o := .cells #[.int .i64 ((rd_T44 l0 x11_1).f0), .int .i64 ((rd_T44 l0 x11_1).f1)] 44 (0, 0)) (by exact BK105.out) hg (Kd.R_away HO118.out (fun _ hk => hk.2))); have n2_ := Ak (hb); have n3_ := Ak ((show Kd.C k44 w37 (some ad106) y112.length y112 from by rw [Ny112.out]; exact Kd.C_take (m := (x6_2 : Int).toNat) ((Kd.R_reads' (Kd.R_after (ok := (fun k_ => k_ ≠ gb105)) (by (with_reducible repeat (first | apply Kd.R_alloc | apply Kd.R_drewN | apply Kd.R_drew)); exact HO_3.out) hg hat)).2.2) KL34.out)); have n4_ := Ak (ho); clear HO_3; clear BK105; clear HB; clear HR115; clear HO118; have HO_3 := n0_; have BK105 := n1_; have HB := n2_; have HR115 := n3_; have HO121 := n4_; clear n0_ n1_ n2_ n3_ n4_; clear ho hb hg hat; have q38 : (x6_2 : Int) ≤ ((x3_1.length : Int) : Int) := of_decide_eq_true (by first | (with_reducible assumption) | assumption); obtain ⟨i038, hi038, _, hsz38, _⟩ := info_parts info44; have hroom38 : x3_1.length ≤ co9 := (Kd.R_reads' HO_3.out).2.1; have hC38 : Kd.C k44 _ (some ad106) x3_1.length x3_1 := (Kd.R_reads' HO_3.out).2.2; have q038 : (0 : Int) ≤ (x6_2 : Int) := of_decide_eq_true (by first | (with_reducible assumption) | assumption); have hcut38 := cut_from (P := Try.prog) 24 44 .i64 Try.underlying24 hi038 2 hsz38 (some ad106) x3_1.length co9 x6_2 q038 q38; have hr38 := Kd.C_drop (m := (x6_2 : Int).toNat) (c := co9) hC38 (by omega) hroom38; obtain ⟨A38, hA38⟩ : ∃ A1, A1 = (if co9 = (x6_2 : Int).toNat then (some ad106) else ((some ad106) : Option Addr).map (·.add ((x6_2 : Int).toNat * 2))) := ⟨_, rfl⟩; obtain ⟨c38, hc38⟩ : ∃ c1, c1 = co9 - (x6_2 : Int).toNat := ⟨_, rfl⟩; have hy38 : y122.length = x3_1.length - (x6_2 : Int).toNat := (by rw [Ny122.out, List.length_drop] <;> omega); rw [show (x3_1).drop (x6_2 : Int).toNat = y122 from Ny122.out.symm] at hr38; replace hr38 : Kd.C k44 _ A38 y122.length y122 := (by rw [hA38]; exact hr38); rw [← hy38, ← hA38, ← hc38] at hcut38; have HR125 := Ak hr38; have HC125 := Ak (show y122.length ≤ c38 from by rw [hy38, hc38]; exact Nat.sub_le_sub_right hroom38 _); clear hr38 hC38 hroom38 hi038 hsz38 hc38; have KY38 := Ak hy38; have KA38 := Ak hA38; clear hy38 hA38; have KL38 := Ak (show (x6_2 : Int).toNat ≤ x3_1.length from by omega); replace q38 := eq_true q38) | ((with_reducible refine gate_builtin (b := .append) (xs := #[.tmp 50, .tmp 53]) rfl ?_); at_builtin; refine Kd.R_append_rows k44 (w0 := w) w.heap.size rfl (.tmp 50) (.tmp 53) 24 44 (.agg #[(.int .i64 0), (.int .i64 0)]) 16 rfl Try.underlying24 info44 rfl (by decide) (by omega) v120 y119 y122 _ _ _ (fun k_ => some k_ ≠ (.slice (some ad106) x3_1.length co9 : Value).ownBlock ∧ k_ ≠ gb105) (fun _ => False) rfl rfl ?aO ?aR (fun _ _ h => h) (fun _ h => h.elim) ?aF ?aB ?aS ?aL ?_; (case aR => repeat (first | exact (by repeat (first | (with_reducible exact HR125.out) | (with_reducible refine Kd.C_alloc ?_ _) | (with_reducible refine Kd.C_drewN ?_ _) | (with_reducible refine Kd.C_drew ?_) | exact HR125.out)) | (with_reducible refine Kd.C_alloc ?_ _) | (with_reducible refine Kd.C_drewN ?_ _) | (with_reducible refine Kd.C_drew ?_))); (case aB => exact (by repeat (first | exact HB.out | apply bA | apply bD | apply bE | refine below_set ?_ GE105.out))); (case aF => exact (fun k_ hk => ⟨Kd.fresh' (Kd.R_lt (by (with_reducible repeat (first | apply Kd.R_alloc | apply Kd.R_drewN | apply Kd.R_drew)); exact HO_3.out)) k_ hk, Kd.freshB (g := gb105) (o := .cells #[.int .i64 ((rd_T44 l0 x11_1).f0), .int .i64 ((rd_T44 l0 x11_1).f1)] 44 (0, 0)) (by exact BK105.out) k_ hk⟩)); (case aO => exact (by (with_reducible repeat (first | apply Kd.R_alloc | apply Kd.R_drewN | apply Kd.R_drew)); exact HO121.out)); (case aS => exact (below_size (by repeat (first | exact HB.out | apply bA | apply bD | apply bE | refine below_set ?_ GE105.out)))); (case aL => have := LMc28.out; omega); intro v127 w39 ho hb hg hat; rw [← Ny126.out] at ho; have n0_ := Ak (Kd.R_after (ok := (fun k_ => k_ ≠ gb105)) (by (with_reducible repeat (first | apply Kd.R_alloc | apply Kd.R_drewN | apply Kd.R_drew)); exact HO_3.out) hg hat); have n1_ := Ak (blk_grown (g := gb105) (o := .cells #[.int .i64 ((rd_T44 l0 x11_1).f0), .int .i64 ((rd_T44 l0 x11_1).f1)] 44 (0, 0)) (by exact BK105.out) hg (Kd.R_away HO121.out (fun _ hk => hk.2))); have n2_ := Ak (hb); have n3_ := Ak ((show Kd.C k44 w39 (some ad106) y112.length y112 from by rw [Ny112.out]; exact Kd.C_take (m := (x6_2 : Int).toNat) ((Kd.R_reads' (Kd.R_after (ok := (fun k_ => k_ ≠ gb105)) (by (with_reducible repeat (first | apply Kd.R_alloc | apply Kd.R_drewN | apply Kd.R_drew)); exact HO_3.out) hg hat)).2.2) KL34.out)); have n4_ := Ak ((show Kd.C k44 w39 A38 y122.length y122 from by rw [Ny122.out, KA38.out]; exact Kd.C_drop (m := (x6_2 : Int).toNat) (c := co9) ((Kd.R_reads' (Kd.R_after (ok := (fun k_ => k_ ≠ gb105)) (by (with_reducible repeat (first | apply Kd.R_alloc | apply Kd.R_drewN | apply Kd.R_drew)); exact HO_3.out) hg hat)).2.2) KL38.out ((Kd.R_reads' (Kd.R_after (ok := (fun k_ => k_ ≠ gb105)) (by (with_reducible repeat (first | apply Kd.R_alloc | apply Kd.R_drewN | apply Kd.R_drew)); exact HO_3.out) hg hat)).2.1))); have n5_ := Ak (ho); clear HO_3; clear BK105; clear HB; clear HR115; clear HR125; clear HO121; have HO_3 := n0_; have BK105 := n1_; have HB := n2_; have HR115 := n3_; have HR125 := n4_; have HO128 := n5_; clear n0_ n1_ n2_ n3_ n4_ n5_; clear ho hb hg hat))
                  go_roundg k2
                  case measure => have := HK1.out; have := HK2.out; omega
                  case rel => exact ⟨(y126), (wrap64 (x11_1 + 1)), (by first | rfl | (simp; done) | (simp [*]; done)), H', ⟨by have := HK1.out; have := HK2.out; omega⟩, ⟨by (with_reducible repeat (first | apply Kd.R_alloc | apply Kd.R_drewN | apply Kd.R_drew)); exact Kd.R_mono HO128.out (fun _ hk => trivial)⟩, ⟨by repeat (first | (with_reducible first | exact HB.out | apply bA | apply bD | apply bE | refine below_set ?_ GE105.out) | exact HB.out)⟩⟩
                 ·rw [if_neg c28] at H
                  exact absurd H (by simp)
                ·rw [if_neg c25] at H
                 exact absurd H (by simp)
               ·rw [if_neg c24] at H
                exact absurd H (by simp)
              ·rw [if_neg c23] at H
               exact absurd H (by simp)
             ·rw [if_neg c22] at H
              exact absurd H (by simp)
          ·rw [if_neg c13] at H
           exact absurd H (by simp)
         ·rw [if_neg c12] at H
          exact absurd H (by simp)
        ·rw [if_neg c10] at H
         have c10b0 : decide (0 < x6_2) = false := decide_eq_false c10
         clear c10
         obtain ⟨y129, hy129⟩ : ∃ y_ : List (S44), y_ = (([] : List (S44))) := ⟨_, rfl⟩
         replace H : (if 0 ≤ x6_2 then (if x6_2 ≤ (x3_1.length : Int) then ((some (x3_1.take (x6_2 : Int).toNat : List (S44))).bind fun y132 => (if y129.length + y132.length < 8796093022208 then ((some (y129 ++ y132 : List (S44))).bind fun y136 => (if y136.length < 8796093022208 then ((some (y136 ++ [(⟨((rd_T44 l0 x11_1).f0), ((rd_T44 l0 x11_1).f1)⟩ : S44)] : List (S44))).bind fun y139 => ((some (x3_1.drop (x6_2 : Int).toNat : List (S44))).bind fun y142 => (if y139.length + y142.length < 8796093022208 then (spec_l04Sort.l0 k2 (y139 ++ y142) l0 (l0.length : Int) (wrap64 (x11_1 + 1))) else (none)))) else (none))) else (none))) else (none)) else (none)) = some r := by first | (rw [hy129]; exact H) | exact H
         have Ny129 := Ak hy129
         clear hy129
         by_cases c40 : 0 ≤ x6_2
         ·rw [if_pos c40] at H
          have c40b0 := eq_true c40
          have c40b1 : decide (0 ≤ x6_2) = true := decide_eq_true c40
          clear c40
          by_cases c41 : x6_2 ≤ (x3_1.length : Int)
          ·rw [if_pos c41] at H
           have c41b0 := eq_true c41
           have c41b1 : decide (x6_2 ≤ (x3_1.length : Int)) = true := decide_eq_true c41
           clear c41
           obtain ⟨y132, hy132⟩ : ∃ y_ : List (S44), y_ = (x3_1.take (x6_2 : Int).toNat) := ⟨_, rfl⟩
           replace H : (if y129.length + y132.length < 8796093022208 then ((some (y129 ++ y132 : List (S44))).bind fun y136 => (if y136.length < 8796093022208 then ((some (y136 ++ [(⟨((rd_T44 l0 x11_1).f0), ((rd_T44 l0 x11_1).f1)⟩ : S44)] : List (S44))).bind fun y139 => ((some (x3_1.drop (x6_2 : Int).toNat : List (S44))).bind fun y142 => (if y139.length + y142.length < 8796093022208 then (spec_l04Sort.l0 k2 (y139 ++ y142) l0 (l0.length : Int) (wrap64 (x11_1 + 1))) else (none)))) else (none))) else (none)) = some r := by first | (rw [hy132]; exact H) | exact H
           have Ny132 := Ak hy132
           clear hy132
           by_cases c42 : y129.length + y132.length < 8796093022208
           ·rw [if_pos c42] at H
            have LMc42 := Ak c42
            clear c42
            obtain ⟨y136, hy136⟩ : ∃ y_ : List (S44), y_ = (y129 ++ y132) := ⟨_, rfl⟩
            replace H : (if y136.length < 8796093022208 then ((some (y136 ++ [(⟨((rd_T44 l0 x11_1).f0), ((rd_T44 l0 x11_1).f1)⟩ : S44)] : List (S44))).bind fun y139 => ((some (x3_1.drop (x6_2 : Int).toNat : List (S44))).bind fun y142 => (if y139.length + y142.length < 8796093022208 then (spec_l04Sort.l0 k2 (y139 ++ y142) l0 (l0.length : Int) (wrap64 (x11_1 + 1))) else (none)))) else (none)) = some r := by first | (rw [hy136]; exact H) | exact H
            have Ny136 := Ak hy136
            clear hy136
            by_cases c43 : y136.length < 8796093022208
            ·rw [if_pos c43] at H
             have LMc43 := Ak c43
             clear c43
             obtain ⟨y139, hy139⟩ : ∃ y_ : List (S44), y_ = (y136 ++ [(⟨((rd_T44 l0 x11_1).f0), ((rd_T44 l0 x11_1).f1)⟩ : S44)]) := ⟨_, rfl⟩
             replace H : ((some (x3_1.drop (x6_2 : Int).toNat : List (S44))).bind fun y142 => (if y139.length + y142.length < 8796093022208 then (spec_l04Sort.l0 k2 (y139 ++ y142) l0 (l0.length : Int) (wrap64 (x11_1 + 1))) else (none))) = some r := by first | (rw [hy139]; exact H) | exact H
             have Ny139 := Ak hy139
             clear hy139
             have c44b0 := eq_true (of_decide_eq_true (by first | (with_reducible assumption) | assumption) : 0 ≤ x6_2)
             have c45b0 := eq_true (of_decide_eq_true (by first | (with_reducible assumption) | assumption) : x6_2 ≤ (x3_1.length : Int))
             obtain ⟨y142, hy142⟩ : ∃ y_ : List (S44), y_ = (x3_1.drop (x6_2 : Int).toNat) := ⟨_, rfl⟩
             replace H : (if y139.length + y142.length < 8796093022208 then (spec_l04Sort.l0 k2 (y139 ++ y142) l0 (l0.length : Int) (wrap64 (x11_1 + 1))) else (none)) = some r := by first | (rw [hy142]; exact H) | exact H
             have Ny142 := Ak hy142
             clear hy142
             by_cases c46 : y139.length + y142.length < 8796093022208
             ·rw [if_pos c46] at H
              have LMc46 := Ak c46
              clear c46
              obtain ⟨y146, hy146⟩ : ∃ y_ : List (S44), y_ = (y139 ++ y142) := ⟨_, rfl⟩
              replace H : (spec_l04Sort.l0 k2 y146 l0 (l0.length : Int) (wrap64 (x11_1 + 1))) = some r := by first | (rw [hy146]; exact H) | exact H
              have Ny146 := Ak hy146
              clear hy146
              have H' := Ak H
              clear H
              try go_wp2
              have n0_ := Ak (Kd.R_drew HO_3.out)
              have n1_ := Ak (blk_drew BK105.out)
              have n2_ := Ak (below_drew1 HB.out)
              clear HO_3
              clear BK105
              clear HB
              have HO_3 := n0_
              have BK105 := n1_
              have HB := n2_
              clear n0_ n1_ n2_
              refine start_ (n := 11) (S := fun w' => True) (ds := []) #[F,F,F,F,F,F,F,F,F,F,F] (by kernel_rfl) rfl rfl trivial (fun hHeld => ?_); refine with_tabW spec_l04Sort.tab6 spec_l04Sort.bits6 (fun HT_ HW_ => ?_)
              generalize wr.drew = w47 at HO_3 BK105 HB hHeld ⊢
              refine pure_ (i := 0) (N := some 17) (v := ?_) (a' := ?_) #[T,F,F,F,F,F,F,F,F,F,F] rfl rfl (any_of HT_.out (by kernel_rfl)) (fun _ _ _ h => h) (Or.inl ⟨by rfl, ?_⟩) ?_ ?_
              rotate_left
              ·intro w'
               go_simp
               with_reducible rfl
              rotate_left
              ·simp only [Act.put, sA, sB, sC, sD, sE]
               rfl
              refine pure_ (i := 1) (N := some 18) (v := ?_) (a' := ?_) #[T,T,F,F,F,F,F,F,F,F,F] rfl rfl (any_of HT_.out (by kernel_rfl)) (fun _ _ _ h => h) (Or.inl ⟨by rfl, ?_⟩) ?_ ?_
              rotate_left
              ·intro w'
               go_simp
               with_reducible rfl
              rotate_left
              ·simp only [Act.put, sA, sB, sC, sD, sE]
               rfl
              refine pure_ (i := 2) (N := some 19) (v := ?_) (a' := ?_) #[T,T,T,F,F,F,F,F,F,F,F] rfl rfl (any_of HT_.out (by kernel_rfl)) (fun _ _ _ h => h) (Or.inl ⟨by rfl, ?_⟩) ?_ ?_
              rotate_left
              ·intro w'
               go_simp
               with_reducible rfl
              rotate_left
              ·simp only [Act.put, sA, sB, sC, sD, sE]
               rfl
              refine pure_ (i := 3) (N := some 20) (v := undef) (a' := ?_) #[T,T,T,T,F,F,F,F,F,F,F] rfl rfl (any_of HT_.out (by kernel_rfl)) (fun _ _ _ h => h) (Or.inr ⟨by rfl, rfl⟩) ?_ ?_
              rotate_left
              ·simp only [Act.put, sA, sB, sC, sD, sE]
               rfl
              refine pure_ (i := 4) (N := some 21) (v := undef) (a' := ?_) #[T,T,T,T,T,F,F,F,F,F,F] rfl rfl (any_of HT_.out (by kernel_rfl)) (fun _ _ _ h => h) (Or.inr ⟨by rfl, rfl⟩) ?_ ?_
              rotate_left
              ·simp only [Act.put, sA, sB, sC, sD, sE]
               rfl
              refine pure_ (i := 5) (N := some 22) (v := undef) (a' := ?_) #[T,T,T,T,T,T,F,F,F,F,F] rfl rfl (any_of HT_.out (by kernel_rfl)) (fun _ _ _ h => h) (Or.inr ⟨by rfl, rfl⟩) ?_ ?_
              rotate_left
              ·simp only [Act.put, sA, sB, sC, sD, sE]
               rfl
              refine pure_ (i := 6) (N := some 23) (v := undef) (a' := ?_) #[T,T,T,T,T,T,T,F,F,F,F] rfl rfl (any_of HT_.out (by kernel_rfl)) (fun _ _ _ h => h) (Or.inr ⟨by rfl, rfl⟩) ?_ ?_
              rotate_left
              ·simp only [Act.put, sA, sB, sC, sD, sE]
               rfl
              refine pure_ (i := 7) (N := some 24) (v := undef) (a' := ?_) #[T,T,T,T,T,T,T,T,F,F,F] rfl rfl (any_of HT_.out (by kernel_rfl)) (fun _ _ _ h => h) (Or.inr ⟨by rfl, rfl⟩) ?_ ?_
              rotate_left
              ·simp only [Act.put, sA, sB, sC, sD, sE]
               rfl
              refine pure_ (i := 8) (N := some 25) (v := undef) (a' := ?_) #[T,T,T,T,T,T,T,T,T,F,F] rfl rfl (any_of HT_.out (by kernel_rfl)) (fun _ _ _ h => h) (Or.inr ⟨by rfl, rfl⟩) ?_ ?_
              rotate_left
              ·simp only [Act.put, sA, sB, sC, sD, sE]
               rfl
              refine pure_ (i := 9) (N := some 26) (v := undef) (a' := ?_) #[T,T,T,T,T,T,T,T,T,T,F] rfl rfl (any_of HT_.out (by kernel_rfl)) (fun _ _ _ h => h) (Or.inr ⟨by rfl, rfl⟩) ?_ ?_
              rotate_left
              ·simp only [Act.put, sA, sB, sC, sD, sE]
               rfl
              refine pure_ (i := 10) (N := some 27) (v := ?_) (a' := ?_) #[T,T,T,T,T,T,T,T,T,T,T] rfl rfl (any_of HT_.out (by kernel_rfl)) (fun _ _ _ h => h) (Or.inl ⟨by rfl, ?_⟩) ?_ ?_
              rotate_left
              ·intro w'
               go_simp
               with_reducible rfl
              rotate_left
              ·simp only [Act.put, sA, sB, sC, sD, sE]
               rfl
              refine done_ (done_of HT_.out (by kernel_rfl)) ?_
              try go_wp2
              have n0_ := Ak (Kd.R_drew HO_3.out)
              have n1_ := Ak (blk_drew BK105.out)
              have n2_ := Ak (below_drew1 HB.out)
              clear HO_3
              clear BK105
              clear HB
              have HO_3 := n0_
              have BK105 := n1_
              have HB := n2_
              clear n0_ n1_ n2_
              refine start_ (n := 11) (S := fun w' => True) (ds := []) #[F,F,F,F,F,F,F,F,F,F,F] (by kernel_rfl) rfl rfl trivial (fun hHeld => ?_); refine with_tabW spec_l04Sort.tab8 spec_l04Sort.bits8 (fun HT_ HW_ => ?_)
              generalize w47.drew = w48 at HO_3 BK105 HB hHeld ⊢
              refine pure_ (i := 0) (N := some 30) (v := ?_) (a' := ?_) #[T,F,F,F,F,F,F,F,F,F,F] rfl rfl (any_of HT_.out (by kernel_rfl)) (fun _ _ _ h => h) (Or.inl ⟨by rfl, ?_⟩) ?_ ?_
              rotate_left
              ·intro w'
               go_simp
               with_reducible rfl
              rotate_left
              ·simp only [Act.put, sA, sB, sC, sD, sE]
               rfl
              refine pure_ (i := 1) (N := some 31) (v := ?_) (a' := ?_) #[T,T,F,F,F,F,F,F,F,F,F] rfl rfl (any_of HT_.out (by kernel_rfl)) (fun _ _ _ h => h) (Or.inl ⟨by rfl, ?_⟩) ?_ ?_
              rotate_left
              ·intro w'
               go_simp
               with_reducible rfl
              rotate_left
              ·simp only [Act.put, sA, sB, sC, sD, sE]
               rfl
              refine pure_ (i := 2) (N := some 32) (v := ?_) (a' := ?_) #[T,T,T,F,F,F,F,F,F,F,F] rfl rfl (any_of HT_.out (by kernel_rfl)) (fun _ _ _ h => h) (Or.inl ⟨by rfl, ?_⟩) ?_ ?_
              rotate_left
              ·intro w'
               go_simp
               with_reducible rfl
              rotate_left
              ·simp only [Act.put, sA, sB, sC, sD, sE]
               rfl
              refine pure_ (i := 3) (N := some 33) (v := undef) (a' := ?_) #[T,T,T,T,F,F,F,F,F,F,F] rfl rfl (any_of HT_.out (by kernel_rfl)) (fun _ _ _ h => h) (Or.inr ⟨by rfl, rfl⟩) ?_ ?_
              rotate_left
              ·simp only [Act.put, sA, sB, sC, sD, sE]
               rfl
              refine pure_ (i := 4) (N := some 34) (v := undef) (a' := ?_) #[T,T,T,T,T,F,F,F,F,F,F] rfl rfl (any_of HT_.out (by kernel_rfl)) (fun _ _ _ h => h) (Or.inr ⟨by rfl, rfl⟩) ?_ ?_
              rotate_left
              ·simp only [Act.put, sA, sB, sC, sD, sE]
               rfl
              refine pure_ (i := 5) (N := some 35) (v := undef) (a' := ?_) #[T,T,T,T,T,T,F,F,F,F,F] rfl rfl (any_of HT_.out (by kernel_rfl)) (fun _ _ _ h => h) (Or.inr ⟨by rfl, rfl⟩) ?_ ?_
              rotate_left
              ·simp only [Act.put, sA, sB, sC, sD, sE]
               rfl
              refine pure_ (i := 6) (N := some 36) (v := undef) (a' := ?_) #[T,T,T,T,T,T,T,F,F,F,F] rfl rfl (any_of HT_.out (by kernel_rfl)) (fun _ _ _ h => h) (Or.inr ⟨by rfl, rfl⟩) ?_ ?_
              rotate_left
              ·simp only [Act.put, sA, sB, sC, sD, sE]
               rfl
              refine pure_ (i := 7) (N := some 37) (v := undef) (a' := ?_) #[T,T,T,T,T,T,T,T,F,F,F] rfl rfl (any_of HT_.out (by kernel_rfl)) (fun _ _ _ h => h) (Or.inr ⟨by rfl, rfl⟩) ?_ ?_
              rotate_left
              ·simp only [Act.put, sA, sB, sC, sD, sE]
               rfl
              refine pure_ (i := 8) (N := some 38) (v := undef) (a' := ?_) #[T,T,T,T,T,T,T,T,T,F,F] rfl rfl (any_of HT_.out (by kernel_rfl)) (fun _ _ _ h => h) (Or.inr ⟨by rfl, rfl⟩) ?_ ?_
              rotate_left
              ·simp only [Act.put, sA, sB, sC, sD, sE]
               rfl
              refine pure_ (i := 9) (N := some 39) (v := undef) (a' := ?_) #[T,T,T,T,T,T,T,T,T,T,F] rfl rfl (any_of HT_.out (by kernel_rfl)) (fun _ _ _ h => h) (Or.inr ⟨by rfl, rfl⟩) ?_ ?_
              rotate_left
              ·simp only [Act.put, sA, sB, sC, sD, sE]
               rfl
              refine pure_ (i := 10) (N := some 40) (v := ?_) (a' := ?_) #[T,T,T,T,T,T,T,T,T,T,T] rfl rfl (any_of HT_.out (by kernel_rfl)) (fun _ _ _ h => h) (Or.inl ⟨by rfl, ?_⟩) ?_ ?_
              rotate_left
              ·intro w'
               go_simp
               with_reducible rfl
              rotate_left
              ·simp only [Act.put, sA, sB, sC, sD, sE]
               rfl
              refine done_ (done_of HT_.out (by kernel_rfl)) ?_
              try go_wp2_with (first | ((with_reducible refine gate_dst (N := 41) rfl ?_); refine Kd.R_lit k44 _ 44 ?hg (N := 41) ?hd (xs := ([] : List (S44))) (inner := []) (ok := fun _ => True) (okp := fun _ => True) ?hr ?hp (fun _ hk => hk) trivial (Below.refl _ _) (Nat.le_refl _) (by simp) ?_; (case hd | hg => rfl); (case hr => first | (go_simp; done) | (go_simp; rfl)); (case hp => exact (Reps.none _ _)); intro v130 w49 ho50 hb hg_ hnew_; clear hg_ hnew_; (first | rw [← Ny129.out] at ho50 | (simp only [Int.reduceToNat] at ho50; rw [← Ny129.out] at ho50)); have n0_ := Ak (Kd.R_elder' (by (with_reducible repeat (first | apply Kd.R_alloc | apply Kd.R_drewN | apply Kd.R_drew)); exact HO_3.out) (Kd.R_base ho50) hb); have n1_ := Ak (Kd.R_lower (Kd.R_newB (Kd.R_new' ho50 (Kd.R_lt (by (with_reducible repeat (first | apply Kd.R_alloc | apply Kd.R_drewN | apply Kd.R_drew)); exact HO_3.out))) (g := gb105) (o := .cells #[.int .i64 ((rd_T44 l0 x11_1).f0), .int .i64 ((rd_T44 l0 x11_1).f1)] 44 (0, 0)) (by exact BK105.out)) (below_size (by repeat (first | exact HB.out | apply bA | apply bD | apply bE | refine below_set ?_ GE105.out)))); have n2_ := Ak (blk_below (g := gb105) (o := .cells #[.int .i64 ((rd_T44 l0 x11_1).f0), .int .i64 ((rd_T44 l0 x11_1).f1)] 44 (0, 0)) (by exact BK105.out) hb); have n3_ := Ak (below_step (by repeat (first | exact HB.out | apply bA | apply bD | apply bE | refine below_set ?_ GE105.out)) hb); clear HO_3; clear BK105; clear HB; have HO_3 := n0_; have HO131 := n1_; have BK105 := n2_; have HB := n3_; clear n0_ n1_ n2_ n3_; clear hb ho50; have q51 : (x6_2 : Int) ≤ ((x3_1.length : Int) : Int) := of_decide_eq_true (by first | (with_reducible assumption) | assumption); obtain ⟨i051, hi051, _, hsz51, _⟩ := info_parts info44; have hroom51 : x3_1.length ≤ co9 := (Kd.R_reads' HO_3.out).2.1; have hC51 : Kd.C k44 _ Ao9 x3_1.length x3_1 := (Kd.R_reads' HO_3.out).2.2; have hcut51 := cut_to (P := Try.prog) 24 44 .i64 Try.underlying24 hi051 Ao9 x3_1.length co9 x6_2 (of_decide_eq_true (by first | (with_reducible assumption) | assumption)) q51 hroom51; have hr51 := Kd.C_take (m := (x6_2 : Int).toNat) hC51 (by omega); have hy51 : y132.length = (x6_2 : Int).toNat := (by rw [Ny132.out, List.length_take]; omega); rw [← Ny132.out] at hr51; rw [← hy51] at hcut51; have HR135 := Ak hr51; have HC135 := Ak (show y132.length ≤ co9 from by omega); clear hr51 hC51 hroom51 hi051 hsz51; have KY51 := Ak hy51; clear hy51; have KL51 := Ak (show (x6_2 : Int).toNat ≤ x3_1.length from by omega); replace q51 := eq_true q51) | ((with_reducible refine gate_builtin (b := .append) (xs := #[.tmp 41, .tmp 44]) rfl ?_); at_builtin; refine Kd.R_append_rows k44 (w0 := w) w.heap.size rfl (.tmp 41) (.tmp 44) 24 44 (.agg #[(.int .i64 0), (.int .i64 0)]) 16 rfl Try.underlying24 info44 rfl (by decide) (by omega) v130 y129 y132 _ _ _ (fun k_ => some k_ ≠ (.slice Ao9 x3_1.length co9 : Value).ownBlock ∧ k_ ≠ gb105) (fun _ => False) rfl rfl ?aO ?aR (fun _ _ h => h) (fun _ h => h.elim) ?aF ?aB ?aS ?aL ?_; (case aR => repeat (first | exact (by repeat (first | (with_reducible exact HR135.out) | (with_reducible refine Kd.C_alloc ?_ _) | (with_reducible refine Kd.C_drewN ?_ _) | (with_reducible refine Kd.C_drew ?_) | exact HR135.out)) | (with_reducible refine Kd.C_alloc ?_ _) | (with_reducible refine Kd.C_drewN ?_ _) | (with_reducible refine Kd.C_drew ?_))); (case aB => exact (by repeat (first | exact HB.out | apply bA | apply bD | apply bE | refine below_set ?_ GE105.out))); (case aF => exact (fun k_ hk => ⟨Kd.fresh' (Kd.R_lt (by (with_reducible repeat (first | apply Kd.R_alloc | apply Kd.R_drewN | apply Kd.R_drew)); exact HO_3.out)) k_ hk, Kd.freshB (g := gb105) (o := .cells #[.int .i64 ((rd_T44 l0 x11_1).f0), .int .i64 ((rd_T44 l0 x11_1).f1)] 44 (0, 0)) (by exact BK105.out) k_ hk⟩)); (case aO => exact (by (with_reducible repeat (first | apply Kd.R_alloc | apply Kd.R_drewN | apply Kd.R_drew)); exact Kd.R_mono HO131.out (fun _ hk => ⟨hk.1.2, hk.2⟩))); (case aS => exact (below_size (by repeat (first | exact HB.out | apply bA | apply bD | apply bE | refine below_set ?_ GE105.out)))); (case aL => have := LMc42.out; omega); intro v137 w52 ho hb hg hat; rw [← Ny136.out] at ho; have n0_ := Ak (Kd.R_after (ok := (fun k_ => k_ ≠ gb105)) (by (with_reducible repeat (first | apply Kd.R_alloc | apply Kd.R_drewN | apply Kd.R_drew)); exact HO_3.out) hg hat); have n1_ := Ak (blk_grown (g := gb105) (o := .cells #[.int .i64 ((rd_T44 l0 x11_1).f0), .int .i64 ((rd_T44 l0 x11_1).f1)] 44 (0, 0)) (by exact BK105.out) hg (Kd.R_away HO131.out (fun _ hk => hk.2))); have n2_ := Ak (hb); have n3_ := Ak ((show Kd.C k44 w52 Ao9 y132.length y132 from by rw [Ny132.out]; exact Kd.C_take (m := (x6_2 : Int).toNat) ((Kd.R_reads' (Kd.R_after (ok := (fun k_ => k_ ≠ gb105)) (by (with_reducible repeat (first | apply Kd.R_alloc | apply Kd.R_drewN | apply Kd.R_drew)); exact HO_3.out) hg hat)).2.2) KL51.out)); have n4_ := Ak (ho); clear HO_3; clear BK105; clear HB; clear HR135; clear HO131; have HO_3 := n0_; have BK105 := n1_; have HB := n2_; have HR135 := n3_; have HO138 := n4_; clear n0_ n1_ n2_ n3_ n4_; clear ho hb hg hat; have hcz53_0 : w52.cell? ⟨gb105, 0, none⟩ = some (.int .i64 ((rd_T44 l0 x11_1).f0)) := (blk_cell BK105.out 0).trans rfl; have hcz53_1 : w52.cell? ⟨gb105, 1, none⟩ = some (.int .i64 ((rd_T44 l0 x11_1).f1)) := (blk_cell BK105.out 1).trans rfl; have hfz53_0 := blk_frozen BK105.out 0; have hfz53_1 := blk_frozen BK105.out 1) | ((with_reducible refine gate_builtin (b := .append) (xs := #[.tmp 46, .tmp 48]) rfl ?_); at_builtin; refine Kd.R_append k44 (w0 := w) w.heap.size rfl (.tmp 46) (.tmp 48) 24 44 (.agg #[(.int .i64 0), (.int .i64 0)]) 16 rfl Try.underlying24 info44 rfl (by decide) (by omega) v137 y136 (⟨((rd_T44 l0 x11_1).f0), ((rd_T44 l0 x11_1).f1)⟩ : S44) [.int .i64 ((rd_T44 l0 x11_1).f0), .int .i64 ((rd_T44 l0 x11_1).f1)] (fun k_ => some k_ ≠ (.slice Ao9 x3_1.length co9 : Value).ownBlock ∧ k_ ≠ gb105) (fun _ => False) rfl rfl ?aP (fun _ hk => hk.elim) ?aF ?aO ?aB ?aS ?aL ?_; (case aP => exact k44_mkM _ _ _ (⟨((rd_T44 l0 x11_1).f0), ((rd_T44 l0 x11_1).f1)⟩ : S44)); (case aB => exact (by repeat (first | exact HB.out | apply bA | apply bD | apply bE | refine below_set ?_ GE105.out))); (case aF => exact (fun k_ hk => ⟨Kd.fresh' (Kd.R_lt (by (with_reducible repeat (first | apply Kd.R_alloc | apply Kd.R_drewN | apply Kd.R_drew)); exact HO_3.out)) k_ hk, Kd.freshB (g := gb105) (o := .cells #[.int .i64 ((rd_T44 l0 x11_1).f0), .int .i64 ((rd_T44 l0 x11_1).f1)] 44 (0, 0)) (by exact BK105.out) k_ hk⟩)); (case aO => exact (by (with_reducible repeat (first | apply Kd.R_alloc | apply Kd.R_drewN | apply Kd.R_drew)); exact HO138.out)); (case aS => exact (below_size (by repeat (first | exact HB.out | apply bA | apply bD | apply bE | refine below_set ?_ GE105.out)))); (case aL => have := LMc43.out; omega); intro v140 w54 ho hb hg hat; rw [← Ny139.out] at ho; have n0_ := Ak (Kd.R_after (ok := (fun k_ => k_ ≠ gb105)) (by (with_reducible repeat (first | apply Kd.R_alloc | apply Kd.R_drewN | apply Kd.R_drew)); exact HO_3.out) hg hat); have n1_ := Ak (blk_grown (g := gb105) (o := .cells #[.int .i64 ((rd_T44 l0 x11_1).f0), .int .i64 ((rd_T44 l0 x11_1).f1)] 44 (0, 0)) (by exact BK105.out) hg (Kd.R_away HO138.out (fun _ hk => hk.2))); have n2_ := Ak (hb); have n3_ := Ak ((show Kd.C k44 w54 Ao9 y132.length y132 from by rw [Ny132.out]; exact Kd.C_take (m := (x6_2 : Int).toNat) ((Kd.R_reads' (Kd.R_after (ok := (fun k_ => k_ ≠ gb105)) (by (with_reducible repeat (first | apply Kd.R_alloc | apply Kd.R_drewN | apply Kd.R_drew)); exact HO_3.out) hg hat)).2.2) KL51.out)); have n4_ := Ak (ho); clear HO_3; clear BK105; clear HB; clear HR135; clear HO138; have HO_3 := n0_; have BK105 := n1_; have HB := n2_; have HR135 := n3_; have HO141 := n4_; clear n0_ n1_ n2_ n3_ n4_; clear ho hb hg hat; have q55 : (x6_2 : Int) ≤ ((x3_1.length : Int) : Int) := of_decide_eq_true (by first | (with_reducible assumption) | assumption); obtain ⟨i055, hi055, _, hsz55, _⟩ := info_parts info44; have hroom55 : x3_1.length ≤ co9 := (Kd.R_reads' HO_3.out).2.1; have hC55 : Kd.C k44 _ Ao9 x3_1.length x3_1 := (Kd.R_reads' HO_3.out).2.2; have q055 : (0 : Int) ≤ (x6_2 : Int) := of_decide_eq_true (by first | (with_reducible assumption) | assumption); have hcut55 := cut_from (P := Try.prog) 24 44 .i64 Try.underlying24 hi055 2 hsz55 Ao9 x3_1.length co9 x6_2 q055 q55; have hr55 := Kd.C_drop (m := (x6_2 : Int).toNat) (c := co9) hC55 (by omega) hroom55; obtain ⟨A55, hA55⟩ : ∃ A1, A1 = (if co9 = (x6_2 : Int).toNat then Ao9 else (Ao9 : Option Addr).map (·.add ((x6_2 : Int).toNat * 2))) := ⟨_, rfl⟩; obtain ⟨c55, hc55⟩ : ∃ c1, c1 = co9 - (x6_2 : Int).toNat := ⟨_, rfl⟩; have hy55 : y142.length = x3_1.length - (x6_2 : Int).toNat := (by rw [Ny142.out, List.length_drop] <;> omega); rw [show (x3_1).drop (x6_2 : Int).toNat = y142 from Ny142.out.symm] at hr55; replace hr55 : Kd.C k44 _ A55 y142.length y142 := (by rw [hA55]; exact hr55); rw [← hy55, ← hA55, ← hc55] at hcut55; have HR145 := Ak hr55; have HC145 := Ak (show y142.length ≤ c55 from by rw [hy55, hc55]; exact Nat.sub_le_sub_right hroom55 _); clear hr55 hC55 hroom55 hi055 hsz55 hc55; have KY55 := Ak hy55; have KA55 := Ak hA55; clear hy55 hA55; have KL55 := Ak (show (x6_2 : Int).toNat ≤ x3_1.length from by omega); replace q55 := eq_true q55) | ((with_reducible refine gate_builtin (b := .append) (xs := #[.tmp 50, .tmp 53]) rfl ?_); at_builtin; refine Kd.R_append_rows k44 (w0 := w) w.heap.size rfl (.tmp 50) (.tmp 53) 24 44 (.agg #[(.int .i64 0), (.int .i64 0)]) 16 rfl Try.underlying24 info44 rfl (by decide) (by omega) v140 y139 y142 _ _ _ (fun k_ => some k_ ≠ (.slice Ao9 x3_1.length co9 : Value).ownBlock ∧ k_ ≠ gb105) (fun _ => False) rfl rfl ?aO ?aR (fun _ _ h => h) (fun _ h => h.elim) ?aF ?aB ?aS ?aL ?_; (case aR => repeat (first | exact (by repeat (first | (with_reducible exact HR145.out) | (with_reducible refine Kd.C_alloc ?_ _) | (with_reducible refine Kd.C_drewN ?_ _) | (with_reducible refine Kd.C_drew ?_) | exact HR145.out)) | (with_reducible refine Kd.C_alloc ?_ _) | (with_reducible refine Kd.C_drewN ?_ _) | (with_reducible refine Kd.C_drew ?_))); (case aB => exact (by repeat (first | exact HB.out | apply bA | apply bD | apply bE | refine below_set ?_ GE105.out))); (case aF => exact (fun k_ hk => ⟨Kd.fresh' (Kd.R_lt (by (with_reducible repeat (first | apply Kd.R_alloc | apply Kd.R_drewN | apply Kd.R_drew)); exact HO_3.out)) k_ hk, Kd.freshB (g := gb105) (o := .cells #[.int .i64 ((rd_T44 l0 x11_1).f0), .int .i64 ((rd_T44 l0 x11_1).f1)] 44 (0, 0)) (by exact BK105.out) k_ hk⟩)); (case aO => exact (by (with_reducible repeat (first | apply Kd.R_alloc | apply Kd.R_drewN | apply Kd.R_drew)); exact HO141.out)); (case aS => exact (below_size (by repeat (first | exact HB.out | apply bA | apply bD | apply bE | refine below_set ?_ GE105.out)))); (case aL => have := LMc46.out; omega); intro v147 w56 ho hb hg hat; rw [← Ny146.out] at ho; have n0_ := Ak (Kd.R_after (ok := (fun k_ => k_ ≠ gb105)) (by (with_reducible repeat (first | apply Kd.R_alloc | apply Kd.R_drewN | apply Kd.R_drew)); exact HO_3.out) hg hat); have n1_ := Ak (blk_grown (g := gb105) (o := .cells #[.int .i64 ((rd_T44 l0 x11_1).f0), .int .i64 ((rd_T44 l0 x11_1).f1)] 44 (0, 0)) (by exact BK105.out) hg (Kd.R_away HO141.out (fun _ hk => hk.2))); have n2_ := Ak (hb); have n3_ := Ak ((show Kd.C k44 w56 Ao9 y132.length y132 from by rw [Ny132.out]; exact Kd.C_take (m := (x6_2 : Int).toNat) ((Kd.R_reads' (Kd.R_after (ok := (fun k_ => k_ ≠ gb105)) (by (with_reducible repeat (first | apply Kd.R_alloc | apply Kd.R_drewN | apply Kd.R_drew)); exact HO_3.out) hg hat)).2.2) KL51.out)); have n4_ := Ak ((show Kd.C k44 w56 A55 y142.length y142 from by rw [Ny142.out, KA55.out]; exact Kd.C_drop (m := (x6_2 : Int).toNat) (c := co9) ((Kd.R_reads' (Kd.R_after (ok := (fun k_ => k_ ≠ gb105)) (by (with_reducible repeat (first | apply Kd.R_alloc | apply Kd.R_drewN | apply Kd.R_drew)); exact HO_3.out) hg hat)).2.2) KL55.out ((Kd.R_reads' (Kd.R_after (ok := (fun k_ => k_ ≠ gb105)) (by (with_reducible repeat (first | apply Kd.R_alloc | apply Kd.R_drewN | apply Kd.R_drew)); exact HO_3.out) hg hat)).2.1))); have n5_ := Ak (ho); clear HO_3; clear BK105; clear HB; clear HR135; clear HR145; clear HO141; have HO_3 := n0_; have BK105 := n1_; have HB := n2_; have HR135 := n3_; have HR145 := n4_; have HO148 := n5_; clear n0_ n1_ n2_ n3_ n4_ n5_; clear ho hb hg hat))
              go_roundg k2
              case measure => have := HK1.out; have := HK2.out; omega
              case rel => exact ⟨(y146), (wrap64 (x11_1 + 1)), (by first | rfl | (simp; done) | (simp [*]; done)), H', ⟨by have := HK1.out; have := HK2.out; omega⟩, ⟨by (with_reducible repeat (first | apply Kd.R_alloc | apply Kd.R_drewN | apply Kd.R_drew)); exact Kd.R_mono HO148.out (fun _ hk => trivial)⟩, ⟨by repeat (first | (with_reducible first | exact HB.out | apply bA | apply bD | apply bE | refine below_set ?_ GE105.out) | exact HB.out)⟩⟩
             ·rw [if_neg c46] at H
              exact absurd H (by simp)
            ·rw [if_neg c43] at H
             exact absurd H (by simp)
           ·rw [if_neg c42] at H
            exact absurd H (by simp)
          ·rw [if_neg c41] at H
           exact absurd H (by simp)
         ·rw [if_neg c40] at H
          exact absurd H (by simp)
     ·rw [if_neg c6] at H
      exact absurd H (by simp)
    ·rw [if_neg c5] at H
     exact absurd H (by simp)
   ·rw [if_neg c4] at H
    have c4b0 : decide (x11_1 < (l0.length : Int)) = false := decide_eq_false c4
    clear c4
    obtain rfl := Option.some.inj H
    go_wp2
    go_ret
    exact ⟨_, by first | rfl | (simp [*, errW_none, errW_some] <;> rfl), by (with_reducible repeat (first | apply Kd.R_alloc | apply Kd.R_drewN | apply Kd.R_drew)); exact HO_3.out, by repeat (first | (with_reducible first | exact HB.out | apply bA | apply bD | apply bE) | exact HB.out)⟩

end Go.Proofs.Ytbhnmofbbnimaaa.G
